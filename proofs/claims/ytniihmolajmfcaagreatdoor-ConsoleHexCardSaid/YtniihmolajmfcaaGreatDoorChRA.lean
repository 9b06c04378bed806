/- A part of a proof (see the text that ends in Proof). No conditions. -/
import Derived.Shelf.Bytes.WriteAny
import Derived.Shelf.Bytes.Bytes
import Derived.Shelf.Bytes.GrowRowOwn
import Derived.Test.YtniihmolajmfcaaGreatDoorChBC
import Derived.OwnWalkIn
import Derived.TacticsInMore
import Derived.BigFrameIn
import Derived.Shelf.Bytes.SlJoin
import Derived.Lib.ItoaNum
import Derived.Lib.LaidTab
import Derived.Lib.Bytealg
import Derived.Sort.Grow
import Derived.Deep.Draws
import Derived.Shelf.Strconv.Itoa3
import Derived.Shelf.Strconv.AtoiAll
import Derived.Shelf.Strings.Count
import Derived.Shelf.Strings.Search3
import Derived.Shelf.Strings.Search1
import Derived.Shelf.Strings.Builder1
import Derived.Shelf.Strings.Builder2Cap
set_option linter.unusedVariables false
set_option linter.unusedSimpArgs false
namespace Go
theorem F0{p:Prop}(h:p:=by kernel_rfl):p:=h
end Go
namespace Go.Proofs.Rf
open Go.Shelf Go.RowKit Go Go.Proofs
variable {P:Program} {ρ:Ren}
def jO(b:Nat)(w w':World):Prop:=∀k,k<w.heap.size->k≠b-> (∀ad n c,w.cell? ⟨b,0,none⟩=some (.slice (some ad) n c)->k≠ad.block)->w'.heap[k]? =w.heap[k]?
def O2(b m:Nat)(w':World):Prop:=∃g len cap,w'.cell? ⟨b,0,none⟩=some (.slice (some ⟨g,0,none⟩) len cap)/\m<=g
set_option maxHeartbeats 6400000 in
set_option maxRecDepth 100000 in
theorem Alb(L:LaysM.n252 P ρ)(B b n:Nat)(lr:Int)(w:World)(hB:B<=b)(hBw:B<=w.heap.size)
  (hbk:w.heap[b]? =some (.cells #[.slice none 0 0, .int .i64 0, .int .i8 lr] (ρ.t 93) (0,0))) (hn:1<=n) (h64:n<=64):
  Calls P (ρ.f 252) #[.pointer (some ⟨b,0,none⟩), .int .i64 n] w λe w'=>e= .returned (.int .i64 0)/\ (∃xs,xs.length=n/\Lib.IsBuffer (ρ.t 93) (ρ.t 5) B b xs w'/\Below B w w')/\w.grownBy w' (some b)/\O2 b w.heap.size w':=by
 have mixed:=L.mixed;have t5:=L.t5;have a5:=L.a5;have z5:=L.z5;have v5:=L.v5;have t130:=L.t130;have a130:=L.a130;have z130:=L.z130;have v130:=L.v130;have t3:=L.t3;have a3:=L.a3;have z3:=L.z3;have v3:=L.v3;have t4:=L.t4;have a4:=L.a4;have z4:=L.z4;have v4:=L.v4;have t0:=L.t0;have a0:=L.a0;have z0:=L.z0;have v0:=L.v0;have t93:=L.t93;have u93:=C4 L.t93;have a93:=L.a93;have z93:=L.z93;have v93:=L.v93;have t131:=L.t131;have a131:=L.a131;have z131:=L.z131;have v131:=L.v131;have t37:=L.t37;have a37:=L.a37;have z37:=L.z37;have v37:=L.v37;have t75:=L.t75;have a75:=L.a75;have z75:=L.z75;have v75:=L.v75;have e181:∀args w,(callFunc (ρ.f 181) args).run P w= .ok (.enter (ρ.f 181) args) w:=enters_of L.f181 F0 rfl;have e251:∀args w,(callFunc (ρ.f 251) args).run P w= .ok (.enter (ρ.f 251) args) w:=enters_of L.f251 F0 rfl;obtain⟨i0,hi,hz0,hz1,hz2⟩:=info_parts L.i5;obtain⟨M,hM⟩:∃M,M=madeCells (Value.int .u8 0).cells ((64:Int).toNat*i0.size):=⟨_,rfl⟩;have hMs:M.size=64:=by rw[hM,size_madeCells,hz1];rfl
 have hmk:∀W:World,(Instr.makeSlice (ρ.t 37) (.int .i64 (n:Int)) (.int .i64 64)).run P W= .ok (.slice (some ⟨W.heap.size,0,none⟩) n 64) (W.alloc (.cells M (ρ.t 5))):=λW=>by
  have h:=run_makeSlice (P:=P) W (ρ.t 37) (ρ.t 5) i0 (.int .u8 0) L.t37 hi hz0 .i64 .i64 (n:Int) 64 F3 F3 (by rw[hz1];decide) (by rw[hz2];decide) F4;rw[<-hM]at h;simpa using h
 clear hM;have hIs:Lib.IsBuffer (ρ.t 93) (ρ.t 5) B b [] w:=⟨hB,_,_,hbk,World.ownsRow_nil _ _ _ _,by simp[Value.ownBlock]⟩;have hnil:∀W,(binOp .eql (ρ.t 37) (.slice none 0 0) (.slice none 0 0)).run P W= .ok (.bool true) W:=λW=>Lib.run_eql_slice_nil_nil W _ _ L.t37
 go_enter L.f252,Body.n252_ntmps ρ
 go_wp2_with (go_at_fn (ρ.f 181);refine(Any.Buffer_Len {L with} B b [] _ hIs).mono ?_)
 rintro e W0 ⟨rfl,k,hW0⟩;have hbk0:W0.heap[b]? =some (.cells #[.slice none 0 0, .int .i64 0, .int .i8 lr] (ρ.t 93) (0,0)):=by rw[hW0];exact hbk
 have c0:W0.cell? ⟨b,0,none⟩=some (.slice none 0 0):=by rw[Lib.cell_of_heap hbk0];rfl
 have c1:W0.cell? ⟨b,1,none⟩=some (.int .i64 0):=by rw[Lib.cell_of_heap hbk0];rfl
 have f0:W0.frozen? ⟨b,0,none⟩=false:=Lib.frozen_of_heap hbk0 0;have f1:W0.frozen? ⟨b,1,none⟩=false:=Lib.frozen_of_heap hbk0 1;have hbW0:=Lib.lt_of_heap hbk0;have c0a:∀o,(W0.alloc o).cell? ⟨b,0,none⟩=some (.slice none 0 0):=λo=>(kR (a:=⟨b,0,none⟩) (Below.heap_alloc W0 o b hbW0)).trans c0;have f0a:∀o,(W0.alloc o).frozen? ⟨b,0,none⟩=false:=λo=>(World.frozen?_of_block (a:=⟨b,0,none⟩) (Below.heap_alloc W0 o b hbW0)).trans f0;have HW0:=Lib.hid hW0;clear hW0 hIs
 go_wp2_with (go_at_fn (ρ.f 251);refine(Any.Buffer_tryGrow_none {L with} b _ 0 0 n _ c0 (E3 _) (WT _) F3).mono ?_;rintro e w' ⟨rfl,rfl⟩)
 go_ret
 have hsz0:w'.heap.size=w.heap.size:=by rw[HW0.out];rfl
 have hb0:Below B w w':=by rw[HW0.out];exact⟨rfl,rfl,rfl,E3 _,λ_ _=>rfl⟩
 have hg0:w.grownBy w' (some b):=by rw[HW0.out];exact⟨rfl,rfl,rfl,E3 _,λ_ _ _=>rfl⟩
 obtain⟨xs,q1,q2,q3⟩:=Lib.grow_small_end hB hbk0 F3 hMs h64 (by unfold maxLen;omega) hb0;refine⟨rfl,⟨xs,q1,q2,q3⟩,Lib.grownBy_allocR (Lib.grownBy_setB hg0 0 _) _,?_⟩;refine⟨w'.heap.size,n,64,?_,F3⟩;exact(kR (a:=⟨b,0,none⟩) (Below.heap_alloc _ _ b (by simpa using hbW0))).trans (kF _ _ _ (by rw[c0];rfl))
set_option maxHeartbeats 12800000 in
set_option maxRecDepth 100000 in
theorem Aju(L:LaysM.n252 P ρ)(B b g l cap n:Nat)(lr:Int)(cur:Array Value)(bs:List Value)(w:World)(hB:B<=b)(hBw:B<=w.heap.size)
  (hbk:w.heap[b]? =some (.cells #[.slice (some ⟨g,0,none⟩) l cap, .int .i64 0, .int .i8 lr] (ρ.t 93) (0,0)))
  (hl:bs.length=l) (hBg:B<=g) (hg:w.heap[g]? =some (.cells cur (ρ.t 5) (0,0))) (hlc:l<=cap) (hcm:cap<=maxLen) (hcs:cur.size=cap) (htake:cur.toList.take l=bs) (hgb:g≠b)
  (h1:∀v∈bs,v.oneCell'=true) (hn:1<=n) (hroom:cap-l<n) (hlim:l+n<=140737488355328) (hl0:l≠0):
  Calls P (ρ.f 252) #[.pointer (some ⟨b,0,none⟩), .int .i64 n] w λe w'=>e= .returned (.int .i64 l)/\ (∃xs,xs.length=n/\Lib.IsBuffer (ρ.t 93) (ρ.t 5) B b (bs++xs) w'/\Below B w w')/\w.grownBy w' (some b)/\O2 b w.heap.size w':=by
 have mixed:=L.mixed;have t5:=L.t5;have a5:=L.a5;have z5:=L.z5;have v5:=L.v5;have t130:=L.t130;have a130:=L.a130;have z130:=L.z130;have v130:=L.v130;have t3:=L.t3;have a3:=L.a3;have z3:=L.z3;have v3:=L.v3;have t4:=L.t4;have a4:=L.a4;have z4:=L.z4;have v4:=L.v4;have t0:=L.t0;have a0:=L.a0;have z0:=L.z0;have v0:=L.v0;have t93:=L.t93;have u93:=C4 L.t93;have a93:=L.a93;have z93:=L.z93;have v93:=L.v93;have t131:=L.t131;have a131:=L.a131;have z131:=L.z131;have v131:=L.v131;have t37:=L.t37;have a37:=L.a37;have z37:=L.z37;have v37:=L.v37;have t75:=L.t75;have a75:=L.a75;have z75:=L.z75;have v75:=L.v75;have e181:∀args w,(callFunc (ρ.f 181) args).run P w= .ok (.enter (ρ.f 181) args) w:=enters_of L.f181 F0 rfl;have e251:∀args w,(callFunc (ρ.f 251) args).run P w= .ok (.enter (ρ.f 251) args) w:=enters_of L.f251 F0 rfl;have e290:∀args w,(callFunc (ρ.f 290) args).run P w= .ok (.enter (ρ.f 290) args) w:=enters_of L.f290 F0 rfl;have hIs:Lib.IsBuffer (ρ.t 93) (ρ.t 5) B b bs w:=⟨hB,_,_,hbk,⟨by rw[hl,T5], .inr ⟨g,cap,cur,by rw[hl],hBg,hg,F3,hcm,F3,by rw[hl,T5];exact htake⟩⟩,by simp[Value.ownBlock];exact hgb⟩;have hnil:∀W,(binOp .eql (ρ.t 37) (.slice (some ⟨g,0,none⟩) l cap) (.slice none 0 0)).run P W= .ok (.bool false) W:=λW=>Lib.run_eql_slice_some_nil W _ _ _ L.t37
 go_enter L.f252,Body.n252_ntmps ρ
 go_wp2_with (go_at_fn (ρ.f 181);refine(Any.Buffer_Len {L with} B b bs _ hIs).mono ?_)
 rintro e W0 ⟨rfl,k,hW0⟩;rw[hl];have hbk0:W0.heap[b]? =some (.cells #[.slice (some ⟨g,0,none⟩) l cap, .int .i64 0, .int .i8 lr] (ρ.t 93) (0,0)):=by rw[hW0];exact hbk
 have hg0:W0.heap[g]? =some (.cells cur (ρ.t 5) (0,0)):=by rw[hW0];exact hg
 have c0:W0.cell? ⟨b,0,none⟩=some (.slice (some ⟨g,0,none⟩) l cap):=by rw[Lib.cell_of_heap hbk0];rfl
 have c1:W0.cell? ⟨b,1,none⟩=some (.int .i64 0):=by rw[Lib.cell_of_heap hbk0];rfl
 have f0:W0.frozen? ⟨b,0,none⟩=false:=Lib.frozen_of_heap hbk0 0;have f1:W0.frozen? ⟨b,1,none⟩=false:=Lib.frozen_of_heap hbk0 1;have HW0:=Lib.hid hW0;clear hW0 hIs;have hcm':=hcm;unfold maxLen at hcm'
 go_wp2_with (go_at_fn (ρ.f 251);refine(Any.Buffer_tryGrow_none {L with} b _ l cap n _ c0 hlc hcm hroom).mono ?_;rintro e w' ⟨rfl,rfl⟩)
 have hc2:cap<=140737488355328:=F3
 have h1':∀v∈cur.toList.take l,v.oneCell'=true:=by rw[htake];exact h1
 have hbW:=Lib.lt_of_heap hbk0;have hwn:IntKind.i64.wrap (n:Int)=n:=by rw[kY];omega
 go_region_with_o (
   go_at_fn (ρ.f 290)
   refine(Any.bytes_growSlice_row {L with} g l cap n cur _ ?_ hcs hlc hn hlim hc2 h1').mono ?_;exact hg0;rintro e w2 ⟨cap2,cells,rfl,hN,hcsz,htk,hcap2,hcm2,hbel⟩;have hbk2:w2.heap[b]? =some (.cells #[.slice (some ⟨g,0,none⟩) l cap, .int .i64 0, .int .i8 lr] (ρ.t 93) (0,0)):=(hbel.block b hbW).trans hbk0;have d0:w2.cell? ⟨b,0,none⟩=some (.slice (some ⟨g,0,none⟩) l cap):=by rw[Lib.cell_of_heap hbk2];rfl
   have d1:w2.cell? ⟨b,1,none⟩=some (.int .i64 0):=by rw[Lib.cell_of_heap hbk2];rfl
   have e0:w2.frozen? ⟨b,0,none⟩=false:=Lib.frozen_of_heap hbk2 0;have e1:w2.frozen? ⟨b,1,none⟩=false:=Lib.frozen_of_heap hbk2 1)
 all_goals (
  go_wp2
  go_ret
  have hsz0:w'.heap.size=w.heap.size:=by rw[HW0.out];rfl
  have hb0:Below B w w'.drew:=by rw[HW0.out];exact⟨rfl,rfl,rfl,E3 _,λ_ _=>rfl⟩
  have hg2:w.grownBy w2 (some b):=Lib.grownBy_below (w:=w'.drew) (by rw[HW0.out];exact⟨rfl,rfl,rfl,E3 _,λ_ _ _=>rfl⟩) hbel;obtain⟨xs,q1,q2,q3⟩:=Lib.grow_end hB hbk2 hN (by show B<=w'.heap.size;omega) (by show w'.heap.size≠b;omega) hcsz (htk.trans htake) hcap2 hcm2 (hb0.trans (hbel.mono (by show B<=w'.heap.size;omega))) _;refine⟨rfl,⟨xs,q1,q2,q3⟩,Lib.grownBy_setB (Lib.grownBy_setB (Lib.grownBy_setB hg2 0 _) 1 _) 0 _,?_⟩;refine⟨w'.heap.size,l+n,cap2,?_,F3⟩;refine kF _ _ _ ?_;rw[World.cell?_setCell_other _ _ _ _ F7,kF _ _ _ (by rw[d0];rfl)];rfl)
theorem PF{b:Nat}{w W W':World}(h:w.grownBy W (some b))(hk:∀k,k<w.heap.size->k≠b-> (∀ad n c,w.cell? ⟨b,0,none⟩=some (.slice (some ad) n c)->k≠ad.block)->W'.heap[k]? =W.heap[k]?):jO b w W':=
 λk h1 h2 h3=>(hk k h1 h2 h3).trans (h.block k h1 (λe=>h2 (G1 e)))
set_option maxHeartbeats 6400000 in
set_option maxRecDepth 100000 in
theorem Aq8(L:LaysM.n178 P ρ)(B b:Nat)(bs:List Value)(s:ByteArray)(w:World)(h:Lib.IsBuffer (ρ.t 93) (ρ.t 5) B b bs w)(hf:bs=[]->w.cell? ⟨b,0,none⟩=some (.slice none 0 0)/\1<=s.size/\s.size<=64)
  (hBw:B<=w.heap.size) (h1:∀v∈bs,v.oneCell'=true) (hlim:bs.length+s.size<=140737488355328):
  Calls P (ρ.f 178) #[.pointer (some ⟨b,0,none⟩), .string s] w λe w'=>e= .returned (.tuple #[.int .i64 s.size, .nilIface])/\Lib.IsBuffer (ρ.t 93) (ρ.t 5) B b (bs++Lib.byteCells s.data.toList) w'/\Below B w w'/\jO b w w':=by
 have mixed:=L.mixed;have t5:=L.t5;have a5:=L.a5;have z5:=L.z5;have v5:=L.v5;have t130:=L.t130;have a130:=L.a130;have z130:=L.z130;have v130:=L.v130;have t9:=L.t9;have a9:=L.a9;have z9:=L.z9;have v9:=L.v9;have t3:=L.t3;have a3:=L.a3;have z3:=L.z3;have v3:=L.v3;have t75:=L.t75;have a75:=L.a75;have z75:=L.z75;have v75:=L.v75;have t0:=L.t0;have a0:=L.a0;have z0:=L.z0;have v0:=L.v0;have t93:=L.t93;have u93:=C4 L.t93;have a93:=L.a93;have z93:=L.z93;have v93:=L.v93;have t91:=L.t91;have a91:=L.a91;have z91:=L.z91;have v91:=L.v91;have t131:=L.t131;have a131:=L.a131;have z131:=L.z131;have v131:=L.v131;have t4:=L.t4;have a4:=L.a4;have z4:=L.z4;have v4:=L.v4;have t37:=L.t37;have a37:=L.a37;have z37:=L.z37;have v37:=L.v37;have e251:∀args w,(callFunc (ρ.f 251) args).run P w= .ok (.enter (ρ.f 251) args) w:=enters_of L.f251 F0 rfl;have e252:∀args w,(callFunc (ρ.f 252) args).run P w= .ok (.enter (ρ.f 252) args) w:=enters_of L.f252 F0 rfl;obtain⟨hB,lr,hcase⟩:=h.cases;have hinfo:(P.info? (ρ.t 5)).map (·.size)=some 1:=by
  obtain⟨i0,hi, -,hz1, -⟩:=info_parts L.i5;rw[hi];simp[hz1]
 have hnl:(Lib.byteCells s.data.toList).length=s.size:=by rw[Lib.byteCells_length,<-Lib.size_eq]
 have fin:∀{W1:World} {xs:List Value},xs.length=s.size->Lib.IsBuffer (ρ.t 93) (ρ.t 5) B b (bs++xs) W1->Below B w W1->w.grownBy W1 (some b)->O2 b w.heap.size W1->s.size≠0->
   ∃g cap,∃cur:Array Value,W1.heap[g]? =some (.cells cur (ρ.t 5) (0,0))/\W1.cell? ⟨b,0,none⟩=some (.slice (some ⟨g,0,none⟩) (bs.length+s.size) cap)/\bs.length+s.size<=cap/\cap<=maxLen/\cur.size=cap/\
    Lib.IsBuffer (ρ.t 93) (ρ.t 5) B b (bs++Lib.byteCells s.data.toList) (W1.setRow g (cur.toList.take bs.length++Lib.byteCells s.data.toList++cur.toList.drop (bs.length+s.size)).toArray)/\
    Below B w (W1.setRow g (cur.toList.take bs.length++Lib.byteCells s.data.toList++cur.toList.drop (bs.length+s.size)).toArray)/\
    jO b w (W1.setRow g (cur.toList.take bs.length++Lib.byteCells s.data.toList++cur.toList.drop (bs.length+s.size)).toArray):=by
  intro W1 xs hxl hI hbel Awl hnew hs0;obtain⟨-,lr2,hc⟩:=hI.cases;rcases hc with⟨hnil, -⟩|⟨g,cap,cur,hbk2,hBg,hg,hnc,hcm,hcs,htk,hgb⟩
  ·exact absurd (congrArg List.length hnil) (by rw[C!,hxl,C2];omega)
  rw[C!,hxl]at hbk2 hnc htk;have d0:W1.cell? ⟨b,0,none⟩=some (.slice (some ⟨g,0,none⟩) (bs.length+s.size) cap):=by rw[Lib.cell_of_heap hbk2];rfl
  obtain⟨r1,r2⟩:=Lib.written_end (news:=Lib.byteCells s.data.toList) (l:=bs.length) hB (by rw[hnl];exact hbk2) hBg hg hcm hcs hgb (by rw[hnl];exact hnc);have e1:cur.toList.take bs.length=bs:=by
   have h3:=congrArg (List.take bs.length) htk;rwa [List.take_take,QN (Nat.le_add_right _ _),List.take_left' rfl]at h3
  rw[hnl]at r1 r2;refine⟨g,cap,cur,hg,d0,hnc,hcm,hcs,by rw[e1]at r1⊢;exact r1,hbel.trans r2,PF Awl λk h1 h2 h3=>?_⟩;obtain⟨g',len',cap',hn1,hn2⟩:=hnew;rw[d0]at hn1;cases hn1;exact setRow_other _ _ _ _ F3
 rcases hcase with⟨hnil,hbk⟩|⟨g,cap,cur,hbk,hBg,hg,hnc,hcm,hcs,htk,hgb⟩
 ·
  obtain⟨hc0,hs1,Awm⟩:=hf hnil;subst hnil;have c2:w.cell? ⟨b,2,none⟩=some (.int .i8 lr):=by rw[Lib.cell_of_heap hbk];rfl
  have f2:w.frozen? ⟨b,2,none⟩=false:=Lib.frozen_of_heap hbk 2;have hbk':=Lib.heap_setCell_same (i:=2) hbk (.int .i8 0);have hcx:(w.setCell ⟨b,2,none⟩ (.int .i8 0)).cell? ⟨b,0,none⟩=some (.slice none 0 0):=by rw[Lib.cell_of_heap hbk'];rfl
  go_enter L.f178,Body.n178_ntmps ρ
  go_wp2_with (go_at_fn (ρ.f 251);refine(Any.Buffer_tryGrow_none {L with} b none 0 0 s.size _ hcx (E3 _) (WT _) F3).mono ?_;rintro e W1 ⟨rfl,rfl⟩)
  refine(Alb {L with} B b s.size 0 _ hB ?_ ?_ hs1 Awm).mono ?_
  ·simpa [World.setCell]using hBw
  ·exact hbk'
  rintro e W1 ⟨rfl,⟨xs,hxl,hI,hbel⟩,hgr,hnew⟩;obtain⟨g,cap,cur,hg,d0,hnc,hcm,hcs,r1,r2,r3⟩:=fin (W1:=W1) hxl (by simpa using hI) (((Below.refl B w).setCell (p:=⟨b,2,none⟩) hB _).trans hbel) (Lib.grownBy_trans (Lib.grownBy_setCell w b 2 _) hgr) (by simpa [O2,World.setCell]using hnew) F3;have hne:¬cap=(0:Nat):=by simp at hnc;omega
  have hcp:=Lib.run_copy_row_string (P:=P) W1 (ρ.t 37) (ρ.t 9) (ρ.t 3) (ρ.t 5) g 0 s.size (cap-0) s cur (ρ.t 5) L.t37 hinfo hg (E3 _) (by simp at hnc⊢;omega);have hcm':=hcm;unfold maxLen at hcm';simp only[C2,H2,O',J7,WG]at d0 hnc hcp r1 r2 r3 hne
  go_wp2
  go_ret2
  exact⟨rfl,r1,r2,r3⟩
 ·have c2:w.cell? ⟨b,2,none⟩=some (.int .i8 lr):=by rw[Lib.cell_of_heap hbk];rfl
  have f2:w.frozen? ⟨b,2,none⟩=false:=Lib.frozen_of_heap hbk 2;have c0:w.cell? ⟨b,0,none⟩=some (.slice (some ⟨g,0,none⟩) bs.length cap):=by rw[Lib.cell_of_heap hbk];rfl
  have hl0:bs.length≠0:=λe=>by
   have:=(hf (I5 e)).1;rw[c0]at this;cases this
  have hbk':=Lib.heap_setCell_same (i:=2) hbk (.int .i8 0);have c0':(w.setCell ⟨b,2,none⟩ (.int .i8 0)).cell? ⟨b,0,none⟩=some (.slice (some ⟨g,0,none⟩) bs.length cap):=by rw[Lib.cell_of_heap hbk'];rfl
  have f0':(w.setCell ⟨b,2,none⟩ (.int .i8 0)).frozen? ⟨b,0,none⟩=false:=Lib.frozen_of_heap hbk' 0;have hg':(w.setCell ⟨b,2,none⟩ (.int .i8 0)).heap[g]? =some (.cells cur (ρ.t 5) (0,0)):=by rw[Below.heap_setCell _ _ _ _ hgb];exact hg
  have hbel0:Below B w (w.setCell ⟨b,2,none⟩ (.int .i8 0)):=(Below.refl B w).setCell (p:=⟨b,2,none⟩) hB _;have hrow:∀n:Nat,(w.setCell ⟨b,2,none⟩ (.int .i8 0)).heap[g]? =some (.cells cur (ρ.t 5) (0,0))->True:=λ_ _=>trivial;by_cases hr:s.size<=cap-bs.length
  ·by_cases hs0:s.size=0
   ·have hce:∀d dLen dCap W,(Builtin.copy_ #[(ρ.t 37),(ρ.t 9)] (ρ.t 3) #[.slice d dLen dCap, .string s]).run P W= .ok (goInt 0) W:=λd dLen dCap W=>Lib.run_copy_empty_string W (ρ.t 37) (ρ.t 9) (ρ.t 3) (ρ.t 5) d dLen dCap s L.t37 (by rw[hinfo];rfl) hs0;have hbc:Lib.byteCells s.data.toList=[]:=I5 (by rw[hnl];exact hs0);have hT:Calls P (ρ.f 251) #[.pointer (some ⟨b,0,none⟩), .int .i64 0] (w.setCell ⟨b,2,none⟩ (.int .i8 0)) λe w'=>e= .returned (.tuple #[.int .i64 bs.length, .bool true])/\w'=(w.setCell ⟨b,2,none⟩ (.int .i8 0)).setCell ⟨b,0,none⟩ (.slice (some ⟨g,0,none⟩) bs.length cap):=Any.Buffer_tryGrow_room {L with} b _ bs.length cap 0 _ c0' f0' hnc hcm (WT _);clear hrow
    go_enter L.f178,Body.n178_ntmps ρ
    go_wp2_with (go_at_fn (ρ.f 251);refine hT.mono ?_;refine Hid.out ?_)
    refine Lib.hid ?_;rintro e W1 ⟨rfl,hW1⟩;have hbk1:W1.heap[b]? =some (.cells #[.slice (some ⟨g,0,none⟩) bs.length cap, .int .i64 0, .int .i8 0] (ρ.t 93) (0,0)):=by rw[hW1];exact Lib.heap_setCell_same (i:=0) hbk' _
    have hg1:W1.heap[g]? =some (.cells cur (ρ.t 5) (0,0)):=by rw[hW1,Below.heap_setCell _ _ _ _ hgb];exact hg'
    have hgr:w.grownBy W1 (some b):=by rw[hW1];exact Lib.grownBy_setB (Lib.grownBy_setCell w b 2 _) 0 _
    have hbel:Below B w W1:=by rw[hW1];exact hbel0.setCell (p:=⟨b,0,none⟩) hB _
    clear hW1;have d0:W1.cell? ⟨b,0,none⟩=some (.slice (some ⟨g,0,none⟩) bs.length cap):=by rw[Lib.cell_of_heap hbk1];rfl
    have hI:=Lib.isBuffer_mk (T:=ρ.t 93) (e:=ρ.t 5) (lr:=0) hB hbk1 hBg hg1 hnc hcm hcs hgb;rw[htk]at hI;have hcm':=hcm;unfold maxLen at hcm'
    go_wp2
    all_goals (go_ret2;exact⟨by simp[hs0],by simpa [hbc]using hI,hbel,PF hgr λk _ _ _=>rfl⟩)
   ·go_enter L.f178,Body.n178_ntmps ρ
    go_wp2_with (go_at_fn (ρ.f 251);refine(Any.Buffer_tryGrow_room {L with} b _ bs.length cap s.size _ c0' f0' hnc hcm hr).mono ?_;refine Hid.out ?_)
    refine Lib.hid ?_;rintro e W1 ⟨rfl,hW1⟩;have hbk1:W1.heap[b]? =some (.cells #[.slice (some ⟨g,0,none⟩) (bs.length+s.size) cap, .int .i64 0, .int .i8 0] (ρ.t 93) (0,0)):=by rw[hW1];exact Lib.heap_setCell_same (i:=0) hbk' _
    have hg1:W1.heap[g]? =some (.cells cur (ρ.t 5) (0,0)):=by rw[hW1,Below.heap_setCell _ _ _ _ hgb];exact hg'
    have hgr:w.grownBy W1 (some b):=by rw[hW1];exact Lib.grownBy_setB (Lib.grownBy_setCell w b 2 _) 0 _
    have hbel:Below B w W1:=by rw[hW1];exact hbel0.setCell (p:=⟨b,0,none⟩) hB _
    clear hW1;have d0:W1.cell? ⟨b,0,none⟩=some (.slice (some ⟨g,0,none⟩) (bs.length+s.size) cap):=by rw[Lib.cell_of_heap hbk1];rfl
    have hne:¬cap=bs.length:=F3
    have hcp:=Lib.run_copy_row_string (P:=P) W1 (ρ.t 37) (ρ.t 9) (ρ.t 3) (ρ.t 5) g bs.length s.size (cap-bs.length) s cur (ρ.t 5) L.t37 hinfo hg1 (E3 _) F3;have hcm':=hcm;unfold maxLen at hcm'
    go_wp2
    go_ret2
    obtain⟨r1,r2⟩:=Lib.written_end (news:=Lib.byteCells s.data.toList) (l:=bs.length) hB (by rw[hnl];exact hbk1) hBg hg1 hcm hcs hgb (by rw[hnl];omega);rw[hnl]at r1 r2;rw[htk]at r1;refine⟨rfl,?_,hbel.trans ?_,PF hgr λk h1 h2 h3=>setRow_other _ _ _ _ (h3 _ _ _ c0)⟩
    ·simpa [htk]using r1
    ·simpa [htk]using r2
  ·go_enter L.f178,Body.n178_ntmps ρ
   go_wp2_with (go_at_fn (ρ.f 251);refine(Any.Buffer_tryGrow_none {L with} b _ bs.length cap s.size _ c0' hnc hcm F3).mono ?_;rintro e W1 ⟨rfl,rfl⟩)
   refine(Aju {L with} B b g bs.length cap s.size 0 cur bs _ hB ?_ ?_ rfl hBg ?_ hnc hcm hcs htk hgb h1 F3 F3 hlim hl0).mono ?_
   ·simpa [World.setCell]using hBw
   ·exact hbk'
   ·exact hg'
   rintro e W1 ⟨rfl,⟨xs,hxl,hI,hbel⟩,hgr,hnew⟩;obtain⟨g,cap,cur,hg,d0,hnc,hcm,hcs,r1,r2,r3⟩:=fin (W1:=W1) hxl hI (hbel0.trans hbel) (Lib.grownBy_trans (Lib.grownBy_setCell w b 2 _) hgr) (by simpa [O2,World.setCell]using hnew) F3;have hne:¬cap=bs.length:=F3
   have hcp:=Lib.run_copy_row_string (P:=P) W1 (ρ.t 37) (ρ.t 9) (ρ.t 3) (ρ.t 5) g bs.length s.size (cap-bs.length) s cur (ρ.t 5) L.t37 hinfo hg (E3 _) F3;have hcm':=hcm;unfold maxLen at hcm';simp only[H?]at r1 r2 r3
   go_wp2
   go_ret2
   exact⟨rfl,r1,r2,r3⟩
set_option maxHeartbeats 6400000 in
set_option maxRecDepth 100000 in
theorem Ae3(L:LaysM.n180 P ρ)(B b:Nat)(bs:List Value)(ad:Option Addr)(c:Nat)(w:World)(h:Lib.IsBuffer (ρ.t 93) (ρ.t 5) B b bs w)(hBw:B<=w.heap.size):
  Calls P (ρ.f 180) #[.pointer (some ⟨b,0,none⟩), .slice ad 0 c] w λe w'=>e= .returned (.tuple #[.int .i64 0, .nilIface])/\Lib.IsBuffer (ρ.t 93) (ρ.t 5) B b bs w'/\Below B w w'/\Lib.OthersKept (ρ.t 5) (some b) w w':=by
 have mixed:=L.mixed;have t5:=L.t5;have a5:=L.a5;have z5:=L.z5;have v5:=L.v5;have t130:=L.t130;have a130:=L.a130;have z130:=L.z130;have v130:=L.v130;have t37:=L.t37;have a37:=L.a37;have z37:=L.z37;have v37:=L.v37;have t3:=L.t3;have a3:=L.a3;have z3:=L.z3;have v3:=L.v3;have t75:=L.t75;have a75:=L.a75;have z75:=L.z75;have v75:=L.v75;have t0:=L.t0;have a0:=L.a0;have z0:=L.z0;have v0:=L.v0;have t93:=L.t93;have u93:=C4 L.t93;have a93:=L.a93;have z93:=L.z93;have v93:=L.v93;have t91:=L.t91;have a91:=L.a91;have z91:=L.z91;have v91:=L.v91;have t131:=L.t131;have a131:=L.a131;have z131:=L.z131;have v131:=L.v131;have t4:=L.t4;have a4:=L.a4;have z4:=L.z4;have v4:=L.v4;have e251:∀args w,(callFunc (ρ.f 251) args).run P w= .ok (.enter (ρ.f 251) args) w:=enters_of L.f251 F0 rfl;have e252:∀args w,(callFunc (ρ.f 252) args).run P w= .ok (.enter (ρ.f 252) args) w:=enters_of L.f252 F0 rfl;have hinfo:(P.info? (ρ.t 5)).map (·.size)=some 1:=by
  obtain⟨i0,hi, -,hz1, -⟩:=info_parts L.i5;rw[hi];simp[hz1]
 have hce:∀d dLen dCap W,(Builtin.copy_ #[(ρ.t 37),(ρ.t 37)] (ρ.t 3) #[.slice d dLen dCap, .slice ad 0 c]).run P W= .ok (goInt 0) W:=by
  intro d dLen dCap W;cases hq:P.info? (ρ.t 5)with
  |none=>simp[hq]at hinfo
  |some i=>cases d<;>cases ad<;>simp[Builtin.copy_,C4 L.t37,Builtin.lenOf,Builtin.firstCells,sizeOf,typeInfo,hq,loadCells,loadCellsFrom,storeCells]
 obtain⟨hB,v0,lr,hbk, -, -⟩:=id h;have c2:w.cell? ⟨b,2,none⟩=some (.int .i8 lr):=by rw[Lib.cell_of_heap hbk];rfl
 have f2:w.frozen? ⟨b,2,none⟩=false:=Lib.frozen_of_heap hbk 2;have h':=h.setLast 0;have hbel0:Below B w (w.setCell ⟨b,2,none⟩ (.int .i8 0)):=(Below.refl B w).setCell (p:=⟨b,2,none⟩) hB _;have hk0:Lib.OthersKept (ρ.t 5) (some b) w (w.setCell ⟨b,2,none⟩ (.int .i8 0)):=(Lib.OthersKept.refl _ _ w).setCell ⟨b,2,none⟩ rfl _;clear hbk v0;have hT:∀W,Lib.IsBuffer (ρ.t 93) (ρ.t 5) B b bs W->Calls P (ρ.f 251) #[.pointer (some ⟨b,0,none⟩), .int .i64 0] W _:=λW hW=>Any.Buffer_tryGrow_own {L with} B b 0 bs W hW
 go_enter L.f180,Body.n180_ntmps ρ
 go_wp2_with (go_at_fn (ρ.f 251);refine(hT _ ?_).mono ?_)
 ·exact h'
 rintro e W1 (⟨rfl,xs,hxl,hI,hbel,hk, -⟩|⟨rfl,rfl,hnr⟩)
 ·clear h' c2 f2 hT;have hx0:xs=[]:=I5 hxl;subst hx0;rw[G5]at hI;obtain⟨-,lr2,hc⟩:=hI.cases;rcases hc with⟨hb0,hbk2⟩|⟨g,cap,cur,hbk2, -, -,hnc,hcm, -, -, -⟩
  ·subst hb0;have d0:W1.cell? ⟨b,0,none⟩=some (.slice none 0 0):=by rw[Lib.cell_of_heap hbk2];rfl
   go_wp2
   all_goals (go_ret2;exact⟨rfl,hI,hbel0.trans hbel,hk0.trans hk⟩)
  ·have d0:W1.cell? ⟨b,0,none⟩=some (.slice (some ⟨g,0,none⟩) bs.length cap):=by rw[Lib.cell_of_heap hbk2];rfl
   unfold maxLen at hcm
   go_wp2
   all_goals (go_ret2;exact⟨rfl,hI,hbel0.trans hbel,hk0.trans hk⟩)
 ·obtain⟨_,_,_,_,hlt⟩:=hnr;omega
end Go.Proofs.Rf
namespace Go.Proofs.Rf
open Go.RowKit Go.Shelf Go Go.Rx Go.Lv Go.Proofs
theorem nH{B:Reg}{w:World}:∀{l:List UInt8} {c:List Value},Bs (Aq B w (.int .u8)) l c->c=Lib.byteCells l
 |[],c,h=>h
 |x::l,c,⟨c1,c2,h1,h2,h3⟩=>by
  rw[h1,show c1=_ from h2,nH h3];rfl
theorem qo{B:Reg}{w:World}:∀(l:List UInt8),Bs (Aq B w (.int .u8)) l (Lib.byteCells l)
 |[]=>rfl
 |x::l=>⟨[.int .u8 x.toNat],Lib.byteCells l,rfl,rfl,qo l⟩
def Src(A:Nat->Prop)(W:World)(l:List UInt8)(v:Value):Prop:=
 ∃p len cap,v= .slice p len cap/\l.length=len/\len<=cap/\ (0<len->∃a:Addr,p=some a/\A a.block/\∀j x,(Lib.byteCells l)[j]? =some x->W.cell? (a.add j)=some x)
theorem Src.keep{A:Nat->Prop}{W W':World}{l:List UInt8}{v:Value}(h:Src A W l v)(hk:∀k,A k->W'.heap[k]? =W.heap[k]?):Src A W' l v:=by
 obtain⟨p,len,cap,h1,h2,h3,h4⟩:=h;refine⟨p,len,cap,h1,h2,h3,λhl=>?_⟩;obtain⟨a,e1,e2,e3⟩:=h4 hl;exact⟨a,e1,e2,λj x hx=>(kR (by rw[Lib.block_add];exact hk _ e2)).trans (e3 j x hx)⟩
theorem Ars{A:Reg}{w:World}{l:List UInt8}{v:Value}(h:Aq A w (.list (.int .u8)) l [v]):Src A w l v:=by
 obtain⟨v1,c0,e1,⟨p,len,cap,rfl,g1,g2,g3,g4⟩,h2⟩:=h;cases e1;obtain rfl:=nH h2;have hlen:l.length=len:=by simpa [ET.size,Lib.byteCells]using g1
 refine⟨p,len,cap,rfl,hlen,g2,λhl=>?_⟩;obtain⟨b,off,arr,T,fr,rfl,e2,e3,e4,e5⟩:=g4 F3;refine⟨_,rfl,e2,λj x hx=>?_⟩;have hj:j<len*ET.size (.int .u8):=by
  have:=(List.getElem?_eq_some_iff.1 hx).1;simpa [Lib.byteCells,hlen,ET.size]using this
 rw[Lib.addr_add,Lib.cell_of_heap e3,e5 j hj];exact hx
theorem An8{w:World}{E:TypeId}{l:List UInt8}{v:Value}{o:Option Nat}(A:Reg)(h:(Mob.own 1 E v (Lib.byteCells l)).holds o w)(hA:∀b,o=some b->A b):Src A w l v:=by
 obtain⟨p,len,cap,rfl,g1,g2,g3,g4,g5⟩:=h;have hlen:l.length=len:=by simpa [Lib.byteCells]using g1
 refine⟨p,len,cap,rfl,hlen,g2,λhl=>?_⟩;cases o with
 |none=>have:=g3 (g4 rfl);omega
 |some k=>
  obtain⟨arr,fr,rfl,e2,e3,e4,e5⟩:=g5 k rfl;refine⟨_,rfl,hA k rfl,λj x hx=>?_⟩;have hj:j<len*1:=by
   have:=(List.getElem?_eq_some_iff.1 hx).1;simpa [Lib.byteCells,hlen]using this
  rw[Lib.addr_add,H2,Lib.cell_of_heap e2,e5 j hj];exact hx
theorem vU(l:List UInt8):∀v∈Lib.byteCells l,v.oneCell'=true:=Lib.byteCells_one l
theorem Aha{P:Program}{ρ:Ren}(L:LaysM.n180 P ρ){A:Nat->Prop}(B b:Nat)(bs l:List UInt8)(v:Value)(w:World)(h:Lib.IsBuffer (ρ.t 93) (ρ.t 5) B b (Lib.byteCells bs) w)(hBw:B<=w.heap.size)
  (hs:Src A w l v) (hA:¬A b) (hlim:bs.length+l.length<=140737488355328):
  Calls P (ρ.f 180) #[.pointer (some ⟨b,0,none⟩),v] w λe w'=>e= .returned (.tuple #[.int .i64 l.length, .nilIface])/\Lib.IsBuffer (ρ.t 93) (ρ.t 5) B b (Lib.byteCells (bs++l)) w'/\Below B w w'/\Lib.OthersKept (ρ.t 5) (some b) w w':=by
 obtain⟨p,len,cap,rfl,hlen,h3,h4⟩:=hs;rcases V8 len with h0|h0
 ·subst h0;obtain rfl:l=[]:=I5 hlen;simpa using Ae3 L B b (Lib.byteCells bs) p cap w h hBw
 ·obtain⟨a,rfl,e2,e3⟩:=h4 h0;subst hlen;have:=Any.Buffer_Write_any L B b (Lib.byteCells bs) (Lib.byteCells l) a l.length cap w h hBw (vU bs) (by simp[Lib.byteCells]) (λe=>hA (e▸e2)) e3 (vU l) (by simpa [Lib.byteCells]using hlim);rw[<-Lib.byteCells_append]at this;exact this
theorem Aht{P:Program}{ρ:Ren}(L:LaysM.n178 P ρ)(B b:Nat)(bs l:List UInt8)(w:World)(h:Lib.IsBuffer (ρ.t 93) (ρ.t 5) B b (Lib.byteCells bs) w)(hf:bs=[]->w.cell? ⟨b,0,none⟩=some (.slice none 0 0)/\1<=l.length/\l.length<=64)
  (hBw:B<=w.heap.size) (hlim:bs.length+l.length<=140737488355328):
  Calls P (ρ.f 178) #[.pointer (some ⟨b,0,none⟩),sv l] w λe w'=>e= .returned (.tuple #[.int .i64 l.length, .nilIface])/\Lib.IsBuffer (ρ.t 93) (ρ.t 5) B b (Lib.byteCells (bs++l)) w'/\Below B w w'/\jO b w w':=by
 have hz:(⟨l.toArray⟩:ByteArray).size=l.length:=by simp[ByteArray.size]
 have:=Aq8 L B b (Lib.byteCells bs) ⟨l.toArray⟩ w h (λe=>by rw[hz];exact hf (by simpa [Lib.byteCells]using e)) hBw (vU bs) (by rw[hz];simpa [Lib.byteCells]using hlim);rw[hz]at this;simpa [Lib.byteCells_append]using this
theorem Aqc{P:Program}{f:Nat}{gl:List (Nat×List Value)}{E:TypeId}{F:UInt64->Int->Option (List UInt8×Int)}(hC:ConOk P gl f ⟨[.lf (.int .u64) none, .lf (.int .i64) none],[.lf (.list (.int .u8)) (some E), .lf (.int .i64) none],λx=>F x.1 x.2⟩)
  {W:World} {x:UInt64} {n:Int} {r:List UInt8×Int} (hgl:GlOk gl (λ_=>True) W) (h:F x n=some r):
  Calls P f #[iv (T:=UInt64) (k:= .u64) x, .int .i64 n] W λe W'=>∃v,e= .returned (.tuple #[v, .int .i64 r.2])/\KeepN (λ_=>True) W W'/\Src (λk=>W.heap.size<=k/\k<W'.heap.size) W' r.1 v:=by
 refine(hC.ok (λ_=>True) (λ_=>True) W [] [iv (T:=UInt64) (k:= .u64) x, .int .i64 n] [.val (.int .u64) x, .val (.int .i64) n] (x,n) r rfl rfl (λi a m _ h=>by simp at h) trivial ⟨_,_,rfl,rfl,_,_,rfl,rfl,rfl⟩ hgl h).mono ?_;rintro e w' ⟨us,rfl,hk,A1,L1,g1,g2,g3⟩;obtain⟨ps,its,k1,k2,k3,k4,k5⟩:=g3 ⟨[],[],[]⟩ [] (λ_=>True) rfl (λ_ _=>trivial) (λ_ _ _=>trivial);have ei: [Item.arr E (.int .u8) r.1]=its:=congrArg S.it k1;subst ei;obtain⟨m,rfl⟩:∃m,L1=[m]:=by
  cases L1 with
  |nil=>cases k4
  |cons m t=>cases t with
   |nil=>exact⟨m,rfl⟩
   |cons _ _=>cases k4
 have hm:=k5 0 _ m rfl rfl;obtain rfl:=G1 (show some [PV.own 0,PV.val (.int .i64) r.2]=some ps from k2);obtain⟨v,_,rfl,e1,_,_,rfl,e2,rfl⟩:=k3;obtain⟨s,E',v',c0,q1,q2⟩:=(show∃s E' v' c0,([m]:List MD)[0]? =some (.own s E' v' c0)/\ [v]=[v']from e1);cases q1;cases q2;cases(show [_]=[Value.int .i64 r.2]from e2);obtain⟨rfl,rfl,hall⟩:=(show E'=E/\s=1/\Bs (Aq _ _ (.int .u8)) r.1 c0 from hm);obtain rfl:=nH hall;obtain⟨o,h1,h2,_⟩:=g2;exact⟨v,rfl,hk,An8 _ h1 λb hb=>⟨Nat.le_of_not_lt λhlt=>(h2 b hb).1 (.inr ⟨hlt,trivial⟩),(h2 b hb).2⟩⟩
theorem rP{T e:TypeId}{B b:Nat}{bs:List Value}{w:World}(h:Lib.IsBuffer T e B b bs w){ad:Addr}{n c:Nat}(hc:w.cell? ⟨b,0,none⟩=some (.slice (some ad) n c)):∃cur,w.heap[ad.block]? =some (.cells cur e (0,0)):=by
 obtain⟨hB,lr,hcs⟩:=h.cases;rcases hcs with⟨_,hbk⟩|⟨g,cap,cur,hbk,_,hg,_⟩
 ·rw[Lib.cell_of_heap hbk]at hc;cases hc
 ·rw[Lib.cell_of_heap hbk]at hc;cases hc;exact⟨cur,hg⟩
theorem Ast{T e:TypeId}{B b:Nat}{bs:List Value}{w:World}(h:Lib.IsBuffer T e B b bs w){ad:Addr}{n c:Nat}(hc:w.cell? ⟨b,0,none⟩=some (.slice (some ad) n c)):ad.block<w.heap.size:=by
 obtain⟨cur,hg⟩:=rP h hc;exact Lib.lt_of_heap hg
theorem Azp{T e:TypeId}{B b:Nat}{bs:List Value}{w w':World}(h:Lib.IsBuffer T e B b bs w)(hr:jO b w w'):Lib.OthersKept e (some b) w w':=by
 intro k o hk hb ho;refine(hr k (Lib.lt_of_heap hk) (λe=>hb (by rw[e])) λad n c hc hek=>?_).trans hk;obtain⟨cur,hg⟩:=rP h hc;rw[hek,hg]at hk;exact ho _ _ (G1 hk).symm
theorem L8{T e:TypeId}{B b:Nat}{bs:List Value}{w w':World}(h:Lib.IsBuffer T e B b bs w)(hb:∀k,k<w.heap.size->w'.heap[k]? =w.heap[k]?):Lib.IsBuffer T e B b bs w':=by
 have hlt:=h.lt;obtain⟨hB,v,lr,hbk,hown,hne⟩:=h;refine⟨hB,v,lr,(hb b hlt).trans hbk,⟨hown.1,?_⟩,hne⟩;rcases hown.2 with hn|⟨g,cap,cur,hv,hbg,hg,rest⟩
 ·exact .inl hn
 ·exact .inr ⟨g,cap,cur,hv,hbg,(hb g (Lib.lt_of_heap hg)).trans hg,rest⟩
abbrev CH:ET:= .cons .str (.cons (.list (.int .u8)) .nil)
theorem oh{A:Reg}{w:World}:∀{l:List (List UInt8×List UInt8×Unit)} {c0:List Value},Bs (Aq A w CH) l c0->∀{i:Nat} {c:List UInt8×List UInt8×Unit},l[i]? =some c->∃vd,c0[2*i]? =some (sv c.1)/\c0[2*i+1]? =some vd/\Aq A w (.list (.int .u8)) c.2.1 [vd]
 |[],_,_,i,c,h=>by simp at h
 |x::l,c0,⟨c1,c2,h1,h2,h3⟩,i,c,h=>by
  obtain⟨k1,k2,rfl,e1,e2⟩:=(show∃k1 k2,c1=k1++k2/\Aq A w .str x.1 k1/\Aq A w (.cons (.list (.int .u8)) .nil) x.2 k2 from h2);obtain⟨k3,k4,rfl,e3,e4⟩:=(show∃k3 k4,k2=k3++k4/\Aq A w (.list (.int .u8)) x.2.1 k3/\Aq A w .nil x.2.2 k4 from e2);obtain rfl:k1=[sv x.1]:=e1;obtain rfl:k4=[]:=e4;obtain⟨vd,c3,rfl,e5⟩:=(show∃vd c3,k3=[vd]/\ _/\ _ from e3);subst h1;cases i with
  |zero=>cases h;exact⟨vd,rfl,rfl,e3⟩
  |succ i=>
   obtain⟨vd',q1,q2,q3⟩:=oh h3 (i:=i) (by simpa using h);refine⟨vd',?_,?_,q3⟩
   ·rw[show 2*(i+1)=2*i+1+1 by omega];simpa using q1
   ·rw[show 2*(i+1)+1=2*i+1+1+1 by omega];simpa using q2
theorem Ar4{A:Reg}{w:World}{x:List UInt8×List UInt8×Unit}{c:List Value}(h:Aq A w CH x c):c.length=2:=by
 obtain⟨k1,k2,rfl,e1,e2⟩:=(show∃k1 k2,c=k1++k2/\Aq A w .str x.1 k1/\Aq A w (.cons (.list (.int .u8)) .nil) x.2 k2 from h);obtain⟨k3,k4,rfl,e3,e4⟩:=(show∃k3 k4,k2=k3++k4/\Aq A w (.list (.int .u8)) x.2.1 k3/\Aq A w .nil x.2.2 k4 from e2);obtain rfl:k1=[sv x.1]:=e1;obtain rfl:k4=[]:=e4;obtain⟨vd,c3,rfl,e5⟩:=(show∃vd c3,k3=[vd]/\ _/\ _ from e3);rfl
theorem Apn{P:Program}{f:Nat}{gl:List (Nat×List Value)}{t:ET}{F:List UInt8->t.list.T->Option Int}(hC:ConOk P gl f ⟨[.lf .str none, .lf t.list none],[.lf (.int .i64) none],λx=>F x.1 x.2⟩)
  {A:Reg} {W:World} {s:List UInt8} {l:t.list.T} {v:Value} {r:Int} (hv:Aq A W t.list l [v]) (hgl:GlOk gl (λ_=>True) W) (h:F s l=some r):
  Calls P f #[sv s,v] W λe W'=>e= .returned (.int .i64 r)/\KeepN (λ_=>True) W W':=by
 have hv':Aq (λ_=>True/\True) W t.list l [v]:=Aq.step (λ_ _=>⟨trivial,trivial⟩) (λ_ _=>rfl) hv;refine(hC.ok (λ_=>True) (λ_=>True) W [] [sv s,v] [.val .str s, .val t.list l] (s,l) r rfl rfl (λi a m _ h=>by simp at h) trivial ⟨_,_,rfl,rfl,_,_,rfl,hv',rfl⟩ hgl h).mono ?_;rintro e w' ⟨us,rfl,hk,A1,L1,g1,g2,g3⟩;obtain⟨ps,its,k1,k2,k3,k4,k5⟩:=g3 ⟨[],[],[]⟩ [] (λ_=>True) rfl (λ_ _=>trivial) (λ_ _ _=>trivial);obtain rfl:=G1 (show some [PV.val (.int .i64) r]=some ps from k2);obtain⟨_,_,rfl,e1,rfl⟩:=k3;cases(show [_]=[Value.int .i64 r]from e1);exact⟨rfl,hk⟩
theorem Ao8{P:Program}{f:Nat}{gl:List (Nat×List Value)}{t:ET}{F:t.list.T->Option Int}(hC:ConOk P gl f ⟨[.lf t.list none],[.lf (.int .i64) none],F⟩)
  {A:Reg} {W:World} {l:t.list.T} {v:Value} {r:Int} (hv:Aq A W t.list l [v]) (hgl:GlOk gl (λ_=>True) W) (h:F l=some r):
  Calls P f #[v] W λe W'=>e= .returned (.int .i64 r)/\KeepN (λ_=>True) W W':=by
 have hv':Aq (λ_=>True/\True) W t.list l [v]:=Aq.step (λ_ _=>⟨trivial,trivial⟩) (λ_ _=>rfl) hv;refine(hC.ok (λ_=>True) (λ_=>True) W [] [v] [.val t.list l] l r rfl rfl (λi a m _ h=>by simp at h) trivial ⟨_,_,rfl,hv',rfl⟩ hgl h).mono ?_;rintro e w' ⟨us,rfl,hk,A1,L1,g1,g2,g3⟩;obtain⟨ps,its,k1,k2,k3,k4,k5⟩:=g3 ⟨[],[],[]⟩ [] (λ_=>True) rfl (λ_ _=>trivial) (λ_ _ _=>trivial);obtain rfl:=G1 (show some [PV.val (.int .i64) r]=some ps from k2);obtain⟨_,_,rfl,e1,rfl⟩:=k3;cases(show [_]=[Value.int .i64 r]from e1);exact⟨rfl,hk⟩
theorem sV{E:TypeId}{w:World}:(Mob.own 1 E (.slice none 0 0) (Lib.byteCells [])).holds none w:=⟨none,0,0,rfl,rfl,E3 _,(λ_=>rfl),(λ_=>rfl),(λ_ h=>nomatch h)⟩
theorem Aek{E:TypeId}{B:Nat}{w:World}{v:Value}{l:List UInt8}(h:w.ownsRow B E 1 v (Lib.byteCells l).length (Lib.byteCells l)):∃o,(Mob.own 1 E v (Lib.byteCells l)).holds o w/\∀k,o=some k->B<=k/\k<w.heap.size:=by
 rcases h.2 with⟨rfl,h0⟩|⟨g,cap,cur,rfl,hBg,hg,hnc,hcm,hcs,htk⟩
 ·obtain rfl:l=[]:=I5 (by simpa [Lib.byteCells]using h0);exact⟨none,sV,(λ_ h=>nomatch h)⟩
 ·refine⟨some g,⟨_,_,cap,rfl,by rw[T5],hnc,(λh=>nomatch h),(λh=>nomatch h),λb hb=>?_⟩,λk hk=>?_⟩
  ·cases hb;refine⟨cur,(0,0),rfl,hg,hcs, .inl rfl,λi hi=>?_⟩;have:cur.toList[i]? =(cur.toList.take ((Lib.byteCells l).length*1))[i]? :=(List.getElem?_take_of_lt hi).symm;rw[<-UT,this,htk]
  ·cases hk;exact⟨hBg,Lib.lt_of_heap hg⟩
theorem Ak4(n:Nat)(h:n<4611686018427387904):bits BinOp.and IntKind.i64 (n:Int) 1=((n %2:Nat):Int):=by
 have e:bits BinOp.and IntKind.i64 (n:Int) 1=Go.Lv.wrap64 ((BitVec.ofInt 64 (n:Int)&&&BitVec.ofInt 64 1).toNat:Int):=rfl;rw[e,SQ,K8,K8];have h1:((n:Int) %((2^64:Nat):Int)).toNat=n:=F3
 have h2:((1:Int) %((2^64:Nat):Int)).toNat=2^1-1:=F4
 rw[h1,h2,kG,Go.Lv.Db F3 F3]
theorem Ad7{P:Program}{TB U8:TypeId}{i:TypeInfo}(ht:P.underlying TB=some (.slice U8))(hi:P.info? U8=some i)(hz:i.zero=some (.int .u8 0))(h1:i.size=1)(h2:i.bytes=1)(m:Nat)(hm:m<=1):
  ∃M:Array Value,(∀W:World,(Instr.makeSlice TB (.int .i64 (m:Int)) (.int .i64 (m:Int))).run P W= .ok (.slice (some ⟨W.heap.size,0,none⟩) m m) (W.alloc (.cells M U8)))/\
   ∀W:World,Src (λk=>k=W.heap.size) (W.alloc (.cells M U8)) (List.replicate m 0) (.slice (some ⟨W.heap.size,0,none⟩) m m):=by
 refine⟨madeCells (Value.int .u8 0).cells ((m:Int).toNat*i.size),λW=>?_,λW=>?_⟩
 ·have:=run_makeSlice (P:=P) W TB U8 i (.int .u8 0) ht hi hz .i64 .i64 (m:Int) (m:Int) F3 F3 (by rw[h1];simp;omega) (by rw[h2];omega) F3;simpa using this
 ·refine⟨_,m,m,rfl,F7,E3 _,λhm0=>⟨_,rfl,rfl,λj x hx=>?_⟩⟩;obtain rfl:m=1:=F3
  rw[Lib.addr_add,H2,Lib.cell_of_heap (UH W _),h1];have hj:=(List.getElem?_eq_some_iff.1 hx).1;obtain rfl:j=0:=by simp[Lib.byteCells]at hj;omega
  cases(show some (Value.int .u8 0)=some x from hx)
  first|kernel_rfl|rfl|simp[madeCells,Value.cells]
theorem Ans{w W:World}(h:Below w.heap.size w W):KeepN (λ_=>True) w W:=⟨λk hk _=>h.block k hk,h.size,h.os,h.tape,h.output⟩
theorem yQ(B:Nat)(w:World)(n:Nat):Below B w (w.drewN n):=⟨rfl,rfl,rfl,E3 _,λ_ _=>rfl⟩
theorem S3{W W1:World}(hk:KeepN (λ_=>True) W W1):Below W.heap.size W W1:=⟨hk.gr.os,hk.gr.tape,hk.gr.output,hk.gr.le,λj hj=>hk.same j hj trivial⟩
theorem uI{gl:List (Nat×List Value)}{R N:Reg}{w w':World}{e:ET}{y:e.T}{u:Value}(hk:KeepN N w w')(he:∀(B:Reg),Aq B w' e y [u])(hA:(PV.val e y).isA=false):cI gl R N w w' [.lf e none] y [u]:=by
 refine⟨hk,λ_=>False,[],λb hb=>hb.elim,trivial,?_⟩;intro s L B' hl h1 _;have hu:Ec (Oe [.lf e none]) y s=([.val e y],s):=Abl e y s;refine⟨[.val e y],[],?_,?_,⟨u,[],rfl,?_,rfl⟩,rfl,λi a m h=>by simp at h⟩
 ·rw[hu];simp
 ·rw[hu];rfl
 ·show asV _ _ _;rw[hA];exact he B'
theorem yP{w:World}{b:Nat}{o:Obj}(h:w.heap[b]? =some o):Dn w b o=w:=by
 unfold Dn;have:w.heap.setIfInBounds b o=w.heap:=by
  apply SB;intro k;by_cases hk:b=k
  ·subst hk;rw[S1 (Go.Lv.lt_of_heap h),h]
  ·rw[J1 hk]
 rw[this]
theorem A4{w:World}{b:Nat}{arr:Array Value}{T:TypeId}{fr:Nat×Nat}(h:w.heap[b]? =some (.cells arr T fr))(i:Nat)(v:Value):w.setCell ⟨b,i,none⟩ v=Dn w b (.cells (arr.setIfInBounds i v) T fr):=by
 unfold World.setCell Dn;congr 1;apply SB;intro k;by_cases hk:b=k
 ·subst hk;rw[S1 (Go.Lv.lt_of_heap h)];simp[K7,h]
 ·rw[J1 hk];simp[K7,hk]
variable {P:Program} {ρ:Ren}
theorem Aie{w:World}{a:Addr}{n k:Nat}(h:k≠a.block):(w.freeze a n).heap[k]? =w.heap[k]? :=by
 unfold World.freeze;split
 ·rfl
 ·simp[K7,G? h]
set_option maxHeartbeats 1000000 in
set_option maxRecDepth 100000 in
theorem U0(L:Lays.n169 P ρ)(X:Builder.Extra P ρ)(b:Nat)(w W1:World)(q p':Option Addr)(len cap:Nat)(l:List UInt8)(W2:World)(hlt:b<w.heap.size)
  (c1:w.drew.cell? ⟨b,1,none⟩=some (.slice q len cap)) (c2:W1.cell? ⟨b,1,none⟩=some (.slice q len cap)) (c3:W1.drew.cell? ⟨b,1,none⟩=some (.slice q len cap))
  (hSD:(Builtin.unsafeSliceData_ #[(ρ.t 37)] (ρ.t 127) #[.slice q len cap]).run P w.drew= .ok (.pointer p') W1)
  (hUS:(Builtin.unsafeString_ #[(ρ.t 127),(ρ.t 3)] (ρ.t 9) #[.pointer p', .int .i64 len]).run P W1= .ok (.string ⟨l.toArray⟩) W2):
  Calls P (ρ.f 169) #[.pointer (some ⟨b,0,none⟩)] w λe w'=>e= .returned (.string ⟨l.toArray⟩)/\w'=W2:=by
 have mixed:=L.mixed;have t72:=L.t72;have a72:=L.a72;have z72:=L.z72;have v72:=L.v72;have u72:=C4 L.t72;have t70:=L.t70;have a70:=L.a70;have z70:=L.z70;have v70:=L.v70;have u70:=C4 L.t70;have t37:=L.t37;have a37:=L.a37;have z37:=L.z37;have v37:=L.v37;have u37:=C4 L.t37;have t127:=L.t127;have a127:=L.a127;have z127:=L.z127;have v127:=L.v127;have u127:=C4 L.t127;have t3:=L.t3;have a3:=L.a3;have z3:=L.z3;have v3:=L.v3;have u3:=C4 L.t3;have t9:=L.t9;have a9:=L.a9;have z9:=L.z9;have v9:=L.v9;have u9:=C4 L.t9;have t5:=X.t5;have a5:=X.a5;have z5:=X.z5;have v5:=X.v5;have u5:=C4 X.t5
 go_enter L.f169,Body.n169_ntmps ρ
 go_wp2
 go_region_o
 all_goals (go_wp2;go_ret;exact⟨rfl,rfl⟩)
theorem As1(L:Lays.n169 P ρ)(X:Builder.Extra P ρ):cD P (ρ.f 169) (ρ.t 72) (ρ.t 5):=by
 rintro w b p v o l hb ⟨q,len,cap,rfl,hlen,hcap,hq,ho,hown⟩ hl;have hlen':len=l.length:=by simpa [Go.Lv.BH]using hlen.symm
 subst hlen';have hlt:=Go.Lv.lt_of_heap hb;have cell:∀W:World,W.heap[b]? =w.heap[b]? ->W.cell? ⟨b,1,none⟩=some (.slice q l.length cap):=λW hW=>by rw[Lib.cell_of_heap (hW.trans hb)];rfl
 have gd:Gr w w.drew:=⟨E3 _,rfl,rfl,rfl⟩;have plain:∀(p':Option Addr),(Builtin.unsafeSliceData_ #[(ρ.t 37)] (ρ.t 127) #[.slice q l.length cap]).run P w.drew= .ok (.pointer p') w.drew->l=[]->
   Calls P (ρ.f 169) #[.pointer (some ⟨b,0,none⟩)] w λe w'=>e= .returned (sv l)/\Gr w w'/\∀k,k<w.heap.size->o≠some k->w'.heap[k]? =w.heap[k]? :=by
  rintro p' hSD rfl;refine(U0 L X b w w.drew q p' 0 cap [] w.drew hlt (cell _ rfl) (cell _ rfl) (cell _ rfl) hSD (Lib.run_unsafeString_none w.drew _ _ _ p')).mono ?_;rintro e w' ⟨rfl,rfl⟩;exact⟨rfl,gd,λk _ _=>rfl⟩
 cases hl0:l with
 |nil=>
  subst hl0;cases q with
  |none=>exact plain none rfl rfl
  |some a=>
   cases o with
   |none=>exact nomatch ho rfl
   |some g=>
    obtain⟨arr,fr,e,hg,_⟩:=hown g rfl;cases e;by_cases hc:cap=0
    ·subst hc;have hSD:=Lib.run_unsafeSliceData_zero (P:=P) w.drew #[(ρ.t 37)] (ρ.t 127) (ρ.t 5) L.t127 ⟨g,0,none⟩ 0 ((ρ.t 5),arr.size) (by have hg':w.drew.heap[g]? =some (.cells arr (ρ.t 5) fr):=hg;simp[World.shape?,hg']);have hk:∀k,k<w.heap.size-> (w.drew.alloc (.view ⟨g,0,none⟩ (ρ.t 5))).heap[k]? =w.heap[k]? :=λk hk=>Lib.alloc_old w.drew _ k hk;refine(U0 L X b w _ _ _ 0 0 [] _ hlt (cell _ rfl) (cell _ (hk b hlt)) (cell _ (hk b hlt)) hSD (Lib.run_unsafeString_none _ _ _ _ _)).mono ?_;rintro e w' ⟨rfl,rfl⟩;exact⟨rfl,⟨by simp[World.alloc],rfl,rfl,rfl⟩,λk hk' _=>hk k hk'⟩
    ·exact plain _ (Lib.run_unsafeSliceData_row _ _ _ _ _ _ hc) rfl
 |cons x r=>
  rw[<-hl0];have hpos:0<l.length:=by rw[hl0];simp
  cases o with
  |none=>have:=hq (ho rfl);omega
  |some g=>
   obtain⟨arr,fr,rfl,hg,hsz,_,harr⟩:=hown g rfl;have hUS:=Lib.run_unsafeString_row (P:=P) w.drew (ρ.t 127) (ρ.t 3) (ρ.t 9) (ρ.t 5) L.t127 X.cellsByte g arr.size (by have hg':w.drew.heap[g]? =some (.cells arr (ρ.t 5) fr):=hg;simp[World.shape?,hg']) l (by rw[hl0];simp) F3 F3 (λj x hx=>by
    have hj:=(List.getElem?_eq_some_iff.1 hx).1;have hg':w.drew.heap[g]? =some (.cells arr (ρ.t 5) fr):=hg;rw[Lib.addr_add,H2,Lib.cell_of_heap hg',harr j F3];simp[Go.Lv.BH,hx];rfl)
   refine(U0 L X b w w.drew _ _ l.length cap l _ hlt (cell _ rfl) (cell _ rfl) (cell _ rfl) (Lib.run_unsafeSliceData_row _ _ _ _ _ _ F3) hUS).mono ?_;rintro e w' ⟨rfl,rfl⟩;exact⟨rfl,⟨by unfold World.freeze;split<;>simp,by unfold World.freeze;split<;>rfl,by unfold World.freeze;split<;>rfl,by unfold World.freeze;split<;>rfl⟩,λk hk hne=>Aie λe=>hne (by rw[e])⟩
end Go.Proofs.Rf
namespace Go.Proofs.Rf
open Go.RowKit Go.Shelf Go Go.Rx Go.Lv Go.Proofs
variable {P:Program} {ρ:Ren}
theorem Ais{w:World}{a:Addr}{v:Value}{o:Obj}(h:a.block<w.heap.size):(w.setCell a v).alloc o=(w.alloc o).setCell a v:=by
 unfold World.setCell World.alloc;congr 1;apply SB;intro k;show((w.heap.modify a.block _).push o)[k]? =((w.heap.push o).modify a.block _)[k]?;rw[Array.getElem?_push,K7,K7,Array.getElem?_push,Array.size_modify];by_cases hk:k=w.heap.size
 ·subst hk;have hne:a.block≠w.heap.size:=F3
  rw[BA rfl,C1 hne,BA rfl]
 ·rw[C1 hk,C1 hk]
set_option maxHeartbeats 2000000 in
set_option maxRecDepth 1000000 in
theorem Ahs(L:Lays.n241 P ρ)(X:Builder.Extra P ρ)(b n:Nat)(w:World)(hbk:w.heap[b]? =some (.cells #[.pointer (some ⟨b,0,none⟩), .slice none 0 0] (ρ.t 72) (0,0))) (hn:n<=281474976710656):
  Calls P (ρ.f 241) #[.pointer (some ⟨b,0,none⟩), .int .i64 n] w λe w'=>e= .returned (.tuple #[])/\∃cs,w'=((w.alloc (.cells cs (ρ.t 5))).setCell ⟨b,1,none⟩ (.slice (some ⟨w.heap.size,0,none⟩) 0 cs.size)).drew.drew.drew:=by
 obtain⟨cs,hrun,hle,hmax⟩:=Lib.run_makeNoZero (P:=P) w.drew #[(ρ.t 3)] (ρ.t 37) (ρ.t 5) L.t37 n hn;have hw:IntKind.i64.wrap (IntKind.i64.wrap 0+(n:Int))=n:=by
  rw[kY,kY];omega
 have hcall:(callFunc (ρ.f 277) #[.int .i64 (IntKind.i64.wrap (IntKind.i64.wrap 0+(n:Int)))]).run P w.drew= .ok (.value (.slice (some ⟨w.drew.heap.size,0,none⟩) n cs.size)) (w.drew.drew.drew.alloc (.cells cs (ρ.t 5))):=by
  rw[hw,run_callFunc_extern L.f277 F0 F0 F0 (e:=Extern.BytealgMakeNoZero.makeNoZero #[(ρ.t 3)] #[(ρ.t 37)]) F0,hrun];rfl
 have hlt:=Go.Lv.lt_of_heap hbk;have c1:w.drew.cell? ⟨b,1,none⟩=some (.slice none 0 0):=by
  have:w.drew.heap[b]? =_:=hbk;rw[Lib.cell_of_heap this];rfl
 have c2:(w.alloc (.cells cs (ρ.t 5))).cell? ⟨b,1,none⟩=some (.slice none 0 0):=by
  have:(w.alloc (.cells cs (ρ.t 5))).heap[b]? =_:=(Lib.alloc_old w _ b hlt).trans hbk;rw[Lib.cell_of_heap this];rfl
 have f2:(w.alloc (.cells cs (ρ.t 5))).frozen? ⟨b,1,none⟩=false:=Lib.frozen_of_heap ((Lib.alloc_old w _ b hlt).trans hbk) 1;have hcopy:∀W:World,(Builtin.copy_ #[(ρ.t 37),(ρ.t 37)] (ρ.t 3) #[.slice (some ⟨w.heap.size,0,none⟩) 0 cs.size, .slice none 0 0]).run P W= .ok (goInt 0) W:=
  λW=>run_copy_none W (ρ.t 37) (ρ.t 37) (ρ.t 3) (ρ.t 5) _ _ 0 cs.size 0 0 L.t37 X.sizeByte rfl
 clear hw;have mixed:=L.mixed;have t72:=L.t72;have a72:=L.a72;have z72:=L.z72;have v72:=L.v72;have u72:=C4 L.t72;have t70:=L.t70;have a70:=L.a70;have z70:=L.z70;have v70:=L.v70;have u70:=C4 L.t70;have t37:=L.t37;have a37:=L.a37;have z37:=L.z37;have v37:=L.v37;have u37:=C4 L.t37;have t3:=L.t3;have a3:=L.a3;have z3:=L.z3;have v3:=L.v3;have u3:=C4 L.t3;have t5:=X.t5;have a5:=X.a5;have z5:=X.z5;have v5:=X.v5;have u5:=C4 X.t5
 go_enter L.f241,Body.n241_ntmps ρ
 go_wp2
 have hcap:(((w.alloc (.cells cs (ρ.t 5))).setCell ⟨b,1,none⟩ (.slice (some ⟨w.heap.size,0,none⟩) 0 cs.size)).drew.drew.drew).cell? ⟨b,1,none⟩=some (.slice (some ⟨w.heap.size,0,none⟩) 0 cs.size):=by
  show((w.alloc (.cells cs (ρ.t 5))).setCell ⟨b,1,none⟩ (.slice (some ⟨w.heap.size,0,none⟩) 0 cs.size)).cell? ⟨b,1,none⟩=_;exact World.cell?_setCell_same _ _ _ c2
 go_region_o
 all_goals (go_wp2;go_end0;first|exact⟨rfl,cs,rfl⟩|exact⟨rfl,cs,by rw[Ais hlt]⟩)
theorem YY{w:World}{a:Addr}{v:Value}{k:Nat}(h:k≠a.block):(w.setCell a v).heap[k]? =w.heap[k]? :=by
 unfold World.setCell;simp[K7,G? h]
theorem tU(w:World)(a:Addr)(v:Value):Gr w (w.setCell a v):=⟨by simp[World.setCell],rfl,rfl,rfl⟩
set_option maxHeartbeats 2000000 in
set_option maxRecDepth 1000000 in
theorem Aqd(L:Lays.n165 P ρ)(X:Builder.Extra P ρ):YC P (ρ.f 165) (ρ.t 72) (ρ.t 5):=by
 intro w b n hbk hn;have hlt:=Go.Lv.lt_of_heap hbk;have hbk1:(w.setCell ⟨b,0,none⟩ (.pointer (some ⟨b,0,none⟩))).heap[b]? =some (.cells #[.pointer (some ⟨b,0,none⟩), .slice none 0 0] (ρ.t 72) (0,0)):=by
  simp[World.setCell,K7,hbk]
 have c1:(w.setCell ⟨b,0,none⟩ (.pointer (some ⟨b,0,none⟩))).cell? ⟨b,1,none⟩=some (.slice none 0 0):=by rw[Lib.cell_of_heap hbk1];rfl
 have hg1:Gr w (w.setCell ⟨b,0,none⟩ (.pointer (some ⟨b,0,none⟩))):=tU _ _ _;have hs1:∀k,k<w.heap.size->k≠b-> (w.setCell ⟨b,0,none⟩ (.pointer (some ⟨b,0,none⟩))).heap[k]? =w.heap[k]? :=λk _ hk=>YY hk;have Awn:Gr w (w.setCell ⟨b,0,none⟩ (.pointer (some ⟨b,0,none⟩))).drew/\ (∀k,k<w.heap.size->k≠b-> (w.setCell ⟨b,0,none⟩ (.pointer (some ⟨b,0,none⟩))).drew.heap[k]? =w.heap[k]?)/\∃v o,(w.setCell ⟨b,0,none⟩ (.pointer (some ⟨b,0,none⟩))).drew.heap[b]? =some (.cells #[.pointer (some ⟨b,0,none⟩),v] (ρ.t 72) (0,0))/\ (Mob.own 1 (ρ.t 5) v []).holds o (w.setCell ⟨b,0,none⟩ (.pointer (some ⟨b,0,none⟩))).drew/\∀k,o=some k->w.heap.size<=k/\k<(w.setCell ⟨b,0,none⟩ (.pointer (some ⟨b,0,none⟩))).drew.heap.size:=
  ⟨hg1.trans ⟨E3 _,rfl,rfl,rfl⟩,hs1, .slice none 0 0,none,hbk1,⟨none,0,0,rfl,rfl,E3 _,λ_=>rfl,λ_=>rfl,λb h=>nomatch h⟩,λk h=>nomatch h⟩
 have Awo:∀(cs:Array Value) (w2:World),w2=(((w.setCell ⟨b,0,none⟩ (.pointer (some ⟨b,0,none⟩))).drew.alloc (.cells cs (ρ.t 5))).setCell ⟨b,1,none⟩ (.slice (some ⟨(w.setCell ⟨b,0,none⟩ (.pointer (some ⟨b,0,none⟩))).drew.heap.size,0,none⟩) 0 cs.size)).drew.drew.drew->
   Gr w w2/\ (∀k,k<w.heap.size->k≠b->w2.heap[k]? =w.heap[k]?)/\∃v o,w2.heap[b]? =some (.cells #[.pointer (some ⟨b,0,none⟩),v] (ρ.t 72) (0,0))/\ (Mob.own 1 (ρ.t 5) v []).holds o w2/\∀k,o=some k->w.heap.size<=k/\k<w2.heap.size:=by
  intro cs w2 e;subst e;generalize hw1:w.setCell ⟨b,0,none⟩ (.pointer (some ⟨b,0,none⟩))=w1 at*
  have hsz:w1.heap.size=w.heap.size:=by rw[<-hw1];simp[World.setCell]
  have hold:∀k,k<w1.heap.size-> (w1.drew.alloc (.cells cs (ρ.t 5))).heap[k]? =w1.heap[k]? :=λk hk=>Lib.alloc_old w1.drew _ k hk;have hnew:(w1.drew.alloc (.cells cs (ρ.t 5))).heap[w1.heap.size]? =some (.cells cs (ρ.t 5)):=UH w1.drew _;refine⟨hg1.trans ((⟨E3 _,rfl,rfl,rfl⟩:Gr w1 w1.drew).trans ((jm w1.drew (.cells cs (ρ.t 5))).trans ((tU _ _ _).trans ⟨E3 _,rfl,rfl,rfl⟩))),λk hk hne=>(YY hne).trans ((hold k F3).trans (hs1 k hk hne)),_,some w1.heap.size,?_,⟨some ⟨w1.heap.size,0,none⟩,0,cs.size,rfl,rfl,WT _,(λh=>nomatch h),(λh=>nomatch h),λk hk=>?_⟩,λk hk=>?_⟩
  ·have:(w1.drew.alloc (.cells cs (ρ.t 5))).heap[b]? =_:=(hold b F3).trans hbk1;show((w1.drew.alloc (.cells cs (ρ.t 5))).setCell ⟨b,1,none⟩ (.slice (some ⟨w1.heap.size,0,none⟩) 0 cs.size)).heap[b]? =_;rw[A4 this];unfold Dn;rw[S1 (Go.Lv.lt_of_heap this)];rfl
  ·cases hk;exact⟨cs,(0,0),rfl,(YY F5).trans hnew,F7, .inl rfl,λi hi=>absurd hi F7⟩
  ·cases hk;refine⟨F3,?_⟩;have:=Go.Lv.lt_of_heap hnew
   show _<((w1.drew.alloc (.cells cs (ρ.t 5))).setCell _ _).heap.size;simp[World.setCell]
 have mixed:=L.mixed;have t72:=L.t72;have a72:=L.a72;have z72:=L.z72;have v72:=L.v72;have u72:=C4 L.t72;have t70:=L.t70;have a70:=L.a70;have z70:=L.z70;have v70:=L.v70;have u70:=C4 L.t70;have t37:=L.t37;have a37:=L.a37;have z37:=L.z37;have v37:=L.v37;have u37:=C4 L.t37;have t3:=L.t3;have a3:=L.a3;have z3:=L.z3;have v3:=L.v3;have u3:=C4 L.t3;have t9:=L.t9;have a9:=L.a9;have z9:=L.z9;have v9:=L.v9;have u9:=C4 L.t9;have t4:=L.t4;have a4:=L.a4;have z4:=L.z4;have v4:=L.v4;have u4:=C4 L.t4;have t164:=L.t164;have a164:=L.a164;have z164:=L.z164;have v164:=L.v164;have u164:=C4 L.t164;have t5:=X.t5;have a5:=X.a5;have z5:=X.z5;have v5:=X.v5;have u5:=C4 X.t5;have e240:∀args w,(callFunc (ρ.f 240) args).run P w= .ok (.enter (ρ.f 240) args) w:=enters_of L.f240 F0 rfl;have e241:∀args w,(callFunc (ρ.f 241) args).run P w= .ok (.enter (ρ.f 241) args) w:=enters_of L.f241 F0 rfl
 go_enter L.f165,Body.n165_ntmps ρ
 have c1':(w.setCell ⟨b,0,none⟩ (.pointer (some ⟨b,0,none⟩))).drew.cell? ⟨b,1,none⟩=some (.slice none 0 0):=c1
 go_wp2_with (go_at_fn (ρ.f 240);refine(Any.Builder_copyCheck_fresh {L with} X.toX72 b w (by rw[Lib.cell_of_heap hbk];rfl) (by simp[World.shape?,hbk]) (Lib.frozen_of_heap hbk 0)).mono ?_;rintro e w' ⟨rfl,rfl⟩)
 go_region_o
 all_goals go_wp2_with (go_at_fn (ρ.f 241);refine(Ahs {L with} X b n (w.setCell ⟨b,0,none⟩ (.pointer (some ⟨b,0,none⟩))).drew hbk1 hn).mono ?_;rintro e w' ⟨rfl,cs,hw'⟩;have hf:=Awo _ _ hw';clear hw')
 all_goals first
  |(go_end0;exact⟨rfl,hf⟩)
  |(go_end0;exact⟨rfl,Awn⟩)
end Go.Proofs.Rf
