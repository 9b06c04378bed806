/- A part of a proof (see the text that ends in Proof). No conditions. -/
import Derived.Test.YtniihmolajmfcaaGreatDoorCvWA
set_option linter.unusedVariables false
set_option linter.unusedSimpArgs false
namespace Go.Pl
open Go Go.Lv
variable{n:Int}{p:Prop}
def Bv(n:Int):LB:=if n<0 then 45::jY 20 n.natAbs []else jY 20 n.toNat []
theorem ofN{m:Nat}(h:m<10):(UInt8.ofNat (48+m)).toNat=48+m:=by rw[S8];omega
theorem xu{p:UInt8->Prop}(hp:∀m,m<10->p (UInt8.ofNat (48+m))):∀(q n:Nat) (a:LB),aC p a->aC p (jY q n a)
 |0,n,a,h=>h
 |q+1,n,a,h=>by
  unfold jY;split
  ·rename_i hn;exact all_cons (hp n hn) h
  ·exact xu hp q (n/10) _ (all_cons (hp _ F0) h)
theorem X2:∀(q n:Nat) (a:LB),n<10^(q+1)->∃c r,jY (q+1) n a=c::r/\48<=c.toNat/\c.toNat<=57
 |0,n,a,h=>⟨_,_,by rw[jY,A7 (by simpa using h)],by rw[ofN (by simpa using h)];omega,by rw[ofN (by simpa using h)];simp at h;omega⟩
 |q+1,n,a,h=>by
  rw[jY];split
  ·rename_i hn;exact⟨_,_,rfl,by rw[ofN hn];omega,by rw[ofN hn];omega⟩
  ·exact X2 q (n/10) _ (by rw[L8]at h;omega)
theorem Ao7:∀(q n:Nat) (a:LB),n<10^q->n<=999999999->Lib.parseUint10 0 (jY q n a)=Lib.parseUint10 n a
 |0,n,a,h,_=>by
  have:n=0:=by simpa using h
  rw[this];rfl
 |q+1,n,a,h,hn=>by
  rw[jY];split
  ·rename_i h9;rw[Lib.parseUint10,ofN h9,A7 F0,A4 F0,A4 F0];congr 1;omega
  ·rw[Ao7 q (n/10) _ (by rw[L8]at h;omega) F0,Lib.parseUint10,ofN F0,A7 F0,A4 F0,A4 F0];congr 1;omega
theorem tD(q n:Nat)(a:LB):(jY q n a).length<=a.length+q:=by
 induction q generalizing n a with
 |zero=>exact C4 _
 |succ q ih=>
  unfold jY;split
  ·simp
  ·have:=ih (n/10) (UInt8.ofNat (48+n %10)::a);rw[B6]at this;omega
theorem mag{n:Nat}(h:n<=999999999):Lib.parseMag (jY 20 n [])= .ok n:=by
 obtain⟨c,r,e,_⟩:=X2 19 n [] F0;unfold Lib.parseMag;rw[A4 (by rw[e];simp),Ao7 20 n [] F0 h];rfl
theorem Aef(h: -999999999<=n/\n<=999999999):Lib.atoiAll (Bv n)= .ok n:=by
 unfold Bv;split
 ·rw[Lib.atoiAll_minus,mag F0];unfold Lib.signed;simp only;rw[A4 F0];congr 1;omega
 ·obtain⟨c,r,e,h1,h2⟩:=X2 19 n.toNat [] F0;have hm:=mag (n:=n.toNat) F0;rw[e]at hm⊢;rw[Lib.atoiAll_plain _ _ F0 F0,hm];unfold Lib.signless;simp only;rw[A4 F0];congr 1;omega
theorem Z_(h: -9223372036854775808<=n/\n<=9223372036854775807):strconv_Itoa n=some (Bv n):=by
 unfold strconv_Itoa;rw[A7 (Q6 h)];rfl
theorem Ju(n:Int):(Bv n).length<=21:=by
 have h1:=tD 20 n.natAbs [];have h2:=tD 20 n.toNat [];unfold Bv;split
 ·simp at h1⊢;omega
 ·simp at h2⊢;omega
theorem Aog(h: -999999999<=n/\n<=999999999):Hu (Bv n)=some (n,true):=by
 have:=Ju n;unfold Hu;rw[A7 F0,Aef h];simp only;rw[Z_ F0,A8];have e:(Ha n (-999999999)&&MQ n 999999999)=true:=by
  rw[zge,zle];simp only[zi,A9,B2];exact h
 rw[e];simp
def Dg(x:UInt8):Prop:=x≠10/\x≠32
theorem sS(n:Int):aC Dg (Bv n):=by
 have k:∀m,m<10->Dg (UInt8.ofNat (48+m)):=λm hm=>by
  have:=ofN hm;constructor<;>intro e<;>rw[e]at this<;>simp at this<;>omega
 unfold Bv;split
 ·exact all_cons (by constructor<;>decide) (xu k _ _ _ all_nil)
 ·exact xu k _ _ _ all_nil
theorem Aq3(n:Int)(h: -999999999<=n/\n<=999999999):Bv n≠ []:=by
 intro e;have:=Aef h;rw[e]at this;cases this
theorem Zp(h:0<=n/\n<=999999999):Cf n=some (Bv n):=by
 unfold Cf Bv;rw[A7 (Q6 F0),A4 F0]
theorem itoa_neg(h:n<0):Bv n=45::Bv (-n):=by
 unfold Bv;rw[A7 h,A4 F0];congr 2;omega
def sp:List LB->LB
 |[]=>[]
 |w::ws=>32::(w++sp ws)
theorem iy:∀(l m:List LB),sp (l++m)=sp l++sp m
 |[],m=>rfl
 |w::l,m=>by rw[SU,sp,sp,iy l m];simp
theorem fW:∀(l:List LB),(∀w∈l,w.length<=21)->l.length<= (sp l).length/\ (sp l).length<=22*l.length
 |[],_=>by simp[sp]
 |w::l,h=>by
  have:=fW l λv hv=>h v (H9 _ hv);have:=h w (KM ..);rw[sp];simp only[B6,A?];omega
theorem Aee:∀(ws:List LB) (w:LB) (q:Nat),32∉w-> (∀v∈ws,32∉v)->ws.length<=q->Wk 32 (q+1) (w++sp ws)=w::ws
 |[],w,q,hw,_,_=>by
  rw[sp,F_,Wk,x_ w hw,A7 F4]
 |v::ws,w,q,hw,h,hq=>by
  cases q with
  |zero=>simp at hq
  |succ q=>
   have ih:=Aee ws v q (h v (KM ..)) (λu hu=>h u (H9 _ hu)) (by simpa using hq);have e2:(w++32::(v++sp ws)).drop ((Ad w).toNat+1)=v++sp ws:=by
    rw[show w++32::(v++sp ws)=(w++[32])++(v++sp ws) by simp,show(Ad w).toNat+1=(w++[32]).length by unfold Ad;simp,Tz]
   rw[sp,Wk,jI w _ hw,A4 (by rw[zlt];simp only[zi,B2];unfold Ad;omega),e2,ih];unfold Ad;simp
theorem Ato(f b:LB):∀(ws o:List LB),(∀v∈ws,v≠ [])->o.length+ws.length<=100000->Fu f b ws o=Az f b (o++ws)
 |[],o,_,_=>by rw[Fu,F_]
 |w::ws,o,h,hl=>by
  rw[B6]at hl;rw[Fu,A4 (by simpa using h w (KM ..)),Bi F5,A8,Ato f b ws (o++[w]) (λv hv=>h v (H9 _ hv)) F5];simp
theorem Awe(f b w:LB)(ws:List LB)(h:∀v∈w::ws,v≠ []/\32∉v/\v.length<=21)(hl:ws.length<=100):Bq f b (w++sp ws)=Az f b (w::ws):=by
 have hs:=fW ws λv hv=>(h v (H9 _ hv)).2.2;have hw:=h w (KM ..);unfold Bq wG Gi;rw[A7 (Q6 (by unfold Ad;simp;omega)),A8,A8,Aee ws w _ hw.2.1 (λv hv=>(h v (H9 _ hv)).2.1) F5,Ato f b (w::ws) [] (λv hv=>(h v hv).1) F5];rfl
theorem zw(h:p:=by rw[zgt];simp only[zi,B2];unfold Ad;omega):p:=h
theorem oF(h:p:=by rw[zeq];simp only[zi,B2];omega):p:=h
theorem An9(ws:List LB)(w:LB)(hw:w.length<=21)(h:∀v∈ws,v.length<=21)(hn:ws.length<=100):∀(q k:Nat),k<=ws.length/\ws.length<k+q->Pz [32] ws q k (w++sp (ws.take k))=some (w++sp ws):=
 ind (λk hI=>by exfalso;omega) λq ih k hI=>by
  rw[Pz,EO];have hs:=fW (ws.take k) λv hv=>h v (aF hv);have hs2:=fW ws h;rw[HH]at hs;by_cases hk:k<ws.length
  · have i:=ih (k+1) ⟨F0,F0⟩
    have hv:=h ws[k] (N5 _);rw[Gb hk,iy,sp,sp,F_]at i;rw[A7 (uF hk),GG hk,A8,Bi F5,A8,Bi F5,A8,Aj];simp only[C0,List.singleton_append,SU,O7]at i⊢;exact i
  · rw[A4 (iH hk),J0 F0]
    unfold EH Abz Gi;rw[A7 (Q6 (by unfold Ad;rw[A?];omega))];rfl
theorem An4(ws:List LB)(w:LB)(hw:w.length<=21)(h:∀v∈ws,v.length<=21)(hn:ws.length<=100)(g:Int)(hg:0<=g/\g<=281474976710656):Vp (w::ws) [32] g=some (w++sp ws):=by
  have k:=An9 ws w hw h hn Ay 0 ⟨F0,by have:=tB;omega⟩;rw[Ty,sp,F_]at k;have c:Cb (w::ws) 1 (Ad (w::ws))=some ws:=by
    unfold Cb Ad;rw[A7 F5,C',NI];rfl
  unfold Vp FJ Gi;rw[A7 (Q6 hg),A8,show Af (w::ws) (0:Int)=some w from rfl,A8,Bi F5,A8,c,A8];exact k
theorem Akc(ws:List LB)(h:∀v∈ws,v.length<=21)(hn:ws.length<=101)(R:LB)(hR:∀g:Int,0<=g/\g<=281474976710656->Vp ws [32] g=some R):∀(q m:Nat) (g:Int),m<=ws.length/\ws.length<m+q/\0<=g/\g<=1000+21*(m:Int)->Qa ws [32] q g m=some R:=
 ind (λk g hI=>by exfalso;omega) λq ih m g hI=>by
  rw[Qa,EM];by_cases hk:m<ws.length
  · have hv:=h ws[m] (N5 _)
    have i:=ih (m+1) (g+(ws[m].length:Nat)) ⟨F0,F0,F0,F0⟩;rw[A7 (uF hk),GG hk,A8,Dv,A4 zw,Aj (a:=g) SM SM,Aj];exact i
  · rw[A4 (iH hk)]
    exact hR g ⟨hI.2.2.1,F0⟩
theorem Asw(ws:List LB)(w:LB)(hw:w.length<=21)(h:∀v∈ws,v.length<=21)(hn:ws.length<=100):Qw (w::ws) [32]=some (w++sp ws):=by
  unfold Qw IF;have e1:Ad (w::ws)=(ws.length:Int)+1:=by unfold Ad;simp
  have e2:Ap (Ad (w::ws)) 1=(ws.length:Int):=by rw[e1,Dv];omega
  rw[A4 oF];by_cases h0:ws=[]
  · subst h0
    rw[A7 (show geq (Ad [w]) 1=true from rfl),sp,F_];rfl
  · have hp:0<ws.length:=List.length_pos_iff.2 h0
    have hq:=Int.ediv_nonneg (show(0:Int)<=9223372036854775807 by decide) (show 0<= (ws.length:Int) by omega);have h3:1000<= (9223372036854775807:Int)/(ws.length:Int):=Int.le_ediv_of_mul_le F0 F0;have h4:=Int.ediv_le_self (b:=(ws.length:Int)) (show(0:Int)<=9223372036854775807 by decide);rw[A4 oF,A7 F4,e2];unfold Gi;rw[A7 (by rw[zne];exact Q6 (by simp only[zi];omega)),A8,A4 (by rw[zge,XM,ztd _ F4,Df F0 F0];simp only[zi,B2];show ¬(9223372036854775807:Int)/_<=1;omega)];unfold Af4 JE;rw[e2];have e3:Ae 0 (Cm (Ad [(32:UInt8)]) (ws.length:Int))=(ws.length:Int):=by
      rw[show Ad [(32:UInt8)]=1 from rfl,Baj,Int.one_mul,Df F0 F0,Aj];omega
    rw[e3];exact Akc (w::ws) (λv hv=>(List.mem_cons.1 hv).elim (λe=>e▸hw) (h v)) F5 _ (λg hg=>An4 ws w hw h hn g hg) Ay 0 _ ⟨F0,by have:=tB;simp;omega,F0,F0⟩
theorem Ajo(a:LI)(z:Int)(hz:a.length<=100)(h:∀x∈a, -9223372036854775808<=x/\x<=9223372036854775807):∀(q i:Nat),i<=a.length/\a.length<i+q->Sa a q i ((a.take i).map Bv)=Qw (a.map Bv) [32]:=
 ind (λk hI=>by exfalso;omega) λq ih i hI=>by
  rw[Sa,JI];by_cases hk:i<a.length
  · have k:=ih (i+1) ⟨F0,F0⟩
    rw[Gb hk,Tx,IZ,VH]at k;rw[A7 (uF hk),GG hk,A8,Z_ (h _ (N5 _)),A8,Bi F5,A8,Aj];exact k
  · rw[A4 (iH hk),J0 F0]
    unfold IP Aeh;cases Qw (a.map Bv) [32]<;>rfl
theorem tF(v:Int)(a:LI)(hz:a.length<=99)(h:∀x∈v::a, -9223372036854775808<=x/\x<=9223372036854775807):Fc (v::a) 0=some (Bv v++sp (a.map Bv)):=by
  have k:=Ajo (v::a) 0 F5 h Ay 0 ⟨F0,by have:=tB;simp;omega⟩;unfold Fc IL;rw[A4 F4];refine KU k ?_;rw[IZ];exact Asw _ _ (Ju v) (λw hw=>by obtain⟨x,_,rfl⟩:=List.mem_map.1 hw;exact Ju x) F5
theorem uN(x:Int32): -2147483648<=x.toInt/\x.toInt<=2147483647:=⟨Int32.le_toInt x,by have:=Int32.toInt_lt x;omega⟩
theorem Ah9(x:LX)(hx:x.length<=100):∀(q i:Nat),i<=x.length/\x.length<i+q->Lw 0 x q i ((x.take i).map Int32.toInt)=Fc (x.map Int32.toInt) 0:=
 ind (λk hI=>by exfalso;omega) λq ih i hI=>by
  rw[Lw,Yy];by_cases hk:i<x.length
  · have k:=ih (i+1) ⟨F0,F0⟩
    rw[Gb hk,Tx,IZ,VH]at k;rw[A7 (uF hk),GG hk,A8,YV,Bi F5,A8,Aj];exact k
  · rw[A4 (iH hk),J0 F0]
    unfold Yj QG;cases Fc (x.map Int32.toInt) 0<;>rfl
theorem Abx(c w r:Int)(v:Int32)(x:LX)(hx:x.length<=90):Fx c w r (v::x) 0=some (Bv v.toInt++sp (x.map λy=>Bv y.toInt)):=by
  have k:=Ah9 (v::x) F5 Ay 0 ⟨F0,by have:=tB;simp;omega⟩;unfold Fx Yk MZ;refine KU k ?_;rw[IZ,tF _ _ F5 λz hz=>by
    rw[<-IZ]at hz;obtain⟨y,_,rfl⟩:=List.mem_map.1 hz;have:=uN y;omega,ZE]
  rfl
set_option maxRecDepth 100000 in
theorem Arc(f b:LB):Az f b [[112,97,115,115,119,111,114,100]]=some ([111,107],f,[]):=by kernel_rfl
set_option maxRecDepth 100000 in
theorem As0(f b:LB):Az f b [[112,97,115,115,119,111,114,100],[107,101,121]]=some ([111,107],f,[107,101,121]):=by kernel_rfl
set_option maxRecDepth 100000 in
theorem Beq(f b:LB):Az f b [[115,97,109,112,108,101,115]]=Option.bind (Py f b) λr=>Option.bind (Fx r.1 r.2.1 r.2.2.1 r.2.2.2.1 r.2.2.2.2) λz=>some (z,f,b):=by kernel_rfl
set_option maxRecDepth 100000 in
theorem Aia(f b:LB):Az f b [[102,114,111,109],[48]]=Option.bind (Ug f b 0) λr=>Option.bind (Gl r.1 r.2) λz=>some (z,f,b):=by kernel_rfl
set_option maxRecDepth 100000 in
theorem Aid(f b:LB):Az f b [[116,111,108,100]]=Option.bind (Uo f b) λr=>Option.bind (Fc [r.1,(Ah r.2.1:Int),r.2.2.1,r.2.2.2.1] r.2.2.2.2) λz=>some (z,f,b):=by kernel_rfl
end Go.Pl
namespace Go.Pl
open Go Go.Lv
theorem Awl{α:Type}(w:α)(ws:List α):Cb (w::ws) 1 (Ad (w::ws))=some ws:=by
  unfold Cb Ad;rw[A7 F5,C',NI];rfl
theorem Avu{α:Type}(u v w:α)(ws:List α):Cb (u::v::w::ws) 3 (Ad (u::v::w::ws))=some ws:=by
  unfold Cb Ad;rw[A7 F5,C',NI];rfl
theorem Ahc(h f b:LB)(vs:LI)(hv:∀v∈vs, -999999999<=v/\v<=999999999)(hn:vs.length<=100):∀(q i:Nat),i<=vs.length/\vs.length<i+q->Ic h (vs.map Bv) f b q i (vs.take i)=Ky h f b vs:=
 ind (λk hI=>by exfalso;omega) λq ih i hI=>by
  rw[Ic,Qz];by_cases hk:i<vs.length
  · have k:=ih (i+1) ⟨F0,F0⟩
    have hk2:i<(vs.map Bv).length:=by rw[U5];exact hk
    rw[Gb hk]at k;rw[A7 (uF hk2),GG hk2,A8,Wv,Aog (hv _ (N5 _)),A8];simp only;rw[A4 F4,Bi F5,A8,Aj];exact k
  · rw[A4 (iH (by rw[U5];exact hk)),J0 F0]
theorem Avz(x:Int32):(Ah x.toInt:Int32)=x:=by rw[Ai8,W8]
theorem Acv(f b:LB)(c w r:Int)(x:LX)(hn:x.length<=100):∀(q i:Nat),i<=x.length/\x.length<i+q->Hg (x.map Int32.toInt) f b c w r q i (x.take i)=Dk f b c w r x:=
 ind (λk hI=>by exfalso;omega) λq ih i hI=>by
  rw[Hg,Qg];by_cases hk:i<x.length
  · have k:=ih (i+1) ⟨F0,F0⟩
    have hk2:i<(x.map Int32.toInt).length:=by rw[U5];exact hk
    rw[Gb hk]at k;rw[A7 (uF hk2),GG hk2,A8,Wv,Avz,Bi F5,A8,Aj];exact k
  · rw[A4 (iH (by rw[U5];exact hk)),J0 F0]
theorem Ais(f b:LB)(c w r:Int)(x:LX)(hx:x.length<=90)(hv:∀v∈c::w::r::x.map Int32.toInt, -999999999<=v/\v<=999999999):Az f b ([99,108,105,112]::(c::w::r::x.map Int32.toInt).map Bv)=Dk f b c w r x:=by
  have hl:(c::w::r::x.map Int32.toInt).length=x.length+3:=by simp
  have k:=Ahc [99,108,105,112] f b (c::w::r::x.map Int32.toInt) hv F0 Ay 0 ⟨F0,by have:=tB;omega⟩;have k2:=Acv f b c w r x F0 Ay 0 ⟨F0,by have:=tB;omega⟩;have hm:Ad ((c::w::r::x.map Int32.toInt).map Bv)=(x.length:Int)+3:=by unfold Ad;rw[U5,hl];omega
  rw[Az,Tn,show∀(w:LB) ws,Af (w::ws) (0:Int)=some w from λ_ _=>rfl,A8,Awl,A8,Re,La,hm,A4 oF,Rh,Ku,A4 (by rw[show(([99,108,105,112]:LB)==[112,97,115,115,119,111,114,100])=false from rfl];simp),A4 (by rw[show((([99,108,105,112]:LB)==[102,105,108,101])||(([99,108,105,112]:LB)==[97,100,100]))=false from rfl];simp),A4 F4,BO,Rw,Dw,Dd,A4 F4,AY,Dc,Qy];refine KU k ?_;rw[Ky,Ld,A4 F4,A4 F4,A4 F4,A4 F4,A4 F4,A4 F4,A4 F4,A4 F4,A7 F4,A7 (by unfold Ad;rw[hl,zge,zle];simp only[zi,A9,B2];exact⟨⟨trivial,F0⟩,F0⟩),show∀(a b c:Int) (l:LI),Af (a::b::c::l) (0:Int)=some a from λ_ _ _ _=>rfl,A8,show∀(a b c:Int) (l:LI),Af (a::b::c::l) (1:Int)=some b from λ_ _ _ _=>rfl,A8,show∀(a b c:Int) (l:LI),Af (a::b::c::l) (2:Int)=some c from λ_ _ _ _=>rfl,A8,A8,A8,A8,AO,Pu,Avu,A8,Ae1];exact k2
theorem Amv:Ao 8=some [101,114,114,111,114,32,56]:=by rfl
theorem Am8(f b:LB)(c w r:Int)(x:LX)(h:Fa c w r x=some 8):Dk f b c w r x=some ([101,114,114,111,114,32,56],f,b):=by
  rw[Dk,Pj,Uf,CC,h,A8,A7 F4,A8];simp only;rw[A7 F4,Amv];rfl
theorem Agy{c w r n:Nat}{x:LX}(h:ClipOk c w r n x)(hk:Fa (c:Int) (w:Int) (r:Int) x=some 0)(f:LB){p:LB}(hp:p.length<=64):Dk f p (c:Int) (w:Int) (r:Int) x=some (Bv ((Ey c w r n x p).length:Int),Ey c w r n x p,p):=by
  have hl:=mB h p;rw[Dk,Pj,Ayo h hk hp,A8];simp only;rw[A4 F4,A4 zw,Z_ SM];rfl
def N':LB->LB->List LB->List LB->Prop
  |f,b,[],os=>os=[]
  |f,b,l::ls,os=>∃o f' b' t,os=o::t/\Bq f b l=some (o,f',b')/\N' f' b' ls t
theorem Q7:∀(ls:List LB) (f b:LB) (os:List LB),N' f b ls os->os.length=ls.length
  |[],f,b,os,h=>by rw[show os=[]from h]
  |l::ls,f,b,os,h=>by
    obtain⟨o,f',b',t,rfl,_,h⟩:=h;rw[B6,B6,Q7 ls f' b' t h]
theorem Azd(ls:List LB):∀(f b a:LB) (os:List LB),N' f b ls os->aC Ls ls-> (∀o∈os,o.length<=100000)->a.length+100001*ls.length<=17179869184->Nt (ls.map (· ++[10])) f b a=some (a++GP os,0):=by
  induction ls with
  |nil=>
    intro f b a os h _ _ ha;rw[show os=[]from h,VH,Nt,Gi,A7 (Q6 (by unfold Ad;simp at ha;omega))];simp[GP]
  |cons l ls ih=>
    intro f b a os h hl ho ha;obtain⟨o,f',b',t,rfl,e,h⟩:=h;have ho1:=ho o (KM ..);rw[B6]at ha;have ih:=ih f' b' (a++(o++[10])) t h (λx hx=>hl x (H9 _ hx)) (λx hx=>ho x (H9 _ hx)) F5;rw[IZ,Nt,trim l (hl l (KM ..)).2,A8,e,A8];simp only;rw[Bi oJ,A8,Bi (by simp only[A?,Ul];omega),A8,ih];simp[GP]
theorem xB:∀(os:List LB),(∀o∈os,o.length<=100000)-> (GP os).length<=100001*os.length
  |[],_=>by simp[GP]
  |o::os,h=>by
    have:=xB os λx hx=>h x (H9 _ hx);have:=h o (KM ..);rw[GP,A?,B6,B6];omega
theorem Ap1(ls os:List LB)(hr:N' [] [] ls os)(h:aC Ls ls)(ho:∀o∈os,o.length<=100000)(hN:aC (aC Nl) os)(hl:(GP ls).length<=3000)(h0:ls≠ [])(hn:ls.length<=20):Mb (GP ls)=some (os,true):=by
  have hlen:=Q7 ls [] [] os hr;have kb:=xB os ho;have hs:=Ah2 os hN F0 F0;have hR:AR (GP ls)=some (GP os,0):=by
    unfold AR;rw[Aiu ls h SM F0,A8,A4 F4];unfold D_ Gi;rw[A7 (Q6 SM),A8,A8,Atu ls _ h (n_ _),Azd ls [] [] [] os hr h ho F5];rfl
  unfold Mb;rw[hR,A8];simp only;rw[A4 F4];have ho0:os≠ []:=by
    intro e;rw[e]at hlen;exact h0 (List.length_eq_zero_iff.1 hlen.symm)
  have hl2:=O? os ho0;cases ht:GP os with
  |nil=>rw[ht]at hl2;cases hl2
  |cons x s=>
    rw[ht]at hl2 hs kb;rw[B6]at kb;have hl:Ap (Ad (x::s)) 1=(s.length:Int):=by
      rw[show Ad (x::s)=(s.length:Int)+1 from by unfold Ad;simp,Dv];omega
    have hg:Af (x::s) (s.length:Int)=some 10:=by
      rw[GG F8,<-hl2,List.getLast?_eq_getElem?,C? F8];simp
    rw[A7 (by rw[zgt];exact Q6 (by simp only[zi];unfold Ad;simp)),hl,hg,A8,A4 F4,hs,A8]
theorem zx{p:Prop}(h:p:=by rw[zlt,zgt];simp only[zi,R!,B2];omega):p:=h
theorem ZL{p:Prop}(h:p:=by simp only[A?,B6,V5];omega):p:=h
theorem gI{p:Prop}(h:p:=by simp only[B6,V5];omega):p:=h
def B9:LB:=[115,97,109,112,108,101,115]
def Y7:LB:=[102,114,111,109,32,48]
def zM:LB:=[116,111,108,100]
def E24:LB:=[101,114,114,111,114,32,50,52]
theorem Awp(f b:LB):Bq f b [112,97,115,115,119,111,114,100]=some ([111,107],f,[]):=by
  rw[a_ f b _ F8 F4 F8,Arc]
theorem Aw0(f b:LB):Bq f b [112,97,115,115,119,111,114,100,32,107,101,121]=some ([111,107],f,[107,101,121]):=by
  have:=tW f b [112,97,115,115,119,111,114,100] [107,101,121] F8 F4 F8 F4 F8;rw[As0]at this;exact this
theorem v?(f b:LB):Bq f b B9=Az f b [B9]:=a_ f b _ (by simp[B9]) F4 (by simp[B9])
theorem xE(f b:LB):Bq f b zM=Az f b [zM]:=a_ f b _ (by simp[zM]) F4 (by simp[zM])
theorem v_(f b:LB):Bq f b Y7=Az f b [[102,114,111,109],[48]]:=tW f b [102,114,111,109] [48] F8 F4 F8 F4 F8
set_option maxRecDepth 100000 in
theorem Alq:Az [] [] [B9]=some (E24,[],[]):=by kernel_rfl
set_option maxRecDepth 100000 in
theorem Am2:Az [] [107,101,121] [B9]=some (E24,[],[107,101,121]):=by kernel_rfl
set_option maxRecDepth 100000 in
theorem Aoj:Az [] [] [[102,114,111,109],[48]]=some (E24,[],[]):=by kernel_rfl
set_option maxRecDepth 100000 in
theorem Alb:Az [] [107,101,121] [[102,114,111,109],[48]]=some (E24,[],[107,101,121]):=by kernel_rfl
set_option maxRecDepth 100000 in
theorem Aol:Az [] [] [zM]=some ([50,52,32,50,32,48,32,48],[],[]):=by kernel_rfl
set_option maxRecDepth 100000 in
theorem Anu:Az [] [107,101,121] [zM]=some ([50,52,32,50,32,48,32,48],[],[107,101,121]):=by kernel_rfl
def pwL(o:Bool):LB:=if o then [112,97,115,115,119,111,114,100,32,107,101,121]else [112,97,115,115,119,111,114,100]
def pwO(o:Bool):LB:=if o then [107,101,121]else []
theorem Auv(o:Bool):(pwO o).length<=64:=by cases o<;>simp[pwO]
theorem Afh (f b:LB)(o:Bool):Bq f b (pwL o)=some ([111,107],f,pwO o):=by
  cases o
  · exact Awp f b
  · exact Aw0 f b
theorem Aq2(o:Bool):Bq [] (pwO o) B9=some (E24,[],pwO o):=by
  rw[v?];cases o
  · exact Alq
  · exact Am2
theorem Apt(o:Bool):Bq [] (pwO o) Y7=some (E24,[],pwO o):=by
  rw[v_];cases o
  · exact Aoj
  · exact Alb
theorem Ap9(o:Bool):Bq [] (pwO o) zM=some ([50,52,32,50,32,48,32,48],[],pwO o):=by
  rw[xE];cases o
  · exact Aol
  · exact Anu
section
variable {c w r n:Nat} {x:LX} (h:ClipOk c w r n x) {p:LB} (hp:p.length<=64)
include h hp
theorem Ar3:Bq (Ey c w r n x p) p zM=some (Bv 0++sp [Bv 0,Bv 0,Bv ((n*(c*wB (w:Int)):Nat):Int)],Ey c w r n x p,p):=by
  have hle:=h.le;have hwb:=nX (w:Int);have hb:n*c*wB (w:Int)<=4000*3:=P8 hle.2.1 hwb.2;rw[N9]at hb;rw[xE,zM,Aid,Aw9 h hp,A8];simp only;have k:=tF 0 [(Ah (0:UInt8):Int),0,((n*(c*wB (w:Int)):Nat):Int)] F8 (by
    intro z hz;simp only[VQ,oD,or_false]at hz;rcases hz with rfl|rfl|rfl|rfl
    · omega
    · exact⟨F4,F4⟩
    · omega
    · omega)
  rw[k,A8];rfl
theorem Atf:Bq (Ey c w r n x p) p Y7=some (fO (By (w:Int) x),Ey c w r n x p,p):=by
  have hle:=h.le;have hwb:=nX (w:Int);have hb:x.length*wB (w:Int)<=4000*3:=P8 hle.2.2.2 hwb.2;have hl:=Ux h.bits x;rw[v_,Aia,Avd h hp,A8];simp only;rw[Bcu _ F0,A8]
theorem As2(hx:x.length<=90):∃v,Bq (Ey c w r n x p) p B9=some (v,Ey c w r n x p,p)/\32::v=sp (x.map λy=>Bv y.toInt):=by
  have hle:=h.le;have hq:=Ah7 h hp;rw[v?,B9,Beq,hq,A8];simp only;obtain⟨v,y,rfl⟩:∃v y,x=v::y:=by
    cases x with
    |nil=>simp at hle
    |cons v y=>exact⟨v,y,rfl⟩
  rw[Abx _ _ _ _ _ (by simp at hx;omega),A8];exact⟨_,rfl,rfl⟩
end
theorem Ax0(a:Int):nC a=wrap64 (0-a):=rfl
theorem Anh(o:Bool)(N:LB)(h a k:Int)(x:LX)(hn:x.length<=60):∀(q i:Nat),i<=x.length/\x.length<i+q->Dn o true N h a k x q (sp ((x.take i).map λy=>Bv y.toInt)) i=some true\/ ((∀y∈x.drop i, -999999999<=y.toInt/\y.toInt<=999999999)/\Dn o true N h a k x q (sp ((x.take i).map λy=>Bv y.toInt)) i=Cv o true N (sp (x.map λy=>Bv y.toInt)) h a k x):=
 ind (λk hI=>by exfalso;omega) λq ih i hI=>by
  rw[Dn,Kz];by_cases hk:i<x.length
  · rw[A7 (uF hk),GG hk,A8,YV]
    have hb:=uN x[i];have hs:=fW ((x.take i).map λy=>Bv y.toInt) (λw hw=>by obtain⟨y,_,rfl⟩:=List.mem_map.1 hw;exact Ju _);rw[U5,HH]at hs;have hi:=Ju x[i].toInt;have hi2:=Ju (-x[i].toInt);by_cases hr: -999999999<=x[i].toInt/\x[i].toInt<=999999999
    · have kk:=ih (i+1) ⟨F0,F0⟩
      rw[Gb hk,Tx,IZ,VH,iy,sp,sp,F_]at kk;rw[A4 zx,Aj];have hd:x.drop i=x[i]::x.drop (i+1):=eR hk;rw[hd];have goal:∀R:Option Bool,(Dn o true N h a k x q (sp ((x.take i).map λy=>Bv y.toInt)++32::Bv x[i].toInt) ((i:Int)+1)=R)->R=some true\/ ((∀y∈x[i]::x.drop (i+1), -999999999<=y.toInt/\y.toInt<=999999999)/\R=Cv o true N (sp (x.map λy=>Bv y.toInt)) h a k x):=λR hR=>by
        rw[<-hR];rcases kk with kk|⟨k1,k2⟩
        · exact .inl kk
        · refine .inr ⟨λy hy=>?_,k2⟩
          rcases List.mem_cons.1 hy with rfl|hy
          · exact hr
          · exact k1 y hy
      by_cases hz:x[i].toInt<0
      · have en:nC x[i].toInt= -x[i].toInt:=by rw[Ax0,Df F0 F0];omega
        rw[A7 (by rw[zlt];exact Q6 hz),en,Zp F0,A8,Bi gI,A8,Bi ZL,A8];refine goal _ ?_;rw[itoa_neg hz];rfl
      · rw[A4 (by rw[zlt];simp only[zi,B2];exact hz),Zp F0,A8,Bi gI,A8,Bi ZL,A8]
        exact goal _ rfl
    · left
      rw[A7 zx]
  · right
    rw[A4 (iH hk),J0 F0,U? F0];exact⟨λy hy=>(oD hy).elim,rfl⟩
end Go.Pl
namespace Go.Pl
open Go Go.Lv
variable{h a k:Int}{x:LX}{os:List LB}{w:Nat}
theorem yD(l:List LB)(h:∀w∈l,aC Nl w):aC Nl (sp l):=by
 induction l with
 |nil=>exact all_nil
 |cons w l ih=>exact all_cons (by intro e;exact absurd e F4) (O' (h w (KM ..)) (ih λv hv=>h v (H9 _ hv)))
theorem E1(n:Int):aC Nl (Bv n):=λx hx=>(sS n x hx).1
theorem yC(x:LX):∀w∈x.map λy=>Bv y.toInt,w.length<=21:=λw hw=>by obtain⟨y,_,rfl⟩:=List.mem_map.1 hw;exact Ju _
theorem Ax6(x:LX):aC Nl (sp (x.map λy=>Bv y.toInt)):=yD _ λw hw=>by obtain⟨y,_,rfl⟩:=List.mem_map.1 hw;exact E1 _
def clL(h a k:Int)(x:LX):LB:=[99,108,105,112]++sp ((h::a::k::x.map Int32.toInt).map Bv)
theorem Aqb(hh:0<=h/\h<=99)(ha:0<=a/\a<=99)(hk:0<=k/\k<=2000000)(hr:∀y∈x, -999999999<=y.toInt/\y.toInt<=999999999):∀v∈h::a::k::x.map Int32.toInt, -999999999<=v/\v<=999999999:=by
 intro v hv;rcases List.mem_cons.1 hv with rfl|hv
 ·omega
 rcases List.mem_cons.1 hv with rfl|hv
 ·omega
 rcases List.mem_cons.1 hv with rfl|hv
 ·omega
 obtain⟨y,hy,rfl⟩:=List.mem_map.1 hv;exact hr y hy
theorem I? (f b:LB)(hx:x.length<=60)(hv:∀v∈h::a::k::x.map Int32.toInt, -999999999<=v/\v<=999999999):Bq f b (clL h a k x)=Dk f b h a k x:=by
 unfold clL;rw[Awe f b [99,108,105,112] _ (λv hv2=>by
  rcases List.mem_cons.1 hv2 with rfl|hv2
  ·exact⟨F8,F4,F8⟩
  ·obtain⟨z,hz,rfl⟩:=List.mem_map.1 hv2;exact⟨Aq3 z (hv z hz),λhm=>(sS z 32 hm).2 rfl,Ju z⟩) F5]
 exact Ais f b h a k x F0 hv
theorem vX(hx:x.length<=60):(clL h a k x).length<=1400:=by
 have:=fW ((h::a::k::x.map Int32.toInt).map Bv) λw hw=>by obtain⟨y,_,rfl⟩:=List.mem_map.1 hw;exact Ju _
 unfold clL;rw[A?];simp only[U5,B6,V5]at this⊢;omega
theorem Aya(hx:x.length<=60):Ls (clL h a k x):=⟨O' (nlB F4) (yD _ λw hw=>by obtain⟨y,_,rfl⟩:=List.mem_map.1 hw;exact E1 _),by have:=vX (h:=h) (a:=a) (k:=k) hx;unfold Ad;omega⟩
theorem U'{l:LB}(h:(l.all λx=>!(x==10))=true)(hl:l.length<=3000):Ls l:=⟨nlB h,by unfold Ad;omega⟩
def five(o:Bool)(h a k:Int)(x:LX):List LB:=[pwL o,clL h a k x,B9,Y7,zM]
theorem Ac9(o:Bool)(hx:x.length<=60)(hr:N' [] [] (five o h a k x) os)(ho:∀z∈os,z.length<=100000)(hN:aC (aC Nl) os):Mb (GP (five o h a k x))=some (os,true):=by
 have hc:=vX (h:=h) (a:=a) (k:=k) hx;have hp:(pwL o).length<=12/\Ls (pwL o):=by cases o<;>exact⟨F4,U' F4 F4⟩
 refine Ap1 _ _ hr ?_ ho hN ?_ (by simp[five]) (by simp[five])
 ·exact all_cons hp.2 (all_cons (Aya hx) (all_cons (U' F4 F4) (all_cons (U' F4 F4) (jL (U' F4 F4)))))
 ·unfold five;simp only[GP,A?,B6,V5,B9,Y7,zM];omega
theorem Aot(o:Bool)(h a k:Int)(x:LX):((pwL o++[10])++([99,108,105,112,32]++Bv h++[32]++Bv a++[32]++Bv k)++sp (x.map λy=>Bv y.toInt))++[10,115,97,109,112,108,101,115,10,102,114,111,109,32,48,10,116,111,108,100,10]=GP (five o h a k x):=by
 have e:(x.map Int32.toInt).map Bv=x.map λy=>Bv y.toInt:=by rw[ZE];rfl
 unfold five clL;rw[IZ,IZ,IZ,e];simp[GP,sp,B9,Y7,zM]
theorem Auq(o:Bool)(hx:x.length<=60)(hr:N' [] [] (five o h a k x) os)(ho:∀z∈os,z.length<=100000)(hN:aC (aC Nl) os):Cv o true ([99,108,105,112,32]++Bv h++[32]++Bv a++[32]++Bv k) (sp (x.map λy=>Bv y.toInt)) h a k x=Kn Ep true ([99,108,105,112,32]++Bv h++[32]++Bv a++[32]++Bv k) (sp (x.map λy=>Bv y.toInt)) h a k x (pwL o++[10]):=by
 cases o<;>rfl
theorem uj(o:Bool)(hx:x.length<=60)(hr:N' [] [] (five o h a k x) os)(ho:∀z∈os,z.length<=100000)(hN:aC (aC Nl) os):Cv o true ([99,108,105,112,32]++Bv h++[32]++Bv a++[32]++Bv k) (sp (x.map λy=>Bv y.toInt)) h a k x=if(Af os 0==some [111,107])=true then Ep true (sp (x.map λy=>Bv y.toInt)) h a k x os else some false:=by
 have hl:=Ac9 o hx hr ho hN;have hsl:=fW (x.map λy=>Bv y.toInt) (yC x);have h1:=Ju h;have h2:=Ju a;have h3:=Ju k;have hp:(pwL o).length<=12:=by cases o<;>decide
 have hos:=Q7 _ _ _ _ hr;rw[<-Aot]at hl;rw[U5]at hsl;rw[Auq o hx hr ho hN,Kn,Bi F5,A8,Bi F5,A8,Bi F5,A8,hl,A8];simp only;rw[A4 (by rw[zne];simp only[zi];unfold Ad;rw[hos];simp[five])];obtain⟨y,t,rfl⟩:∃y t,os=y::t:=by
  cases os with
  |nil=>simp[five]at hos
  |cons y t=>exact⟨y,t,rfl⟩
 rw[show Af (y::t) (0:Int)=some y from rfl,A8,A8];by_cases hy:y=[111,107]
 ·subst hy;rw[A4 F8,A7 F8]
 ·rw[A7 (by simpa using hy),A4 (by simpa using hy)]
theorem Ath(o:Bool)(hx:x.length<=60)(hv:∀v∈h::a::k::x.map Int32.toInt, -999999999<=v/\v<=999999999)(e24:Ct h a k x=some 8)(eck:Fa h a k x=some 8):Cv o true ([99,108,105,112,32]++Bv h++[32]++Bv a++[32]++Bv k) (sp (x.map λy=>Bv y.toInt)) h a k x=some true:=by
 have hr:N' [] [] (five o h a k x) [[111,107],[101,114,114,111,114,32,56],E24,E24,[50,52,32,50,32,48,32,48]]:=
  ⟨_,_,_,_,rfl,Afh [] [] o,_,_,_,_,rfl,(I? [] (pwO o) hx hv).trans (Am8 _ _ _ _ _ _ eck),_,_,_,_,rfl,Aq2 o,_,_,_,_,rfl,Apt o,_,_,_,_,rfl,Ap9 o,rfl⟩
 rw[uj o hx hr F4 (all_cons (nlB F4) (all_cons (nlB F4) (all_cons (nlB F4) (all_cons (nlB F4) (jL (nlB F4)))))),A7 F4,Ep,Ko,e24,A8,A7 F4,A7 rfl];rfl
theorem Azi{m:Nat}(hw:Cy (w:Int))(hm:m<=60):Ej (Cm (Cm 2 (m:Int)) (w:Int)) 8=((2*(m*wB (w:Int)):Nat):Int)/\Ej (Cm (m:Int) (w:Int)) 8=((m*wB (w:Int):Nat):Int):=by
 have k:w=8\/w=16\/w=24:=by unfold Cy at hw;omega
 have e:Cm 2 (m:Int)=2*(m:Int):=Gk;rcases k with rfl|rfl|rfl
 ·rw[e,Gk,Gk,XM,XM,ztd _ F0,ztd _ F0,Df F0 F0,Df F0 F0,show wB ((8:Nat):Int)=1 from rfl];omega
 ·rw[e,Gk,Gk,XM,XM,ztd _ F0,ztd _ F0,Df F0 F0,Df F0 F0,show wB ((16:Nat):Int)=2 from rfl];omega
 ·rw[e,Gk,Gk,XM,XM,ztd _ F0,ztd _ F0,Df F0 F0,Df F0 F0,show wB ((24:Nat):Int)=3 from rfl];omega
theorem Ak8(o:Bool){c r n:Nat}(h:ClipOk c w r n x)(hx:x.length<=60)(hv:∀v∈(c:Int)::(w:Int)::(r:Int)::x.map Int32.toInt, -999999999<=v/\v<=999999999)(e24:Ct (c:Int) (w:Int) (r:Int) x=some 0)(eck:Fa (c:Int) (w:Int) (r:Int) x=some 0):Cv o true ([99,108,105,112,32]++Bv (c:Int)++[32]++Bv (w:Int)++[32]++Bv (r:Int)) (sp (x.map λy=>Bv y.toInt)) (c:Int) (w:Int) (r:Int) x=some true:=by
 have hp:=Auv o;obtain⟨v,ev,esp⟩:=As2 h hp F0;have hwb:=nX (w:Int);have hbl:=Ux h.bits x;have hxb:x.length*wB (w:Int)<=60*3:=P8 hx hwb.2;have hxl:=h.len;have eN:n*(c*wB (w:Int))=x.length*wB (w:Int):=by rw[hxl,N9]
 obtain⟨z1,z2⟩:=Azi h.bits hx;have hT:=Ar3 h hp;rw[eN]at hT;have hr:N' [] [] (five o (c:Int) (w:Int) (r:Int) x) [[111,107],Bv ((Ey c w r n x (pwO o)).length:Int),v,fO (By (w:Int) x),Bv 0++sp [Bv 0,Bv 0,Bv ((x.length*wB (w:Int):Nat):Int)]]:=
  ⟨_,_,_,_,rfl,Afh [] [] o,_,_,_,_,rfl,(I? [] (pwO o) hx hv).trans (Agy h eck [] hp),_,_,_,_,rfl,ev,_,_,_,_,rfl,Atf h hp,_,_,_,_,rfl,hT,rfl⟩
 have hsl:=fW (x.map λy=>Bv y.toInt) (yC x);have hxn:=Ax6 x;rw[U5]at hsl;rw[<-esp]at hsl hxn;rw[B6]at hsl;have hvn:aC Nl v:=λy hy=>hxn y (H9 _ hy);have hll:=W7 (By (w:Int) x);have hi1:=Ju ((Ey c w r n x (pwO o)).length:Int);have hi2:=Ju ((x.length*wB (w:Int):Nat):Int);have e0:Bv 0=[48]:=by rfl
 have e5:Bv 0++sp [Bv 0,Bv 0,Bv ((x.length*wB (w:Int):Nat):Int)]=[48,32,48,32,48,32]++Bv ((x.length*wB (w:Int):Nat):Int):=by rw[e0];simp[sp]
 rw[e5]at hr;have hb:∀z∈[[111,107],Bv ((Ey c w r n x (pwO o)).length:Int),v,fO (By (w:Int) x),[48,32,48,32,48,32]++Bv ((x.length*wB (w:Int):Nat):Int)],z.length<=100000:=by
  intro z hz;simp only[VQ,oD,or_false]at hz;rcases hz with rfl|rfl|rfl|rfl|rfl
  ·decide
  ·omega
  ·omega
  ·omega
  ·rw[A?];simp only[B6,V5];omega
 have hN:aC (aC Nl) [[111,107],Bv ((Ey c w r n x (pwO o)).length:Int),v,fO (By (w:Int) x),[48,32,48,32,48,32]++Bv ((x.length*wB (w:Int):Nat):Int)]:=all_cons (nlB F4) (all_cons (E1 _) (all_cons hvn (all_cons (Aqx _) (jL (O' (nlB F4) (E1 _))))));rw[uj o hx hr hb hN,A7 (by rfl),Ep,Ko,e24,A8,A4 F4,Aag,Aah,A7 rfl];have g2:∀(a b c d e:LB),Af [a,b,c,d,e] (2:Int)=some c:=λ_ _ _ _ _=>rfl;have g3:∀(a b c d e:LB),Af [a,b,c,d,e] (3:Int)=some d:=λ_ _ _ _ _=>rfl;have g4:∀(a b c d e:LB),Af [a,b,c,d,e] (4:Int)=some e:=λ_ _ _ _ _=>rfl;have hlx:Ad x=(x.length:Int):=rfl;rw[g2,A8,A8,Bi oJ,A8,<-esp,A7 F8,g3,A8,A8,hlx,z1,A7 (by rw[zeq];exact Q6 (by simp only[zi];unfold Ad;omega)),g4,A8,A8,z2,Zp F0,A8,Bi gI,A8];simp
theorem Akf(hA:Rj=some true)(h a k:Int)(x:LX)(o:Bool):Jl h a k x o=some true:=by
 unfold Jl Kw;rw[hA,A8];split
 ·rfl
 ·rename_i hc;simp only[zgt,zlt,zi,R!,B2,not_or]at hc;have hx:x.length<=60:=by have:=hc.1.1.1.1.1.1.1;unfold Ad at this;omega
  have h1:=Ju h;have h2:=Ju a;have h3:=Ju k;rw[Zp F0,A8,Bi gI,A8,Bi ZL,A8,Zp F0,A8,Bi ZL,A8,Bi ZL,A8,Zp F0,A8,Bi ZL,A8];have key:=Anh o ([99,108,105,112,32]++Bv h++[32]++Bv a++[32]++Bv k) h a k x hx Ay 0 ⟨F0,by have:=tB;omega⟩;rw[Ty,VH,sp,W?,Int.natCast_zero]at key;rw[Aao,Le,Aar];rcases key with e|⟨hr,e⟩
  ·exact e
  ·rw[e];have hv:=Aqb (h:=h) (a:=a) (k:=k) (x:=x) F0 F0 F0 hr;rcases Azz h a k x with⟨e8,c8⟩|⟨c,w,r,n,rfl,rfl,rfl,hok,e24,eck⟩
   ·exact Ath o hx hv e8 (c8 F0)
   ·exact Ak8 o hok hx hv e24 eck
end Go.Pl
set_option maxRecDepth 100000
namespace Go.Pl
open Go Go.Lv
theorem Ar2:Rj=some true:=by kernel_rfl
theorem law_ConsoleClip(h a k:Int)(x:LX)(o:Bool):Jl h a k x o=some true:=Akf Ar2 h a k x o
end Go.Pl
