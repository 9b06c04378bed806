/- A part of a proof (see the text that ends in Proof). No conditions. -/
import Derived.Test.YtaokmgopghpikaaGreatDoorSeWA
set_option linter.unusedVariables false
set_option linter.unusedSimpArgs false
namespace Go.Pl
open Go Go.Lv
theorem Mu{p q:LB}{n:Nat}(h:n<=p.length):(p++q).take n=p.take n:=by rw[aM h]
theorem sL{p q:LB}{i:Nat}(h:i<p.length):(p++q).getD i 0=p.getD i 0:=by
 rw[J3,RM h,<-J3]
theorem Qq{p q:LB}{a w:Nat}(h:a+w<=p.length:=by omega):part (p++q) a w=part p a w:=by rw[part,Mu h,part]
theorem uC{p q s:LB}(h:Th p s=false)(hl:p.length<s.length):(p++q).take s.length≠s:=by
 intro e;rw[Th,UI hl,V8]at h;have h1:p=s.take p.length:=by
  have:=congrArg (List.take p.length) e;rw[dM,SF F0,Mu (N! _),US]at this;exact this
 rw[<-h1]at h;simp at h
theorem Ad0{p:LB}(q:LB)(h:(Zy p).2≠24)(h6:Th p T3=false):Zy (p++q)=Zy p:=by
 unfold Zy at h⊢;by_cases h3:3<=p.length/\p.take 3=[73,68,51]
 ·have h3':3<= (p++q).length/\ (p++q).take 3=[73,68,51]:=⟨by rw[D!];omega,by rw[Mu h3.1];exact h3.2⟩;have n1:¬ ¬(3<=p.length/\p.take 3=[73,68,51]):=λf=>f h3;have n2:¬ ¬(3<= (p++q).length/\ (p++q).take 3=[73,68,51]):=λf=>f h3';rw[B! n1]at h;rw[B! n1,B! n2];by_cases h10:p.length<10
  ·rw[CD h10]at h;exact absurd rfl h
  ·have h10':¬(p++q).length<10:=by rw[D!];omega
   rw[B! h10]at h;rw[B! h10,B! h10',Qq,sL F0,sL F0,sL F0];split
   ·rfl
   ·rename_i hc;rw[B! hc]at h;unfold yX bF at h⊢;rw[sL F0];generalize(ZP (part p 6 4) 0).1+10+(if p.getD 5 0=16 then 10 else 0)=n at h⊢;by_cases c1:4000<n
    ·rw[CD c1,CD c1]
    ·rw[B! c1]at h;rw[B! c1,B! c1];by_cases c2:(p.length:Int)<n
     ·rw[CD c2]at h;exact absurd rfl h
     ·have c2':¬((p++q).length:Int)<n:=by rw[D!];omega
      rw[B! c2,B! c2',Mu F0,Qq]
 ·rw[CD h3,CD];rintro⟨_,h5⟩;by_cases hl:3<=p.length
  ·rw[Mu hl]at h5;exact h3 ⟨hl,h5⟩
  ·exact uC h6 (by simp[T3];omega) h5
theorem Aa0{p:LB}(q:LB)(h:(Km p).2≠24)(h6:Th p T7=false):Km (p++q)=Km p:=by
 unfold Km at h⊢;by_cases h3:8<=p.length/\p.take 8=B3
 ·have h3':8<= (p++q).length/\ (p++q).take 8=B3:=⟨by rw[D!];omega,by rw[Mu h3.1];exact h3.2⟩;have n1:¬ ¬(8<=p.length/\p.take 8=B3):=λf=>f h3;have n2:¬ ¬(8<= (p++q).length/\ (p++q).take 8=B3):=λf=>f h3';rw[B! n1]at h;rw[B! n1,B! n2];by_cases h10:p.length<32
  ·rw[CD h10]at h;exact absurd rfl h
  ·have h10':¬(p++q).length<32:=by rw[D!];omega
   have eb:FO (p++q)=FO p:=by rw[FO,FO,Qq,Qq]
   rw[B! h10]at h;rw[B! h10,B! h10',Qq,Qq,eb,Mu (n:=32) F0];split
   ·rfl
   ·rename_i hc;rw[B! hc]at h;by_cases c2:p.length<Ff (part p 12 4)+32
    ·rw[CD c2]at h;exact absurd rfl h
    ·have c2':¬(p++q).length<Ff (part p 12 4)+32:=by rw[D!];omega
     rw[B! c2,B! c2',Mu F0]
 ·rw[CD h3,CD];rintro⟨_,h5⟩;by_cases hl:8<=p.length
  ·rw[Mu hl]at h5;exact h3 ⟨hl,h5⟩
  ·exact uC h6 (by simp[T7];omega) h5
theorem vH{p:LB}(q:LB)(h:(Cz p).2≠24)(h6:(Cz p).2=6->Th p T3=false/\Th p T7=false):Cz (p++q)=Cz p:=by
 have mg:∀s:LB,s.length<=p.length->Th p s=false:=λs hs=>mS F0;unfold Cz at h h6⊢;by_cases hT:(Zy p).2≠6
 ·rw[CD hT]at h⊢;have h3:Th p T3=false:=by
   refine mg _ ?_;unfold Zy at hT;by_cases h3:3<=p.length/\p.take 3=[73,68,51]
   ·simp[T3];omega
   ·rw[CD h3]at hT;exact absurd rfl hT
  rw[Ad0 q h h3,CD hT]
 ·rw[B! hT]at h h6⊢;have hb:Th p T3=false/\Th p T7=false:=by
   by_cases hA:(Km p).2=6
   ·exact h6 hA
   ·unfold Km at hA;by_cases h3:8<=p.length/\p.take 8=B3
    ·exact⟨mg _ (by simp[T3];omega),mg _ (by simp[T7];omega)⟩
    ·rw[CD h3]at hA;exact absurd rfl hA
  have hT':¬(Zy (p++q)).2≠6:=by
   rw[Ad0 q (by simp only[ne_eq,Classical.not_not]at hT;rw[hT];decide) hb.1];exact hT
  rw[B! hT',Aa0 q h hb.2]
theorem I3{p:LB}(q:LB):∀(j s j':Nat),s<=p.length->p.length-s<j->p.length+q.length-s<j'-> (Cp p j s).2≠24->
  ((Cp p j s).2=0->Th (p.drop (s+(Cp p j s).1.sum.toNat)) T3=false/\Th (p.drop (s+(Cp p j s).1.sum.toNat)) T7=false)->Cp (p++q) j' s=Cp p j s
 |0,s,j',_,hj,_,_,_=>absurd hj (T6 _)
 |j+1,s,0,_,_,hj,_,_=>absurd hj (T6 _)
 |j+1,s,j'+1,hs,hj,hj',h,hb=>by
  have ed:(p++q).drop s=p.drop s++q:=W! hs;rw[Cp]at h hb⊢;rw[Cp,ed];by_cases h6:(Cz (p.drop s)).2=6
  ·rw[CD h6]at h hb⊢;have hb':=hb rfl;simp only[bQ,iS,U_]at hb';rw[vH q (by rw[h6];decide) (λ_=>hb'),CD h6]
  ·rw[B! h6]at h hb⊢;by_cases h0:(Cz (p.drop s)).2≠0
   ·rw[CD h0]at h⊢;rw[vH q h (λe=>absurd e h6),B! h6,CD h0]
   ·rw[B! h0]at h hb⊢;have h0':(Cz (p.drop s)).2=0:=by simpa using h0
    have e1:Cz (p.drop s++q)=Cz (p.drop s):=vH q (by rw[h0'];decide) (λe=>absurd e h6);rw[e1,B! h6,B! h0];have hok:=lP (b:=p.drop s) (n:=(Cz (p.drop s)).1) (by rw[<-h0']);rw[Q!]at hok;by_cases hm:4000<(s:Int)+(Cz (p.drop s)).1
    ·rw[CD hm,CD hm]
    ·rw[B! hm]at h hb⊢;rw[B! hm];have hl1:s+(Cz (p.drop s)).1.toNat<=p.length:=F0
     have ih:=I3 (p:=p) q j (s+(Cz (p.drop s)).1.toNat) j' hl1 F0 F0;by_cases hr:(Cp p j (s+(Cz (p.drop s)).1.toNat)).2=0
     ·rw[CD hr]at hb⊢;have hle1:s+(Cz (p.drop s)).1.toNat<=p.length:=F0
      have hle2:s+(Cz (p.drop s)).1.toNat<=4000:=F0
      have hi:=(nZ p j (s+(Cz (p.drop s)).1.toNat) hle1 hle2 hr).1;have hsum:(0:Int)<= (Cp p j (s+(Cz (p.drop s)).1.toNat)).1.sum:=by
       have:∀l:LI,(∀x∈l,10<=x)->0<=l.sum:=by
        intro l
        induction l with
        |nil=>intro _;simp
        |cons a l ih=>intro h;rw[RV];have:=h a CH;have:=ih (λx hx=>h x (by simp[hx]));omega
       exact this _ hi
      rw[ih (by rw[hr];decide) (λ_=>by
       have:=hb rfl;simp only[RV]at this;rw[show s+((Cz (p.drop s)).1+(Cp p j (s+(Cz (p.drop s)).1.toNat)).1.sum).toNat=s+(Cz (p.drop s)).1.toNat+(Cp p j (s+(Cz (p.drop s)).1.toNat)).1.sum.toNat by omega]at this;exact this),CD hr]
     ·rw[B! hr]at h⊢;rw[ih h (λe=>absurd e hr),B! hr]
theorem C8{p:LB}(q:LB)(h:(Ds p).2≠24)(hb:(Ds p).2=0->Th (Wa p) T3=false/\Th (Wa p) T7=false):Ds (p++q)=Ds p:=by
 have key:Cp (p++q) ((p++q).length+1) 0=Cp p (p.length+1) 0:=by
  refine I3 q (p.length+1) 0 ((p++q).length+1) (bZ _) F0 V' ?_ ?_
  ·unfold Ds U4 at h;by_cases h0:(Cp p (p.length+1) 0).2=0
   ·rw[h0];decide
   ·rw[B! h0]at h;exact h
  ·intro h0;have e:Ds p=(((0:Nat):Int)+(Cp p (p.length+1) 0).1.sum,0):=by unfold Ds U4;rw[CD h0]
   have:=hb (by rw[e]);rw[Wa,e]at this;simpa using this
 unfold Ds U4;rw[key]
theorem Agy{p:LB}(q:LB)(h:(Fo p).2.2.2.2.2≠24):Fo (p++q)=Fo p:=by
 unfold Fo at h⊢;by_cases h1:p.take (min 4 p.length)≠AB.take (min 4 p.length)
 ·have h1':(p++q).take (min 4 (p++q).length)≠AB.take (min 4 (p++q).length):=by
   intro e;have hle:min 4 p.length<=min 4 (p++q).length:=by rw[D!];omega
   have:=congrArg (List.take (min 4 p.length)) e;rw[dM,dM,SF hle,Mu F0]at this;exact h1 this
  rw[CD h1,CD h1']
 ·rw[B! h1]at h;by_cases h2:p.length<22
  ·rw[CD h2]at h;exact absurd rfl h
  ·have h2':¬(p++q).length<22:=by rw[D!];omega
   have h1':¬(p++q).take (min 4 (p++q).length)≠AB.take (min 4 (p++q).length):=by
    rw[SF F0]at h1⊢;rw[Mu F0];exact h1
   have e0:f0 (p++q)=f0 p:=by unfold f0;rw[Qq]
   have e1:f1 (p++q)=f1 p:=by unfold f1;rw[Qq]
   have e2:f2 (p++q)=f2 p:=by unfold f2;rw[Qq]
   have e3:f3 (p++q)=f3 p:=by unfold f3;rw[Qq]
   have e4:f4 (p++q)=f4 p:=by unfold f4;rw[Qq]
   rw[B! h1,B! h1',B! h2,B! h2',e0,e1,e2,e3,e4,Mu F0,Qq]
theorem Am2{p:LB}(q:LB)(h:(X_ p).2.2.2.2.2.2≠ -1):X_ (p++q)=X_ p:=by
 unfold X_ at h⊢;by_cases h1:(Ds p).2=24
 ·rw[CD h1]at h;exact absurd rfl h
 rw[B! h1]at h;by_cases h2:(Ds p).2≠0
 ·rw[C8 q h1 (λe=>absurd e h2),B! h1,CD h2,B! h1,CD h2]
 rw[B! h2]at h;have h0:(Ds p).2=0:=by simpa using h2
 by_cases h3:(Th (Wa p) T3||Th (Wa p) T7)=true
 ·rw[CD h3]at h;exact absurd rfl h
 rw[B! h3]at h;have h3f:Th (Wa p) T3=false/\Th (Wa p) T7=false:=by
  simp only[Bool.not_eq_true,aX]at h3;exact h3
 have eF:=C8 q h1 (λ_=>h3f);obtain⟨k1,k2,k3⟩:=TB h0;have eH:Wa (p++q)=Wa p++q:=by rw[Wa,eF,Wa,W! F0]
 by_cases h5:(Fo (Wa p)).2.2.2.2.2=24
 ·rw[CD h5]at h;exact absurd rfl h
 have eR:Fo (Wa p++q)=Fo (Wa p):=Agy q h5;have beg:∀s:LB,Th (Wa p) s=false-> (s=T3\/s=T7)->Th (Wa p++q) s=false:=by
  intro s hs hk;by_cases hl:(Wa p++q).length<s.length
  ·have hp:(Wa p).length<s.length:=by rw[D!]at hl;omega
   rw[Th,UI hp,V8]at hs;rw[Th,UI hl,V8];refine beq_eq_false_iff_ne.2 λe=>?_;have:=congrArg (List.take (Wa p).length) e;rw[Mu (N! _),US,dM,SF V']at this;rw[<-this]at hs;simp at hs
  ·exact mS hl
 rw[eF,eH,eR,B! h1,B! h2,beg _ h3f.1 (.inl rfl),beg _ h3f.2 (.inr rfl),B! F3,B! h5,B! h1,B! h2,B! h3]
theorem Agx{p:LB}(q:LB)(n:Nat)(h:(Kg p n).2≠24):Kg (p++q) n=Kg p n:=by
 unfold Kg at h⊢;by_cases h1:1<=n/\n<=1000
 ·have n1:¬ ¬(1<=n/\n<=1000):=λf=>f h1;rw[B! n1]at h;rw[B! n1,B! n1];by_cases h2:p.length<4*n+4
  ·rw[CD h2]at h;exact absurd rfl h
  ·have h2':¬(p++q).length<4*n+4:=by rw[D!];omega
   have et:SX (p++q) n=SX p n:=by
    unfold SX;refine YQ λi hi=>?_;rw[h_]at hi;rw[Qq]
   rw[B! h2,B! h2',Mu F0,Qq,et]
 ·rw[CD h1,CD h1]
def Y?(g a:LB)(k p o u v:Int)(f:LI)(b:Int)(h:LB)(m:Bool)(n:Int):Option Int:=
if(geq k 0)then
(Lw a).bind λ(al,ba)=>
if(geq ba 24)then
Er true 0
else
if(Bj ba 0)then
(Ak ba).bind λ(bx,bz)=>
Er bx bz
else
(Bp a al (Ac a)).bind λda=>
(Qs da).bind λan=>
if an then
Er true 0
else
(Bp a al (Ac a)).bind λdb=>
(Qi db).bind λ(ae,af,aa,ag,ab,bb)=>
if(geq bb 24)then
Er true 0
else
if(Bj bb 0)then
(Ak bb).bind λ(dc,dd)=>
Er dc dd
else
(
(Bp a (Ae al 22) (Ac a)).bind λak=>
(
Wm g ak ae af aa ag ab b m n f h))
else
if(geq (Ac f) 0)then
if(geq k 2)then
if(Cw (Ac a) 8)then
Jm true 0
else
Wk g a k p o u v b m n f h
else
Jw g a k p o u v b m n f h 0
else
if(Cw b (Ac f))then
(Aj f b).bind λ_=>
(Aj f b).bind λw=>
if(Cw (Ac a) w)then
Fy true 0
else
(Vm g).bind λ(ap,am)=>
if(Bj am 0)then
(Ak am).bind λ(de,df)=>
Fy de df
else
(Ei k p o u v).bind λ(ad,dg)=>
if((Bj dg 0)||(Lo b (Ac ad)))then
(Ak 8).bind λ(dh,di)=>
Fy dh di
else
GA w g a k p o u v b m n ap ad f h
else
if(Ef (Ac a) 4000)then
(Ak 38).bind λ(dj,bf)=>
Bs ((dj==true)&&((geq bf 0)&&true))
else
Wy
theorem qR(d:Bool)(e:Int):Er d e=Bs (d&&geq e 0):=by
 rw[Er,Ad7];cases d<;>simp
theorem S2(d:Bool)(e:Int):Jm d e=Bs (d&&geq e 0):=by
 rw[Jm,Adr];cases d<;>simp
theorem jw(d:Bool)(e:Int):Fy d e=Bs (d&&geq e 0):=by
 rw[Fy,Adl];cases d<;>simp
theorem x_{o p:LB}{f c w r n:Int}{g:LI}{a:Int}{x:LB}{u:Bool}{v:Int}{t1 t2:LB}{t3 t4 t5 t6 t7:Int}{t8:LI}{t9:Int}{t10:LB}{t11:Bool}{t12 e:Int}
  (h:Ah o p f c w r n g a x u v=some (t1,t2,t3,t4,t5,t6,t7,t8,t9,t10,t11,t12,e)):Cr o p f c w r n g a x u v=some (geq e (-1)):=by
 rw[Cr,Wh,h,Aa]
theorem kY{e:Int}(h:0<=e):geq e (-1)=false:=by rw[Ax,beq_eq_false_iff_ne];omega
theorem Afk(o p:LB)(c w r n:Int)(g:LI)(a:Int)(x:LB)(u:Bool)(v:Int)(hp:p.length<=100000):
  ∃B:Bool,Y? o p 0 c w r n g a x u v=Bs B/\Cr o p 0 c w r n g a x u v=some B:=by
 have hT:Ah o p 0 c w r n g a x u v=Ah o p 0 c w r n g a x u v:=rfl
 conv at hT=>rhs;rw[Ah,By,CD F3,DH p hp,Aa,X_]
 have hfn:=Adx p;have hrn:=E? (Wa p);rw[Y?,CD F3,TO p F0,Aa];have hok:=TB (b:=p);simp only at hT⊢;by_cases h1:(Ds p).2=24
 ·rw[CD h1]at hT;simp only at hT;rw[CD F3]at hT;rw[CD (by rw[Ax];simpa using h1),qR];exact⟨_,rfl,x_ hT⟩
 rw[B! h1]at hT;rw[B! (by rw[Ax];simpa using h1)];by_cases h2:(Ds p).2≠0
 ·rw[CD h2]at hT;simp only at hT;rw[CD (by rw[Ao];simpa using h2)]at hT;rw[CD (by rw[Ao];simpa using h2),Ak,Aa];simp only;rw[qR];exact⟨_,rfl,(x_ hT).trans (by rw[kY hfn];rfl)⟩
 have h0:(Ds p).2=0:=by simpa using h2
 obtain⟨k1,k2,k3⟩:=hok h0;have hl:(Wa p).length=p.length-(Ds p).1.toNat:=by rw[Wa,Q!]
 rw[B! h2]at hT;rw[B! (by rw[Ao,h0];simp),Di,Aa,Aa,show p.drop (Ds p).1.toNat=Wa p from rfl,uX,Aa];by_cases h3:(Th (Wa p) T3||Th (Wa p) T7)=true
 ·rw[CD h3]at hT⊢;simp only at hT;rw[CD F3]at hT;rw[qR];exact⟨_,rfl,x_ hT⟩
 rw[B! h3]at hT⊢;rw[wX _ F0,Aa];by_cases h5:(Fo (Wa p)).2.2.2.2.2=24
 ·rw[CD h5]at hT;simp only at hT;rw[CD F3]at hT;rw[CD (by rw[Ax];simpa using h5),qR];exact⟨_,rfl,x_ hT⟩
 rw[B! h5]at hT;rw[B! (by rw[Ax];simpa using h5)];simp only at hT;by_cases h6:(Fo (Wa p)).2.2.2.2.2≠0
 ·rw[CD (by rw[Ao];simpa using h6)]at hT⊢;rw[Ak,Aa];simp only;rw[qR];exact⟨_,rfl,(x_ hT).trans (by rw[kY hrn];rfl)⟩
 have h7:(Fo (Wa p)).2.2.2.2.2=0:=by simpa using h6
 have h22:=(Asr h7).2.1;rw[B! (by rw[Ao,h7];simp),Di,Aa,Gs,Gq,Ek]at hT;rw[B! (by rw[Ao,h7];simp),Ag,Di,Aa,Wm,Aes,Og];simp only;by_cases h8:((o==([]:LB)) !=geq (Fo (Wa p)).1 1)=true
 ·rw[CD h8]at hT⊢;rw[Aa]at hT⊢;rw[Ak,Aa];simp only;rw[qR];exact⟨_,rfl,x_ hT⟩
 ·rw[B! h8]at hT⊢;rw[Aa]at hT⊢;rw[Ak,Aa];simp only;rw[qR];exact⟨_,rfl,x_ hT⟩
section
variable {f c w r n:Int} {F C W R N:Nat} (hd:HdI f c w r n F C W R N)
include hd
theorem HdI.ne0:¬(geq f 0=true):=by
 have:=hd.num;rw[Ax,RG,hd.ef];omega
theorem K1(o p:LB)(hp:p.length<=100000)(A:Nat)(hA:A<=p.length)(a:Int)(x:LB)(u:Bool)(v:Int):
  (Jw o p f c w r n a u v [] x (A:Int)=Bs (decide ((Kg (p.drop A) (Ap (Al R) N).length).2=24)))/\
  Eg p f c w r n (A:Int)=some (if(Kg (p.drop A) (Ap (Al R) N).length).2=24 then(0,[], -1)else((A:Int)+(4*((Kg (p.drop A) (Ap (Al R) N).length).1.length:Int)+4),(Kg (p.drop A) (Ap (Al R) N).length).1,(Kg (p.drop A) (Ap (Al R) N).length).2))/\
  ((Kg (p.drop A) (Ap (Al R) N).length).2=0-> (A:Int)+(4*((Kg (p.drop A) (Ap (Al R) N).length).1.length:Int)+4)<=p.length):=by
 have hs:=Aq5 (p.drop A) (Ap (Al R) N).length TW;have hr:=Alb (p.drop A) (Ap (Al R) N).length TW;have hok:=Akn (b:=p.drop A) (n:=(Ap (Al R) N).length);have hlen:(Kg (p.drop A) (Ap (Al R) N).length).1.length<=1000:=by
  unfold Kg
  repeat' split
  all_goals simp[OE]
  all_goals omega
 have hfit:(Kg (p.drop A) (Ap (Al R) N).length).2=0-> (A:Int)+(4*((Kg (p.drop A) (Ap (Al R) N).length).1.length:Int)+4)<=p.length:=by
  intro h0;obtain⟨k1,k2,k3,k4,_⟩:=hok h0;rw[k1];simp only[OE];rw[Q!]at k4;omega
 refine⟨?_,?_,hfit⟩
 ·rw[Jw,Adm,hd.vI,Aa];simp only;rw[B! F3,Di,Aa,O1,Ac,hs,Aa];generalize Kg (p.drop A) (Ap (Al R) N).length=z at*
  obtain⟨z1,z2⟩:=z;simp only at*
  by_cases h1:z2=24
  ·rw[CD (by rw[Ax];simpa using h1),S2,UI h1];rfl
  rw[B! (by rw[Ax];simpa using h1),UA h1];by_cases h2:z2≠0
  ·rw[CD (by rw[Ao];simpa using h2),Ak,Aa];simp only;rw[S2];rfl
  ·have h0:z2=0:=by simpa using h2
   have:=hfit h0;rw[B! (by rw[Ao,h0];simp),Ac,jh A z1.length F0 F0,Di,Aa,S2];rfl
 ·rw[Eg,JN,Di,Aa,hd.YD,Aa,Ac,O1,hr,Aa];generalize Kg (p.drop A) (Ap (Al R) N).length=z at*
  obtain⟨z1,z2⟩:=z;simp only at*
  rw[ID,JA];by_cases h1:z2=24
  ·rw[CD (by rw[Ax];simpa using h1),CD h1]
  ·rw[B! (by rw[Ax];simpa using h1),B! h1,Ac,jh A z1.length F0 F0];congr 2
theorem Amj(o p:LB)(ho:o.length<=64)(hp:p.length<=100000)(a:Int)(x:LB)(u:Bool)(v:Int):
  ∃B:Bool,Y? o p f c w r n [] a x u v=Bs B/\Cr o p f c w r n [] a x u v=some B:=by
 have hT:Ah o p f c w r n [] a x u v=Ah o p f c w r n [] a x u v:=rfl
 conv at hT=>rhs;rw[Ah,By,B! hd.ne0,Ca,Bc,CD F3,Fm,Jr]
 rw[Y?,B! hd.ne0,CD F3];have fin:∀A:Nat,A<=p.length->Ah o p f c w r n [] a x u v=(Eg p f c w r n (A:Int)).bind (λ(ag,ak,w1)=>
   if(Bj w1 0)then some (o,p,f,c,w,r,n,[],a,x,u,v,w1)else(Bp p ag (Ac p)).bind λal=>some (o,al,f,c,w,r,n,ak,a,x,u,v,0))->
   ∃B:Bool,Jw o p f c w r n a u v [] x (A:Int)=Bs B/\Cr o p f c w r n [] a x u v=some B:=by
  intro A hA hT;obtain⟨t1,t2,t3⟩:=K1 hd o p hp A hA a x u v;have hnn:=M? (p.drop A) (Ap (Al R) N).length;rw[t2,Aa]at hT;rw[t1];generalize Kg (p.drop A) (Ap (Al R) N).length=z at*
  obtain⟨z1,z2⟩:=z;simp only at*
  by_cases h1:z2=24
  ·rw[CD h1]at hT;simp only at hT;rw[CD F3]at hT;exact⟨_,rfl,(x_ hT).trans (by rw[UI h1];rfl)⟩
  rw[B! h1]at hT;simp only at hT;by_cases h2:z2≠0
  ·rw[CD (by rw[Ao];simpa using h2)]at hT;exact⟨_,rfl,(x_ hT).trans (by rw[UA h1,kY hnn])⟩
  ·have h0:z2=0:=by simpa using h2
   have:=t3 h0;rw[B! (by rw[Ao,h0];simp),Di,Aa]at hT;exact⟨_,rfl,(x_ hT).trans (by rw[UA h1];rfl)⟩
 by_cases h2:geq f 2=true
 ·rw[CD h2]at hT⊢;by_cases h8:p.length<8
  ·rw[CD F2]at hT⊢;rw[Aa]at hT;simp only at hT;rw[CD F3]at hT;rw[S2];exact⟨_,rfl,x_ hT⟩
  ·rw[B! F2]at hT⊢;have h8':(p.take 8).length=8:=by rw[JW];omega
   rw[Dg,Aa,Ack o ho,Aa]at hT;rw[Wk,Aen,Dg,Aa,show(8:Int).toNat=8 from rfl,Aps h8' ho,Aa];rw[show(8:Int).toNat=8 from rfl]at hT;simp only;rw[Aej,Ado,B! F3];by_cases he:(p.take 8==Xj (BO o).toNat 8)=true
   ·rw[B! (by rw[bne,he];decide)]at hT;rw[B! (by rw[he];decide)];exact fin 8 F0 hT
   ·have he':(p.take 8==Xj (BO o).toNat 8)=false:=by simpa using he
    rw[CD (by rw[bne,he'];decide),Aa]at hT;simp only at hT;rw[CD F3]at hT;rw[CD (by rw[he'];decide),Ak,Aa];simp only;rw[S2];exact⟨_,rfl,x_ hT⟩
 ·rw[B! h2]at hT⊢;exact fin 0 F0 hT
end
theorem Ag9{f c w r n:Int}{F C W R N:Nat}(hd:HdI f c w r n F C W R N)(o p:LB)(ho:o.length<=64)(hp:p.length<=100000)(g:LI)(hg:Xh g=true)(hl:g.length=(Ap (Al R) N).length)(A:Nat)(hA:A<=g.length)(x:LB)(hx:x.length<=14000000)(u:Bool)(v:Int):
  ∃B:Bool,Y? o p f c w r n g (A:Int) x u v=Bs B/\Cr o p f c w r n g (A:Int) x u v=some B:=by
 have hc:=hd.ec;subst hc;have hg':=hg;rw[Xh,DG,E3,IC g 100000 F0]at hg';obtain⟨⟨g1,g2⟩,g5,g6⟩:=hg';have hT:Ah o p f (C:Int) w r n g (A:Int) x u v=Ah o p f (C:Int) w r n g (A:Int) x u v:=rfl
 conv at hT=>rhs;rw[Ah,By,B! hd.ne0,Ca,Bc,B! (by rw[Ax,Ac];simp;intro e;subst e;simp at g1)]
 rw[Y?,B! hd.ne0,B! (by rw[Ax,Ac];simp;intro e;subst e;simp at g1)];by_cases hA2:A=g.length
 ·subst hA2;rw[CD (by rw[Ax,Ac];simp)]at hT;rw[B! cG];by_cases h4:4000<p.length
  ·rw[CD PO]at hT⊢;rw[Ak,Aa];simp only;exact⟨_,rfl,x_ hT⟩
  ·rw[B! PO]at hT⊢;rw[Wy,Aee];exact⟨_,rfl,x_ hT⟩
 ·have hlt:A<g.length:=F0
  have h5:=g5 g[A] (S6 hlt);have hsum:=D6 g5 g[A] (S6 hlt);rw[B! (by rw[Ax,Ac];simp;omega),Dc,Hg,Cj hlt,Aa]at hT;rw[CD F2,Cj hlt,Aa,Aa];by_cases hw:(p.length:Int)<g[A]
  ·rw[CD (by rw[Af,Ac];simpa using hw)]at hT⊢;rw[Aa]at hT;simp only at hT;rw[CD F3]at hT;rw[jw];exact⟨_,rfl,x_ hT⟩
  rw[B! (by rw[Af,Ac];simpa using hw)]at hT⊢;have WQ:=hd.num;have hlt2:A<(Ap (Al R) N).length:=F0
  obtain⟨m,hm,m1,m2⟩:=LH (Iw R) WQ.2.2.2.2.1 (S6 hlt2);have hb:Cb w:=by rw[hd.ew];unfold Cb;omega
  obtain⟨xs,e,d1,d2,d3,d4⟩:=XU (bits:=w) (ch:=C) (n:=m) (t:=Qw o) (p.take g[A].toNat) hb (Tz o) WQ.2.1.1 WQ.2.1.2 m1 F0;have hnn:=Adh hb (Tz o) WQ.2.1.1 WQ.2.1.2 m1 F0 d2;rw[nN o ho,Aa];simp only;rw[B! F3,hd.vI,Aa];simp only;rw[B! (by simp[Ao,Dq,Ac];omega),GA,HS,Cj hlt2,Aa,Dg,Aa,Aa,BR,Aa];simp only;rw[hm,d1,Aa];simp only;rw[tQ o ho,Aa]at hT;simp only at hT;rw[Dg,Aa,Ik,Aa]at hT;simp only at hT;rw[hd.YD,Aa,Cj hlt2,Aa,Aa,hm]at hT;rw[d2,Aa]at hT;simp only at hT;rw[Hh,Hc]at hT;rw[JR,Xd];by_cases he:e≠0
  ·rw[CD (by rw[Ao];simpa using he)]at hT⊢;rw[Aa]at hT;simp only at hT;rw[CD (by rw[Ao];simpa using he)]at hT;rw[Ak,Aa];simp only;rw[jw];exact⟨_,rfl,(x_ hT).trans (by rw[kY hnn];rfl)⟩
  ·have he0:e=0:=by simpa using he
   obtain⟨k1,k2,k3⟩:=d3 he0;have hbl:=MQ w xs;rw[B! (by rw[Ao,he0];simp)]at hT⊢;rw[nD hb k2 k1,Aa,Aa]at hT;simp only at hT;rw[B! F3,Bi F7,Aa,RI,Bi,Aa,Aa,Di,Aa]at hT;rw[M4 hb k2 k1,Aa];simp only;rw[B! F3,Bi,Aa,Di,Aa,jw];exact⟨_,rfl,x_ hT⟩
theorem J!(a:LI)(b:Int)(ha:a.length<=100):∀(j i q:Nat),i+j=a.length->j<q->∃r,Ce a b q (i:Int)=some r/\Lo r 0=(a.drop i).any λy=>b==y
 |0,i,q+1,hi,_=>by
  refine⟨-1,?_,?_⟩
  ·rw[Ce,Eu,B! F2];rfl
  ·rw[show i=a.length by omega,VM];rfl
 |j+1,i,q+1,hi,hq=>by
  have hlt:i<a.length:=F0
  obtain⟨r,h1,h2⟩:=J! a b ha j (i+1) q F0 F0;rw[Ce,Eu,CD F2,Cj hlt,Aa,drop_cons hlt,List.any_cons];by_cases h:b=a[i]
  ·rw[CD (by rw[Ax];simpa using h)];refine⟨_,rfl,?_⟩;rw[Dq,UI F0,h];simp
  ·rw[B! (by rw[Ax];simpa using h),Ag];refine⟨r,h1,?_⟩;rw[h2,beq_eq_false_iff_ne.2 h,oq]
theorem Ajo(v:Int):∃B:Bool,Qx v=some B/\Yd v=some B:=by
 obtain⟨r,h1,h2⟩:=J! [4,12,16,22,24,26,38] v F3 7 0 As rfl F8;refine⟨_,?_,rfl⟩;rw[Qx,Hx,Jl,Ic,Nl];have h1':Ce [4,12,16,22,24,26,38] v As 0=some r:=h1;rw[h1',Aa,Aa,h2];simp only[Ys,List.any_cons,List.any_nil,Bool.or_false,Ax,Bool.or_assoc]
theorem rC(B:Bool):Bs B=some (if B=true then 0 else 8):=by
 rw[Bs,Aep];cases B<;>rfl
theorem An3(a b:LB)(f g h k m:Int)(n:LI)(o:Int)(p:LB)(u:Bool)(v:Int)(hb:b.length<=16000000)(hn:n.length<=16000000)(hp:p.length<=16000000):
  Dz a b f g h k m n o p u v=some (a,b,f,g,h,k,m,n,o,p,u,v):=by
 rw[Dz,Iu,Bi F7,Aa,Aa,Iu,Bi F7,Aa,Aa,Gx,Bi F7,Aa,Aa];rfl
theorem uW(o p:LB)(f c w r n:Int)(g:LI)(a:Int)(x:LB)(u:Bool)(v:Int)(hp:p.length<=100000)(hg:g.length<=100000)(hx:x.length<=14000000):
  ∃E,Ie o p f c w r n g a x u v=some E/\Dj o p f c w r n g a x u v=some E:=by
 rw[Ie,Zn,Dj];by_cases ho:64<o.length
 ·rw[CD PO,CD PO];exact⟨8,rfl,rfl⟩
 have hO:¬(Ef (Ac o) 64=true):=by rw[Au,Ac];simp;omega
 rw[B! hO,B! hO];by_cases hw:(geq v 0&& !u)=true
 ·rw[CD hw,CD hw,An3 o p f c w r n g a x u v F0 F0 F0,Aa];simp only;rcases Aaf o p f c w r n g a x u v with⟨e1,e2⟩|⟨e1,e2,hd⟩
  ·rw[e1,e2,Aa,Aa,B! F3,CD F3,rC];exact⟨8,rfl,rfl⟩
  ·rw[e1,e2,Aa,CD rfl];have key:∃B:Bool,Y? o p f c w r n g a x u v=Bs B/\Cr o p f c w r n g a x u v=some B:=by
    cases hd with
    |new e1 e2 e3 e4 e5 e6 e7 e8=>subst e1;exact Afk o p c w r n g a x u v hp
    |head F C W R N h hpw e6 e7 e8=>subst e6;exact Amj h o p F0 hp a x u v
    |tab F C W R N A h hpw ht hl ea hA=>subst ea;exact Ag9 h o p F0 hp g ht hl A hA x hx u v
   obtain⟨B,k1,k2⟩:=key;rw[k2,Aa];refine⟨if B=true then 0 else 8,k1.trans (rC B),?_⟩;cases B<;>rfl
 ·rw[B! hw,B! hw];by_cases hl:(geq (Ac p) 0&&geq (Ac g) 0)=true
  ·rw[CD hl,CD hl];generalize(geq f 0&&(geq c 0&&(geq w 0&&(geq r 0&&(geq n 0&&true)))))=z;by_cases hz:((z&&geq a 0)&&tM (Ac x) 12000)=true
   ·rw[CD hz];simp only[DG,KO,Ac,E3]at hz;obtain⟨⟨z1,z2⟩,z3⟩:=hz;have hN:¬((!(z&&geq a 0)||Ef (Ac x) 12000)=true):=by rw[z1,z2,Au,Ac];simp;omega
    rw[B! hN];by_cases hv:v=0
    ·have v1:geq v 0=true:=by rw[Ax];simpa using hv
     have v2:¬(Bj v 0=true):=by rw[Ao];simpa using hv
     rw[CD v1,B! v2,rC];exact⟨0,rfl,rfl⟩
    ·have v1:¬(geq v 0=true):=by rw[Ax];simpa using hv
     have v2:Bj v 0=true:=by rw[Ao];simpa using hv
     rw[B! v1,CD v2];obtain⟨B,k1,k2⟩:=Ajo v;rw[k1,k2,Aa,Aa,rC,rC];cases u
     ·refine⟨if B=true then 0 else 8,CH,?_⟩;cases B<;>rfl
     ·exact⟨8,rfl,rfl⟩
   ·rw[B! hz,CD,rC]
    ·exact⟨8,rfl,rfl⟩
    ·simp only[DG,KO,Ac,E3]at hz;simp only[SU,S4,Au,Ac,E3];by_cases hz2:(z&&geq a 0)=true
     ·rw[DG]at hz2;exact .inr (by have hq:¬((x.length:Int)<=12000):=λh=>hz ⟨hz2,h⟩;omega)
     ·exact .inl (by simpa using hz2)
  ·rw[B! hl,B! hl,B! CH,CD CH,rC];exact⟨8,rfl,rfl⟩
def UE(bk:LB->Int->Int->Int->Int->Int->Int->LI->LB->Ar)(o:LB)(u:Bool)(v:Int):LB->Int->Int->Int->Int->Int->Int->LI->LB->Ar:=
 Io (Nv bk o u v) (Rz bk o u v) (Lj bk o u v) (Yx bk o u v) (Nw bk o u v) (Sr bk o u v) (Zv bk o u v) (Cv bk o u v) (Zp bk o u v) o u v
structure SzD (p:LB) (g:LI) (a:Int) (x:LB):Prop where
 hp:p.length<=100000
 hg:g.length<=1000
 hx:x.length+12000*(g.length-a.toNat)<=13000000
def muD(f:Int)(g:LI)(a:Int):Nat:=if f=0 then 1003 else if g=[]then 1002 else g.length-a.toNat+1
section
variable {bk:LB->Int->Int->Int->Int->Int->Int->LI->LB->Ar} {o p:LB} {f c w r n:Int} {g:LI} {a:Int} {x:LB} {u:Bool} {v:Int}
theorem Akz(hp:p.length<=100000)(hg:g.length<=1000)(hx:x.length<=13000000):Dz o p f c w r n g a x u v=some (o,p,f,c,w,r,n,g,a,x,u,v):=by
 rw[Dz,Iu,Bi F7,Aa,Aa,Iu,Bi F7,Aa,Aa,Gx,Bi F7,Aa,Aa];rfl
theorem Aue(h:SzD p g a x)(e:Int):Cv bk o u v p f c w r n a true e g x=some (o,p,f,c,w,r,n,g,a,x,u,v,0):=by
 rw[Cv,KZ,CD rfl,Akz h.hp h.hg (by have:=h.hx;omega),Aa]
theorem Atg{e:Int}(h:e≠0):Cv bk o u v p f c w r n a false e g x=some (o,[],0,0,0,0,0,[],0,x,false,e,e):=by
 rw[Cv,KZ,B! F3,CD (by rw[Ao];simpa using h)];rfl
inductive StepR (bk:LB->Int->Int->Int->Int->Int->Int->LI->LB->Ar) (o p:LB) (f c w r n:Int) (g:LI) (a:Int) (x:LB) (u:Bool) (v:Int):Prop
 |wait:UE bk o u v p f c w r n a g x=some (o,p,f,c,w,r,n,g,a,x,u,v,0)->Ah o p f c w r n g a x u v=some (o,p,f,c,w,r,n,g,a,x,u,v, -1)->StepR bk o p f c w r n g a x u v
 |err (e:Int) {t1 t2:LB} {t3 t4 t5 t6 t7:Int} {t8:LI} {t9:Int} {t10:LB} {t11:Bool} {t12:Int}:0<e->UE bk o u v p f c w r n a g x=some (o,[],0,0,0,0,0,[],0,x,false,e,e)->
   Ah o p f c w r n g a x u v=some (t1,t2,t3,t4,t5,t6,t7,t8,t9,t10,t11,t12,e)->StepR bk o p f c w r n g a x u v
 |next (p':LB) (f' c' w' r' n':Int) (g':LI) (a':Int) (x':LB):UE bk o u v p f c w r n a g x=bk p' f' c' w' r' n' a' g' x'->Ah o p f c w r n g a x u v=some (o,p',f',c',w',r',n',g',a',x',u,v,0)->
   FitD o f' c' w' r' n' g' a' x'->SzD p' g' a' x'->p'.length<=p.length->muD f' g' a'<muD f g a->StepR bk o p f c w r n g a x u v
theorem f62{d:Bool}{e:Int}:Nv bk o u v a g x d e p f c w r n=Cv bk o u v p f c w r n a d e g x:=rfl
theorem f75{d:Bool}{e:Int}:Lj bk o u v f c w r n a x d e p g=Cv bk o u v p f c w r n a d e g x:=rfl
theorem mkW(hZ:SzD p g a x)(hF:UE bk o u v p f c w r n a g x=Cv bk o u v p f c w r n a true 0 g x)(hT:Ah o p f c w r n g a x u v=some (o,p,f,c,w,r,n,g,a,x,u,v, -1)):StepR bk o p f c w r n g a x u v:=
 .wait (hF.trans (Aue hZ 0)) hT
theorem mkE{e:Int}{p2:LB}{f2 c2 w2 r2 n2 a2:Int}{g2:LI}{t1 t2:LB}{t3 t4 t5 t6 t7:Int}{t8:LI}{t9:Int}{t10:LB}{t11:Bool}{t12:Int}(he:0<e)(hF:UE bk o u v p f c w r n a g x=Cv bk o u v p2 f2 c2 w2 r2 n2 a2 false e g2 x)
  (hT:Ah o p f c w r n g a x u v=some (t1,t2,t3,t4,t5,t6,t7,t8,t9,t10,t11,t12,e)):StepR bk o p f c w r n g a x u v:= .err e he (hF.trans (Atg F0)) hT
theorem HdI.fnz{F C W R N:Nat}(h:HdI f c w r n F C W R N):f≠0:=by
 have:=h.num;rw[h.ef];omega
theorem Aja(hp:p.length<=100000):StepR bk o p 0 0 0 0 0 [] 0 [] u v:=by
 have hZ:SzD p [] 0 []:=⟨hp,CH,CH⟩;have hT:Ah o p 0 0 0 0 0 [] 0 [] u v=Ah o p 0 0 0 0 0 [] 0 [] u v:=rfl
 conv at hT=>rhs;rw[Ah,By,CD F3,DH p hp,Aa,X_]
 have hF:UE bk o u v p 0 0 0 0 0 0 [] []=UE bk o u v p 0 0 0 0 0 0 [] []:=rfl
 conv at hF=>rhs;rw[UE,Io,CD F3,TO p F0,Aa]
 have hfn:=Adx p;have hrn:=E? (Wa p);have hok:=TB (b:=p);simp only at hT hF;by_cases h1:(Ds p).2=24
 ·rw[CD h1]at hT;simp only at hT;rw[CD F3]at hT;rw[CD (by rw[Ax];simpa using h1)]at hF;exact mkW hZ hF hT
 rw[B! h1]at hT;rw[B! (by rw[Ax];simpa using h1)]at hF;by_cases h2:(Ds p).2≠0
 ·rw[CD h2]at hT;simp only at hT;rw[CD (by rw[Ao];simpa using h2)]at hT;rw[CD (by rw[Ao];simpa using h2),Ak,Aa]at hF;exact mkE F0 hF hT
 have h0:(Ds p).2=0:=by simpa using h2
 obtain⟨k1,k2,k3⟩:=hok h0;have hl:(Wa p).length=p.length-(Ds p).1.toNat:=by rw[Wa,Q!]
 rw[B! h2]at hT;rw[B! (by rw[Ao,h0];simp),Di,Aa,Aa,show p.drop (Ds p).1.toNat=Wa p from rfl,uX,Aa]at hF;by_cases h3:(Th (Wa p) T3||Th (Wa p) T7)=true
 ·rw[CD h3]at hT hF;simp only at hT;rw[CD F3]at hT;exact mkW hZ hF hT
 rw[B! h3]at hT hF;rw[wX _ F0,Aa]at hF;by_cases h5:(Fo (Wa p)).2.2.2.2.2=24
 ·rw[CD h5]at hT;simp only at hT;rw[CD F3]at hT;rw[CD (by rw[Ax];simpa using h5)]at hF;exact mkW hZ hF hT
 rw[B! h5]at hT;rw[B! (by rw[Ax];simpa using h5)]at hF;simp only at hT;by_cases h6:(Fo (Wa p)).2.2.2.2.2≠0
 ·rw[CD (by rw[Ao];simpa using h6)]at hT hF;rw[Ak,Aa]at hF;exact mkE (by have:=hrn;generalize(Fo (Wa p)).2.2.2.2.2=z at *;omega) (hF.trans f62) hT
 have h7:(Fo (Wa p)).2.2.2.2.2=0:=by simpa using h6
 obtain⟨r1,h22,r3,r4⟩:=Asr h7;rw[B! (by rw[Ao,h7];simp),Di,Aa,Gs,Gq,Ek]at hT;rw[B! (by rw[Ao,h7];simp),Ag,Di,Aa,Rz,Ai1,Og]at hF;simp only at hT hF;by_cases h8:((o==([]:LB)) !=geq (Fo (Wa p)).1 1)=true
 ·rw[CD h8]at hT hF;rw[Aa]at hT hF;rw[Ak,Aa]at hF;simp only at hF;exact mkE F3 (hF.trans f62) hT
 ·rw[B! h8]at hT hF;rw[Aa]at hT hF;rw[Ak,Aa]at hF;have hd:HdI (Fo (Wa p)).1 (Fo (Wa p)).2.1 (Fo (Wa p)).2.2.1 (Fo (Wa p)).2.2.2.1 (Fo (Wa p)).2.2.2.2.1 (f0 (Wa p)) (f1 (Wa p)) (f2 (Wa p)) (f3 (Wa p)) (f4 (Wa p)):=by
   constructor<;>first|(rw[r1])|assumption
  refine .next _ _ _ _ _ _ [] 0 [] (by exact hF) hT (.head _ _ _ _ _ hd ?_ rfl rfl rfl) ⟨by rw[Q!];omega,CH,CH⟩ TW ?_
  ·have e:geq (Fo (Wa p)).1 1=decide (f0 (Wa p)=1):=by rw[hd.ef,Ax,O3];simp;omega
   rw[<-e];simpa using h8
  ·rw[muD,muD,B! hd.fnz,CD rfl,CD rfl];omega
section
variable {F C W R N:Nat} (hd:HdI f c w r n F C W R N)
include hd
theorem sX(hp:p.length<=100000)(hpw:(o==([]:LB))=decide (F=1))(A:Nat)(hA:A<=p.length)
  (hT:Ah o p f c w r n [] 0 [] u v=(Eg p f c w r n (A:Int)).bind (λ(ag,ak,w1)=>if(Bj w1 0)then some (o,p,f,c,w,r,n,([]:LI),(0:Int),([]:LB),u,v,w1)else(Bp p ag (Ac p)).bind λal=>some (o,al,f,c,w,r,n,ak,(0:Int),([]:LB),u,v,(0:Int))))
  (hF:UE bk o u v p f c w r n 0 [] []=Nw bk o u v p f c w r n 0 [] [] (A:Int)):StepR bk o p f c w r n [] 0 [] u v:=by
 have hZ:SzD p [] 0 []:=⟨hp,CH,CH⟩;obtain⟨_,t2,t3⟩:=K1 hd o p hp A hA 0 [] u v;have hs:=Aq5 (p.drop A) (Ap (Al R) N).length TW;have hnn:=M? (p.drop A) (Ap (Al R) N).length;have hok:=Akn (b:=p.drop A) (n:=(Ap (Al R) N).length);rw[t2,Aa]at hT;rw[Nw,Zw,hd.vI,Aa]at hF;simp only at hF;rw[B! F3,Di,Aa,O1,Ac,hs,Aa]at hF;generalize hz:Kg (p.drop A) (Ap (Al R) N).length=z at*
 obtain⟨z1,z2⟩:=z;simp only at*
 by_cases h1:z2=24
 ·rw[CD h1]at hT;simp only at hT;rw[CD F3]at hT;rw[CD (by rw[Ax];simpa using h1)]at hF;exact mkW hZ hF hT
 rw[B! h1]at hT;rw[B! (by rw[Ax];simpa using h1)]at hF;simp only at hT;by_cases h2:z2≠0
 ·rw[CD (by rw[Ao];simpa using h2)]at hT hF;rw[Ak,Aa]at hF;exact mkE F0 hF hT
 ·have h0:z2=0:=by simpa using h2
  subst h0;have h3:=t3 rfl;obtain⟨k1,k2,k3,k4,k5,k6⟩:=hok rfl;simp only[G_,VX]at k1;have hl:z1.length=(Ap (Al R) N).length:=by rw[k1];exact OE _ _
  rw[<-k1]at k5 k6;rw[B! F3,Di,Aa]at hT;rw[B! F3,Ac,jh A z1.length F0 F0,Di,Aa]at hF;have hne:z1≠ []:=by intro e;rw[e]at hl;simp at hl;omega
  refine .next _ _ _ _ _ _ z1 0 [] (by exact hF) hT (.tab _ _ _ _ _ 0 hd hpw ?_ hl rfl F0) ⟨by rw[Q!];omega,F0,by simp;omega⟩ TW ?_
  ·rw[Xh,DG,E3,IC z1 100000 F0];exact⟨F0,k5,k6⟩
  ·rw[muD,muD,B! hd.fnz,B! hd.fnz,CD rfl,B! hne];simp;omega
theorem Ags(ho:o.length<=64)(hp:p.length<=100000)(hpw:(o==([]:LB))=decide (F=1)):StepR bk o p f c w r n [] 0 [] u v:=by
 have hZ:SzD p [] 0 []:=⟨hp,CH,CH⟩;have hT:Ah o p f c w r n [] 0 [] u v=Ah o p f c w r n [] 0 [] u v:=rfl
 conv at hT=>rhs;rw[Ah,By,B! hd.ne0,Ca,Bc,CD F3,Fm,Jr]
 have hF:UE bk o u v p f c w r n 0 [] []=UE bk o u v p f c w r n 0 [] []:=rfl
 conv at hF=>rhs;rw[UE,Io,B! hd.ne0,CD F3]
 by_cases h2:geq f 2=true
 ·rw[CD h2]at hT hF;by_cases h8:p.length<8
  ·rw[CD F2]at hT hF;rw[Aa]at hT;simp only at hT;rw[CD F3]at hT;exact mkW hZ hF hT
  ·rw[B! F2]at hT hF;have h8':(p.take 8).length=8:=by rw[JW];omega
   rw[Dg,Aa,Ack o ho,Aa]at hT;rw[Yx,LK,Dg,Aa,show(8:Int).toNat=8 from rfl,Aps h8' ho,Aa]at hF;rw[show(8:Int).toNat=8 from rfl]at hT;simp only at hF;rw[Ah4,MO,B! F3]at hF;by_cases he:(p.take 8==Xj (BO o).toNat 8)=true
   ·rw[B! (by rw[bne,he];decide)]at hT;rw[B! (by rw[he];decide)]at hF;exact sX hd hp hpw 8 F0 hT hF
   ·have he':(p.take 8==Xj (BO o).toNat 8)=false:=by simpa using he
    rw[CD (by rw[bne,he'];decide),Aa]at hT;simp only at hT;rw[CD F3]at hT;rw[CD (by rw[he'];decide),Ak,Aa]at hF;simp only at hF;exact mkE F3 (hF.trans f75) hT
 ·rw[B! h2]at hT hF;exact sX hd hp hpw 0 F0 hT hF
theorem Ald(ho:o.length<=64)(hpw:(o==([]:LB))=decide (F=1))(hg:Xh g=true)(hl:g.length=(Ap (Al R) N).length)(A:Nat)(hA:A<=g.length)(hZ:SzD p g (A:Int) x):StepR bk o p f c w r n g (A:Int) x u v:=by
 have hp:=hZ.hp;have hx:=hZ.hx;have hc:=hd.ec;subst hc;have hg':=hg;rw[Xh,DG,E3,IC g 100000 F0]at hg';obtain⟨⟨g1,g2⟩,g5,g6⟩:=hg';have hgn:¬(geq (Ac g) 0=true):=by rw[Ax,Ac];simp;intro e;subst e;simp at g1
 have hT:Ah o p f (C:Int) w r n g (A:Int) x u v=Ah o p f (C:Int) w r n g (A:Int) x u v:=rfl
 conv at hT=>rhs;rw[Ah,By,B! hd.ne0,Ca,Bc,B! hgn]
 have hF:UE bk o u v p f (C:Int) w r n (A:Int) g x=UE bk o u v p f (C:Int) w r n (A:Int) g x:=rfl
 conv at hF=>rhs;rw[UE,Io,B! hd.ne0,B! hgn]
 by_cases hA2:A=g.length
 ·subst hA2;rw[CD (by rw[Ax,Ac];simp)]at hT;rw[B! cG]at hF;by_cases h4:4000<p.length
  ·rw[CD PO]at hT hF;rw[Ak,Aa]at hF;exact mkE F3 hF hT
  ·rw[B! PO]at hT hF;exact mkW hZ hF hT
 ·have hlt:A<g.length:=F0
  have h5:=g5 g[A] (S6 hlt);have hsum:=D6 g5 g[A] (S6 hlt);rw[B! (by rw[Ax,Ac];simp;omega),Dc,Hg,Cj hlt,Aa]at hT;rw[CD F2,Cj hlt,Aa,Aa]at hF;by_cases hw:(p.length:Int)<g[A]
  ·rw[CD (by rw[Af,Ac];simpa using hw)]at hT hF;rw[Aa]at hT;simp only at hT;rw[CD F3]at hT;exact mkW hZ hF hT
  rw[B! (by rw[Af,Ac];simpa using hw)]at hT hF;have WQ:=hd.num;have hlt2:A<(Ap (Al R) N).length:=F0
  obtain⟨m,hm,m1,m2⟩:=LH (Iw R) WQ.2.2.2.2.1 (S6 hlt2);have hb:Cb w:=by rw[hd.ew];unfold Cb;omega
  obtain⟨xs,e,d1,d2,d3,d4⟩:=XU (bits:=w) (ch:=C) (n:=m) (t:=Qw o) (p.take g[A].toNat) hb (Tz o) WQ.2.1.1 WQ.2.1.2 m1 F0;have hnn:=Adh hb (Tz o) WQ.2.1.1 WQ.2.1.2 m1 F0 d2;rw[nN o ho,Aa]at hF;simp only at hF;rw[B! F3,hd.vI,Aa]at hF;simp only at hF;rw[B! (by simp[Ao,Dq,Ac];omega),Zv,LJ,Cj hlt2,Aa,Dg,Aa,Aa,BR,Aa]at hF;simp only at hF;rw[hm,d1,Aa]at hF;simp only at hF;rw[tQ o ho,Aa]at hT;simp only at hT;rw[Dg,Aa,Ik,Aa]at hT;simp only at hT;rw[hd.YD,Aa,Cj hlt2,Aa,Aa,hm]at hT;rw[d2,Aa]at hT;simp only at hT;rw[Hh,Hc]at hT;rw[ME,Zj]at hF;by_cases he:e≠0
  ·rw[CD (by rw[Ao];simpa using he)]at hT hF;rw[Aa]at hT;simp only at hT;rw[CD (by rw[Ao];simpa using he)]at hT;rw[Ak,Aa]at hF;exact mkE F0 hF hT
  ·have he0:e=0:=by simpa using he
   obtain⟨k1,k2,k3⟩:=d3 he0;have hbl:=MQ w xs;have ht:((A:Int)).toNat=A:=rfl;rw[ht]at hx;rw[B! (by rw[Ao,he0];simp)]at hT hF;rw[nD hb k2 k1,Aa,Aa]at hT;simp only at hT;rw[B! F3,Bi F7,Aa,RI,Bi,Aa,Aa,Di,Aa,Ag]at hT;rw[M4 hb k2 k1,Aa]at hF;simp only at hF;rw[B! F3,Bi,Aa,Di,Aa,Ag]at hF;have e1:((A:Int)+1).toNat=A+1:=rfl;refine .next _ _ _ _ _ _ _ _ _ (by exact hF) hT (.tab _ _ _ _ _ (A+1) hd hpw hg hl rfl F0) ⟨by rw[Q!];omega,hZ.hg,by rw[e1,D!];omega⟩ TW ?_
   have hne:g≠ []:=by intro e;subst e;simp at g1
   rw[muD,muD,B! hd.fnz,B! hd.fnz,B! hne,B! hne,e1,ht];omega
end
theorem K7(hf:FitD o f c w r n g a x)(ho:o.length<=64)(hZ:SzD p g a x):StepR bk o p f c w r n g a x u v:=by
 cases hf with
 |new e1 e2 e3 e4 e5 e6 e7 e8=>subst e1 e2 e3 e4 e5 e6 e7 e8;exact Aja hZ.hp
 |head F C W R N h hpw e6 e7 e8=>subst e6 e7 e8;exact Ags h ho hZ.hp hpw
 |tab F C W R N A h hpw ht hl ea hA=>subst ea;exact Ald h ho hpw ht hl A hA hZ
end
abbrev Ava:=LB×LB×Int×Int×Int×Int×Int×LI×Int×LB×Bool×Int×Int
theorem wN:∀(j:Nat) (b:LB) (a:Nat),(xu j b a).2=0\/ (xu j b a).2=38
 |0,_,_=> .inr rfl
 |j+1,b,a=>by
  rw[xu];split
  ·exact .inl rfl
  ·split
   ·exact .inr rfl
   ·exact wN j _ _
theorem Af0(b:LB):(YM b).2=0\/ (YM b).2=38:=by
 rw[YM];split
 ·exact .inr rfl
 ·exact wN _ _ _
theorem bW{o p:LB}{f c w r n:Int}{g:LI}{a:Int}{x:LB}{u:Bool}{v:Int}(hp:p.length<=100000)(hg:g.length<=2000)(hx:x.length<=13000000):Ma o p f c w r n g a x u v=some (o,p,f,c,w,r,n,g,a,x,u,v):=by
 rw[Ma,Qd,Bi F7,Aa,Bi F7,Aa,Qh,Qf,Bi F7,Aa];rfl
theorem Aii{o p:LB}{f c w r n:Int}{g:LI}{a:Int}{x:LB}{u:Bool}{v:Int}(hp:p.length<=100000)(hg:g.length<=2000)(hx:x.length<=13000000):Dz o p f c w r n g a x u v=some (o,p,f,c,w,r,n,g,a,x,u,v):=by
 rw[Dz,Iu,Bi F7,Aa,Aa,Iu,Bi F7,Aa,Aa,Gx,Bi F7,Aa,Aa];rfl
theorem M2{o p:LB}{f c w r n:Int}{g:LI}{a:Int}{x:LB}{u:Bool}{v e:Int}(hx:x.length<=13000000):My o p f c w r n g a x u v e=some (o,[],0,0,0,0,0,[],0,x,false,e,e):=by
 rw[My,Xf,Bi F7,Aa];rfl
theorem vW{p:LB}{f:Int}{g:LI}{a:Int}{x:LB}(h:SzD p g a x):muD f g a<1004:=by
 have:=h.hg;unfold muD;split
 ·omega
 ·split<;>omega
section
variable {o p:LB} {f c w r n:Int} {g:LI} {a:Int} {x:LB} {u:Bool} {v:Int} (hp:p.length<=20000) (hg:g.length<=2000) (hx:x.length<=13000000)
include hp hg hx
theorem kR{E:Int}(hE:Ie o p f c w r n g a x u v=some E):Rf o p f c w r n g a x u v=if E≠0 then some ([],[],0,0,0,0,0,[],0,[],false,0,E)else some (o,p,f,c,w,r,n,g,a,x,u,v,if v≠0 then v else if u=true then 36 else 0):=by
 rw[Rf,hE,Aa];by_cases h:E≠0
 ·rw[CD (by rw[Ao];simpa using h),CD h]
 rw[B! (by rw[Ao];simpa using h),B! h,Aii F0 hg F0];by_cases hv:v≠0
 ·rw[CD (by rw[Ao];simpa using hv),CD hv,Aa]
 ·rw[B! (by rw[Ao];simpa using hv),B! hv];cases u<;>simp[Aa]
omit hg hx in
theorem Av7:∃e,Xt o p f c w r n g a x u v=some e/\Rj o p f c w r n g a x u v=some e:=by
 rw[Xt,Rj];by_cases h0:geq f 0=true
 ·rw[CD h0,CD h0,TO p F0,eA p F0,Aa,Aa];have hok:=TB (b:=p);simp only;by_cases h2:(Ds p).2≠0
  ·rw[CD (by rw[Ao];simpa using h2),CD (by rw[Ao];simpa using h2)];exact⟨_,rfl,rfl⟩
  have h3:(Ds p).2=0:=by simpa using h2
  obtain⟨k1,k2,k3⟩:=hok h3;have hl:(Wa p).length<=p.length:=by rw[Wa,Q!];omega
  rw[B! (by rw[Ao,h3];simp),B! (by rw[Ao,h3];simp),Di,Aa,Aa,show p.drop (Ds p).1.toNat=Wa p from rfl,wX _ F0,G2 _ F0,Aa];exact⟨_,rfl,rfl⟩
 ·rw[B! h0,B! h0,Bool.or_comm];by_cases h1:(geq (Ac g) 0||Cw a (Ac g))=true
  ·rw[CD h1,CD h1];exact⟨_,rfl,rfl⟩
  ·rw[B! h1,B! h1,Bbi p F0,Acb p F0,Aa,Aa];simp only;refine⟨(YM p).2,rfl,?_⟩;rcases Af0 p with h|h
   ·rw[B! (by rw[h];decide),h]
   ·rw[CD (by rw[h];decide),h]
end
theorem Tl{α β:Type}{o:Option α}{f:α->Option β}{r:β}(h:Option.bind o f=some r):∃x,o=some x/\f x=some r:=by
 cases o with
 |none=>cases h
 |some x=>exact⟨x,rfl,h⟩
theorem Al2{α:Type}{l:List α}{i:Int}{x:α}(h:Go.Lv.Aj l i=some x):x∈l:=by
 unfold Go.Lv.Aj at h;split at h
 ·exact Xy h
 ·cases h
theorem O9{o p:LB}(q:LB){f c w r n:Int}{g:LI}{a:Int}{x:LB}{u:Bool}{v:Int}{y:LB}{e:Int}(hg:∀z∈g,0<=z)(h:Dc o p f c w r n g a x u v=some (y,e))(he:e≠ -1):Dc o (p++q) f c w r n g a x u v=some (y,e):=by
 rw[Dc,Hg]at h⊢;obtain⟨l,hl,h⟩:=Tl h;have hl0:=hg l (Al2 hl);rw[hl,Aa];by_cases hc:(p.length:Int)<l
 ·rw[CD (by rw[Af,Ac];simpa using hc)]at h;cases h;exact absurd rfl he
 ·have hc':¬(Cw (Ac (p++q)) l=true):=by rw[Af,Ac,D!];simp;omega
  rw[B! (by rw[Af,Ac];simpa using hc)]at h;rw[B! hc',Dg hl0 V',Mu F0];rw[Dg hl0]at h;simpa only[Hh,Hc]using h
theorem Aqi {f c w r n:Int}{F C W R N:Nat}(hd:HdI f c w r n F C W R N){p:LB}(q:LB)(hp:(p++q).length<=100000){A:Nat}(hA:A<=p.length){k:Int}{l:LI}{e:Int}(h:Eg p f c w r n (A:Int)=some (k,l,e))(he:e≠ -1):
  Eg (p++q) f c w r n (A:Int)=some (k,l,e)/\ (e=0->0<=k/\k<=p.length):=by
 have hp':p.length<=100000:=by rw[D!]at hp;omega
 obtain⟨_,t2,t3⟩:=K1 hd [] p hp' A hA 0 [] false 0;obtain⟨_,s2,_⟩:=K1 hd [] (p++q) hp A V' 0 [] false 0;rw[t2]at h;rw[s2,W! hA];by_cases h1:(Kg (p.drop A) (Ap (Al R) N).length).2=24
 ·rw[CD h1]at h;cases h;exact absurd rfl he
 ·rw[B! h1]at h;rw[Agx q _ h1,B! h1];refine⟨h,λe0=>?_⟩;cases h;have:=t3 e0;constructor
  ·omega
  ·exact this
theorem N3{f c w r n:Int}{F C W R N:Nat}(hd:HdI f c w r n F C W R N){o p:LB}(q:LB)(hp:(p++q).length<=100000){k:Int}{l:LI}{e:Int}(h:Fm p f c w r n o=some (k,l,e))(he:e≠ -1):
  Fm (p++q) f c w r n o=some (k,l,e)/\ (e=0->0<=k/\k<=p.length):=by
 rw[Fm,Jr]at h⊢;by_cases hf:geq f 2=true
 ·rw[CD hf]at h⊢;by_cases h8:p.length<8
  ·rw[CD F2]at h;cases h;exact absurd rfl he
  ·have n1:¬(Cw (Ac p) 8=true):=by rw[Af,Ac];simp;omega
   have n2:¬(Cw (Ac (p++q)) 8=true):=by rw[Af,Ac,D!];simp;omega
   rw[B! n1,Dg F3,Aa]at h;rw[B! n2,Dg F3 V',Aa,Mu (show(8:Int).toNat<=p.length from by simp;omega)];obtain⟨y,hy,h⟩:=Tl h;rw[hy,Aa];by_cases hm:(p.take (8:Int).toNat !=y)=true
   ·rw[CD hm]at h⊢;cases h;exact⟨rfl,λe=>by cases e⟩
   ·rw[B! hm]at h⊢;exact Aqi hd q hp (A:=8) F0 h he
 ·rw[B! hf]at h⊢;exact Aqi hd q hp (A:=0) F0 h he
theorem dV{p q af:LB}{n:Int}(h:Bp p n (Ac p)=some af):Bp (p++q) n (Ac (p++q))=some (af++q):=by
 unfold Bp Ac at h⊢;split at h
 ·rename_i hc;cases h;rw[CD ⟨hc.1,by rw[D!];omega,F0⟩];simp only[O1,US];rw[W! F0]
 ·cases h
theorem kP{o p:LB}(q:LB){f c w r n:Int}{g:LI}{a:Int}{x:LB}{u:Bool}{v:Int}(hf:FitD o f c w r n g a x)(hp:(p++q).length<=100000){t1 t2:LB}{t3 t4 t5 t6 t7:Int}{t8:LI}{t9:Int}{t10:LB}{t11:Bool}{t12 e:Int}
  (h:Ah o p f c w r n g a x u v=some (t1,t2,t3,t4,t5,t6,t7,t8,t9,t10,t11,t12,e)) (he:e≠ -1):
  (e=0->Ah o (p++q) f c w r n g a x u v=some (t1,t2++q,t3,t4,t5,t6,t7,t8,t9,t10,t11,t12,0))/\
  (e≠0->∃(s1 s2:LB) (s3 s4 s5 s6 s7:Int) (s8:LI) (s9:Int) (s10:LB) (s11:Bool) (s12:Int),Ah o (p++q) f c w r n g a x u v=some (s1,s2,s3,s4,s5,s6,s7,s8,s9,s10,s11,s12,e)):=by
 have hp':p.length<=100000:=by rw[D!]at hp;omega
 have zero:¬(Bj (0:Int) 0=true):=F3
 rw[Ah,By]at h⊢;cases hf with
 |new e1 e2 e3 e4 e5 e6 e7 e8=>
  subst e1;rw[CD F3,DH p hp',Aa]at h;rw[CD F3,DH (p++q) hp,Aa];have hst:(X_ p).2.2.2.2.2.2≠ -1->X_ (p++q)=X_ p:=Am2 q;generalize X_ p=z at h hst;obtain⟨z1,z2,z3,z4,z5,z6,z7⟩:=z;simp only at h hst;by_cases hz:Bj z7 0=true
  ·rw[CD hz]at h;simp only[DV,G_]at h;obtain⟨-, -, -, -, -, -, -, -, -, -, -, -,rfl⟩:=h;rw[hst he];simp only;rw[CD hz];refine⟨λe0=>?_,λ_=>⟨_,_,_,_,_,_,_,_,_,_,_,_,rfl⟩⟩;rw[e0]at hz;exact absurd hz zero
  ·rw[B! hz]at h;have z70:z7=0:=by rw[Ao]at hz;simpa using hz
   rw[hst (by rw[z70];decide)];simp only;rw[B! hz];obtain⟨af,h1,h⟩:=Tl h;rw[dV h1,Aa];rw[Gs,Gq]at h⊢;obtain⟨aw,h2,h⟩:=Tl h;rw[h2,Aa];simp only[DV,G_]at h;obtain⟨rfl,rfl,rfl,rfl,rfl,rfl,rfl,rfl,rfl,rfl,rfl,rfl,rfl⟩:=h;exact⟨λe0=>by rw[e0],λ_=>⟨_,_,_,_,_,_,_,_,_,_,_,_,rfl⟩⟩
 |head F C W R N hd hpw e6 e7 e8=>
  subst e6;have hfn:¬(geq f 0=true):=by rw[Ax];simpa using hd.fnz
  rw[B! hfn,Ca,Bc,CD F3]at h⊢;obtain⟨⟨k,l,e1⟩,h1,h⟩:=Tl h;simp only at h;by_cases hz:Bj e1 0=true
  ·rw[CD hz]at h;simp only[DV,G_]at h;obtain⟨-, -, -, -, -, -, -, -, -, -, -, -,rfl⟩:=h;rw[(N3 hd q hp h1 he).1,Aa];simp only;rw[CD hz];refine⟨λe0=>?_,λ_=>⟨_,_,_,_,_,_,_,_,_,_,_,_,rfl⟩⟩;rw[e0]at hz;exact absurd hz zero
  ·rw[B! hz]at h;have z70:e1=0:=by rw[Ao]at hz;simpa using hz
   rw[(N3 hd q hp h1 (by rw[z70];decide)).1,Aa];simp only;rw[B! hz];obtain⟨af,h2,h⟩:=Tl h;rw[dV h2,Aa];simp only[DV,G_]at h;obtain⟨rfl,rfl,rfl,rfl,rfl,rfl,rfl,rfl,rfl,rfl,rfl,rfl,rfl⟩:=h;exact⟨λe0=>rfl,λe0=>absurd rfl e0⟩
 |tab F C W R N A hd hpw ht hl ea hA=>
  have hfn:¬(geq f 0=true):=by rw[Ax];simpa using hd.fnz
  have ht':=ht;rw[Xh,DG,E3]at ht';have hgl:¬(geq (Ac g) 0=true):=by
   intro e;rw[Ax,Ac]at e;have hl1:=ht'.1.1;simp only[RG,E3]at e;omega
  rw[B! hfn,Ca,Bc,B! hgl]at h⊢;by_cases hend:geq a (Ac g)=true
  ·rw[CD hend]at h⊢;by_cases hm:Ef (Ac p) 4000=true
   ·have hm':Ef (Ac (p++q)) 4000=true:=by rw[Au,Ac]at hm⊢;simp only[E3]at hm⊢;rw[D!];omega
    rw[CD hm]at h;rw[CD hm'];simp only[DV,G_]at h;obtain⟨-, -, -, -, -, -, -, -, -, -, -, -,rfl⟩:=h;exact⟨(λe0=>by cases e0),λ_=>⟨_,_,_,_,_,_,_,_,_,_,_,_,rfl⟩⟩
   ·rw[B! hm]at h;simp only[DV,G_]at h;obtain⟨-, -, -, -, -, -, -, -, -, -, -, -,rfl⟩:=h;exact absurd rfl he
  ·rw[B! hend]at h⊢;have hpos:∀z∈g,0<=z:=by
    have:=(IC g 100000 F0).1 ht'.2;intro z hz;have:=this.1 z hz;omega
   obtain⟨⟨y,e1⟩,h1,h⟩:=Tl h;simp only at h;by_cases hz:Bj e1 0=true
   ·rw[CD hz]at h;simp only[DV,G_]at h;obtain⟨-, -, -, -, -, -, -, -, -, -, -, -,rfl⟩:=h;rw[O9 q hpos h1 he,Aa];simp only;rw[CD hz];refine⟨λe0=>?_,λ_=>⟨_,_,_,_,_,_,_,_,_,_,_,_,rfl⟩⟩;rw[e0]at hz;exact absurd hz zero
   ·rw[B! hz]at h;have z70:e1=0:=by rw[Ao]at hz;simpa using hz
    rw[O9 q hpos h1 (by rw[z70];decide),Aa];simp only;rw[B! hz];obtain⟨an,h2,h⟩:=Tl h;rw[h2,Aa];obtain⟨ah,h3,h⟩:=Tl h;rw[h3,Aa];obtain⟨ad,h4,h⟩:=Tl h;rw[h4,Aa];obtain⟨ae,h5,h⟩:=Tl h;rw[dV h5,Aa];simp only[DV,G_]at h;obtain⟨rfl,rfl,rfl,rfl,rfl,rfl,rfl,rfl,rfl,rfl,rfl,rfl,rfl⟩:=h;exact⟨λe0=>rfl,λe0=>absurd rfl e0⟩
theorem iW{p:Prop}(h:p:=by rw[kY (by omega)];decide):p:=h
def yT(o:LB)(K:Nat)(u:Bool)(v:Int)(X Y:Option Ava):Prop:=∃(t1 t2:LB) (t3 t4 t5 t6 t7:Int) (t8:LI) (t9:Int) (t10:LB) (t11:Bool) (t12 e:Int),X=some (t1,t2,t3,t4,t5,t6,t7,t8,t9,t10,t11,t12,e)/\Y=some (t1,t2,t3,t4,t5,t6,t7,t8,t9,t10,t11,t12,e)/\t10.length<=13000000/\
 (e=0->t1=o/\t2.length<=K/\FitD o t3 t4 t5 t6 t7 t8 t9 t10/\SzD t2 t8 t9 t10/\t11=u/\t12=v)
theorem N8(K:Nat):∀(k q1 q2:Nat) (o p:LB) (f c w r n:Int) (g:LI) (a:Int) (x:LB) (u:Bool) (v:Int),FitD o f c w r n g a x->o.length<=64->SzD p g a x->p.length<=K->muD f g a<k->k<=q1->k<=q2->
  yT o K u v (Bd o u v q1 p f c w r n a g x) (Az q2 o p f c w r n g a x u v)
 |0,_,_,_,_,_,_,_,_,_,_,_,_,_,_,_,_,_,_,h,_,_=>by omega
 |k+1,q1,q2,o,p,f,c,w,r,n,g,a,x,u,v,hf,ho,hZ,hK,hm,h1,h2=>by
  obtain⟨q1,rfl⟩:∃q,q1=q+1:=⟨q1-1,F0⟩;obtain⟨q2,rfl⟩:∃q,q2=q+1:=⟨q2-1,F0⟩;have hx:x.length<=13000000:=by have:=hZ.hx;omega
  rw[Bd,Az,Bz];have hS:StepR (Bd o u v q1) o p f c w r n g a x u v:=K7 hf ho hZ;cases hS with
  |wait hF hT=>
   rw[hT,Aa];simp only;rw[CD F3,bW hZ.hp (by have:=hZ.hg;omega) hx,Aa];exact⟨_,_,_,_,_,_,_,_,_,_,_,_,_,hF,rfl,hx,λ_=>⟨rfl,hK,hf,hZ,rfl,rfl⟩⟩
  |err e he hF hT=>
   rw[hT,Aa];simp only;rw[B! iW,CD RL,M2 hx,Aa];exact⟨_,_,_,_,_,_,_,_,_,_,_,_,_,hF,rfl,hx,λh=>absurd h F0⟩
  |next p' f' c' w' r' n' g' a' x' hF hT hf' hZ' hle hmu=>
   rw[hT,Aa];simp only;rw[B! F3,B! F3];have ih:=N8 K k q1 q2 o p' f' c' w' r' n' g' a' x' u v hf' ho hZ' F0 F0 F0 F0;have hF':Io (Nv (Bd o u v q1) o u v) (Rz (Bd o u v q1) o u v) (Lj (Bd o u v q1) o u v) (Yx (Bd o u v q1) o u v) (Nw (Bd o u v q1) o u v) (Sr (Bd o u v q1) o u v) (Zv (Bd o u v q1) o u v) (Cv (Bd o u v q1) o u v) (Zp (Bd o u v q1) o u v) o u v p f c w r n a g x=Bd o u v q1 p' f' c' w' r' n' a' g' x':=hF;rw[hF'];exact ih
theorem At5{o p:LB}{f c w r n:Int}{g:LI}{a:Int}{x:LB}(ho:o.length<=64)(hf:FitD o f c w r n g a x)(hZ:SzD p g a x)(b:LB)(hp:p.length<=20000)(hb:b.length<=20000):
  yT o (p.length+b.length) false 0 (Dp o p f c w r n g a x false 0 b) (Jh o p f c w r n g a x false 0 b):=by
 have hx:x.length<=13000000:=by have:=hZ.hx;omega
 have hg:g.length<=2000:=by have:=hZ.hg;omega
 obtain⟨E,e1,e2⟩:=uW o p f c w r n g a x false 0 F0 F0 F0;rw[Dp,Va,kR hp hg hx e1,Jh,Qp,e2,Aa];by_cases h:E≠0
 ·rw[CD h,Aa,CD (by rw[Ao];simpa using h)];simp only;rw[CD (by rw[Ao];simpa using h)];exact⟨_,_,_,_,_,_,_,_,_,_,_,_,_,rfl,rfl,CH,λh'=>absurd h' h⟩
 have h0:E=0:=by simpa using h
 subst h0;have hE:¬(Bj (0:Int) 0=true):=F3
 rw[B! h,Aa,B! hE,bW F0 hg F0,Aa];simp only;have hF:¬(false=true):=F3
 rw[Qo,B! (show ¬((0:Int)≠0)from λh=>h rfl),B! hF]
 repeat (first|rw[Aa]|rw[B! hE]|rw[B! hF])
 rw[Bi];rw[Aa,Aa];have hZ':SzD (p++b) g a x:=⟨by rw[D!];omega,hZ.hg,hZ.hx⟩;exact N8 _ 1004 As As o (p++b) f c w r n g a x false 0 hf ho hZ' (by rw[D!];exact N! _) (vW hZ') F8 F8
def OutB(f c w r n:Int)(g:LI)(a:Int)(x:LB):Prop:=∀(F C W R N A:Nat),HdI f c w r n F C W R N->g≠ []->a=(A:Int)-> (x.length:Int)<=FK C W (Ap (Al R) N) A
theorem OutB.nil{f c w r n:Int}{a:Int}{x:LB}:OutB f c w r n [] a x:=λ_ _ _ _ _ _ _ h=>absurd rfl h
theorem OutB.zero{f c w r n:Int}{g:LI}:OutB f c w r n g 0 []:=λF C W R N A h hg ha=>by
 obtain rfl:A=0:=F0
 rw[Abb];simp
theorem Acd{o p:LB}{f c w r n:Int}{F C W R N:Nat}(hd:HdI f c w r n F C W R N)(ho:o.length<=64)(hp:p.length<=100000){g:LI}(ht:Xh g=true)(hl:g.length=(Ap (Al R) N).length){A:Nat}(hA:A<g.length){x:LB}{u:Bool}{v:Int}{y:LB}{e:Int}
  (h:Dc o p f c w r n g (A:Int) x u v=some (y,e)) (he:e=0):∃m:Nat,(Ap (Al R) N)[A]' F0=(m:Int)/\y.length=m*C*wB (W:Int):=by
 subst he;have hlt2:A<(Ap (Al R) N).length:=F0
 have WQ:=hd.num;rw[Xh,DG,E3,IC g 100000 F0]at ht;obtain⟨ht1,g5,gs⟩:=ht;have h5:=g5 g[A] (S6 hA);rw[Dc,Hg,Cj hA,Aa]at h;by_cases hw:(p.length:Int)<g[A]
 ·rw[CD (by rw[Af,Ac];simpa using hw)]at h;cases h
 rw[B! (by rw[Af,Ac];simpa using hw)]at h;obtain⟨m,hm,m1,m2⟩:=LH (Iw R) WQ.2.2.2.2.1 (S6 hlt2);have hb:Cb w:=by rw[hd.ew];unfold Cb;omega
 obtain⟨xs,e,d1,d2,d3,d4⟩:=XU (bits:=w) (ch:=C) (n:=m) (t:=Qw o) (p.take g[A].toNat) hb (Tz o) WQ.2.1.1 WQ.2.1.2 m1 F0;rw[tQ o ho,Aa]at h;simp only at h;rw[Dg,Aa,Ik,Aa]at h;simp only at h;rw[hd.YD,Aa,Cj hlt2,Aa,Aa,hm,hd.ec]at h;rw[d2,Aa]at h;simp only at h;rw[Hh,Hc]at h;by_cases he:e≠0
 ·rw[CD (by rw[Ao];simpa using he)]at h;cases h;exact absurd rfl he
 ·have he0:e=0:=by simpa using he
  obtain⟨k1,k2,k3⟩:=d3 he0;rw[B! (by rw[Ao,he0];simp),nD hb k2 k1,Aa]at h;cases h;refine⟨m,hm,?_⟩;rw[jK hb,k3,hd.ew]
theorem Ak1{o p:LB}{f c w r n:Int}{g:LI}{a:Int}{x:LB}{u:Bool}{v:Int}(hf:FitD o f c w r n g a x)(ho:o.length<=64)(hZ:SzD p g a x)(hO:OutB f c w r n g a x){t1 t2:LB}{t3 t4 t5 t6 t7:Int}{t8:LI}{t9:Int}{t10:LB}{t11:Bool}{t12:Int}
  (h:Ah o p f c w r n g a x u v=some (t1,t2,t3,t4,t5,t6,t7,t8,t9,t10,t11,t12,0)):OutB t3 t4 t5 t6 t7 t8 t9 t10:=by
 have hp':=hZ.hp;have zero:¬(Bj (0:Int) 0=true):=F3
 rw[Ah,By]at h;cases hf with
 |new e1 e2 e3 e4 e5 e6 e7 e8=>
  subst e1 e6 e7 e8;rw[CD F3,DH p hp',Aa]at h;generalize X_ p=z at h;obtain⟨z1,z2,z3,z4,z5,z6,z7⟩:=z;simp only at h;by_cases hz:Bj z7 0=true
  ·rw[CD hz]at h;simp only[DV,G_]at h;obtain⟨-, -, -, -, -, -, -,rfl, -⟩:=h;exact OutB.nil
  ·rw[B! hz]at h;obtain⟨af,h1,h⟩:=Tl h;rw[Gs,Gq]at h;obtain⟨aw,h2,h⟩:=Tl h;simp only[DV,G_]at h;obtain⟨-, -, -, -, -, -, -,rfl, -⟩:=h;exact OutB.nil
 |head F C W R N hd hpw e6 e7 e8=>
  subst e6 e7 e8;have hfn:¬(geq f 0=true):=by rw[Ax];simpa using hd.fnz
  rw[B! hfn,Ca,Bc,CD F3]at h;obtain⟨⟨k,l,e1⟩,h1,h⟩:=Tl h;simp only at h;by_cases hz:Bj e1 0=true
  ·rw[CD hz]at h;simp only[DV,G_]at h;obtain⟨-, -, -, -, -, -, -,rfl, -⟩:=h;exact OutB.nil
  ·rw[B! hz]at h;obtain⟨af,h2,h⟩:=Tl h;simp only[DV,G_]at h;obtain⟨-, -, -, -, -, -, -, -,rfl,rfl, -⟩:=h;exact OutB.zero
 |tab F C W R N A hd hpw ht hl ea hA=>
  subst ea;have hfn:¬(geq f 0=true):=by rw[Ax];simpa using hd.fnz
  have ht':=ht;rw[Xh,DG,E3]at ht';have hgl:¬(geq (Ac g) 0=true):=by
   intro e;rw[Ax,Ac]at e;have hl1:=ht'.1.1;simp only[RG,E3]at e;omega
  have hne:g≠ []:=by intro e;subst e;simp at ht'
  rw[B! hfn,Ca,Bc,B! hgl]at h;by_cases hend:geq (A:Int) (Ac g)=true
  ·rw[CD hend]at h;by_cases hm:Ef (Ac p) 4000=true
   ·rw[CD hm]at h;simp only[DV,G_]at h;exact absurd h.2.2.2.2.2.2.2.2.2.2.2.2 F3
   ·rw[B! hm]at h;simp only[DV,G_]at h;exact absurd h.2.2.2.2.2.2.2.2.2.2.2.2 F3
  ·rw[B! hend]at h;have hlt:A<g.length:=by
    rw[Ax,Ac]at hend;simp only[RG]at hend;omega
   obtain⟨⟨y,e1⟩,h1,h⟩:=Tl h;simp only at h;by_cases hz:Bj e1 0=true
   ·rw[CD hz]at h;simp only[DV,G_]at h;have:=h.2.2.2.2.2.2.2.2.2.2.2.2;rw[this]at hz;exact absurd hz zero
   ·rw[B! hz]at h;have z70:e1=0:=by rw[Ao]at hz;simpa using hz
    obtain⟨m,hm,hy⟩:=Acd hd ho hp' ht hl hlt h1 z70;obtain⟨an,h2,h⟩:=Tl h;obtain⟨ah,h3,h⟩:=Tl h;obtain⟨ad,h4,h⟩:=Tl h;obtain⟨ae,h5,h⟩:=Tl h;simp only[DV,G_]at h;obtain⟨-, -,rfl,rfl,rfl,rfl,rfl,rfl,rfl,rfl, -⟩:=h;intro F' C' W' R' N' A' hd' _ ha';have eqs:C'=C/\W'=W/\R'=R/\N'=N:=by
     have q1:=hd.ec.symm.trans hd'.ec;have q2:=hd.ew.symm.trans hd'.ew;have q3:=hd.er.symm.trans hd'.er;have q4:=hd.en.symm.trans hd'.en;omega
    obtain⟨rfl,rfl,rfl,rfl⟩:=eqs;have hold:=hO F C' W' R' N' A hd hne rfl;have e2:Ae (A:Int) 1=((A+1:Nat):Int):=by rw[Ag];omega
    rw[e2]at ha';obtain rfl:A'=A+1:=F0
    have hah:ah.length=x.length+y.length:=by
     unfold Da at h2 h3;split at h2
     ·cases h2;split at h3
      ·cases h3;simp
      ·cases h3
     ·cases h2
    have hpos:∀z∈Ap (Al R') N',0<=z:=by
     intro z hz;obtain⟨m,hm,m1,m2⟩:=LH (Iw R') hd.num.2.2.2.2.1 hz;omega
    rw[Aa9 C' W' hpos F0 hm,hah,hy];omega
theorem qU{o p:LB}{f c w r n:Int}{g:LI}{a:Int}{x:LB}(hf:FitD o f c w r n g a x)(ho:o.length<=64)(hO:OutB f c w r n g a x){t1 t2:LB}{t3 t4 t5 t6 t7:Int}{t8:LI}{t9:Int}{t10:LB}{t11:Bool}{t12:Int}
  (h:Ah o p f c w r n g a x false 0=some (t1,t2,t3,t4,t5,t6,t7,t8,t9,t10,t11,t12, -1)):Dj o p f c w r n g a x false 0=some 0:=by
 have h4:Cr o p f c w r n g a x false 0=some true:=by
  rw[Cr,Wh,h,Aa];rfl
 have hr:Lk o p f c w r n g a x false 0=some true:=by
  rw[Lk,We];cases hf with
  |new e1 e2 e3 e4 e5 e6 e7 e8=>
   subst e1 e2 e3 e4 e5 e6 e7 e8;rw[CD F3,B! F3];exact h4
  |head F C W R N hd hpw e6 e7 e8=>
   subst e6 e7 e8;have hz:¬(((geq f 0)&&((geq c 0)&&((geq w 0)&&((geq r 0)&&((geq n 0)&&true)))))=true):=by
    simp only[DG,Ax,RG,VX];exact λe=>hd.fnz e.1
   have hff:geq f 1=decide (F=1):=by rw[hd.ef,Ax,O3];simp;omega
   rw[B! hz,hd.check,Aa,B! F3,Ek,hff,hpw,B! CH,Aa,B! F3,Pf,Pd,CD F3,B! F3];exact h4
  |tab F C W R N A hd hpw ht hl ea hA=>
   subst ea;have hz:¬(((geq f 0)&&((geq c 0)&&((geq w 0)&&((geq r 0)&&((geq n 0)&&true)))))=true):=by
    simp only[DG,Ax,RG,VX];exact λe=>hd.fnz e.1
   have hff:geq f 1=decide (F=1):=by rw[hd.ef,Ax,O3];simp;omega
   have ht':=ht;rw[Xh,DG,E3]at ht';have hgl:¬(geq (Ac g) 0=true):=by
    intro e;rw[Ax,Ac]at e;have hl1:=ht'.1.1;simp only[RG,E3]at e;omega
   have hne:g≠ []:=by intro e;subst e;simp at ht'
   have hout:=hO F C W R N A hd hne rfl;rw[B! hz,hd.check,Aa,B! F3,Ek,hff,hpw,B! CH,Aa,B! F3,Pf,Pd,B! hgl,ZO,Aa,CD ht,B! F3,hd.YD,Aa];rw[B! f?];obtain⟨rfl,rfl,rfl,rfl,rfl,hs,hfit⟩:=hd;rw[J_ hs hfit A F0,Aa,B! PO];exact h4
 have hO':¬(Ef (Ac o) 64=true):=by rw[Au,Ac];simp;omega
 rw[Dj,B! hO',CD F3,hr,Aa];rfl
theorem Af8{o p:LB}{f c w r n:Int}{F C W R N:Nat}(hd:HdI f c w r n F C W R N)(ho:o.length<=64)(hp:p.length<=100000){g:LI}(ht:Xh g=true)(hl:g.length=(Ap (Al R) N).length){A:Nat}(hA:A<g.length){x:LB}{u:Bool}{v:Int}{y:LB}{e:Int}
  (h:Dc o p f c w r n g (A:Int) x u v=some (y,e)) (he:e≠ -1):Cd e:=by
 have hlt2:A<(Ap (Al R) N).length:=F0
 have WQ:=hd.num;rw[Xh,DG,E3,IC g 100000 F0]at ht;obtain⟨ht1,g5,gs⟩:=ht;have h5:=g5 g[A] (S6 hA);rw[Dc,Hg,Cj hA,Aa]at h;by_cases hw:(p.length:Int)<g[A]
 ·rw[CD (by rw[Af,Ac];simpa using hw)]at h;cases h;exact absurd rfl he
 rw[B! (by rw[Af,Ac];simpa using hw)]at h;obtain⟨m,hm,m1,m2⟩:=LH (Iw R) WQ.2.2.2.2.1 (S6 hlt2);have hb:Cb w:=by rw[hd.ew];unfold Cb;omega
 obtain⟨xs,e',d1,d2,d3,d4⟩:=XU (bits:=w) (ch:=C) (n:=m) (t:=Qw o) (p.take g[A].toNat) hb (Tz o) WQ.2.1.1 WQ.2.1.2 m1 F0;have hcd:=All hb (Tz o) WQ.2.1.1 WQ.2.1.2 m1 F0 d2;rw[tQ o ho,Aa]at h;simp only at h;rw[Dg,Aa,Ik,Aa]at h;simp only at h;rw[hd.YD,Aa,Cj hlt2,Aa,Aa,hm,hd.ec]at h;rw[d2,Aa]at h;simp only at h;rw[Hh,Hc]at h;by_cases he:e'≠0
 ·rw[CD (by rw[Ao];simpa using he)]at h;cases h;exact hcd
 ·have he0:e'=0:=by simpa using he
  obtain⟨k1,k2,k3⟩:=d3 he0;rw[B! (by rw[Ao,he0];simp),nD hb k2 k1,Aa]at h;cases h;exact .inl rfl
theorem pH{f c w r n:Int}{F C W R N:Nat}(hd:HdI f c w r n F C W R N){p:LB}(hp:p.length<=100000){A:Nat}(hA:A<=p.length){k:Int}{l:LI}{e:Int}(h:Eg p f c w r n (A:Int)=some (k,l,e))(he:e≠ -1):Cd e:=by
 obtain⟨_,t2,t3⟩:=K1 hd [] p hp A hA 0 [] false 0;rw[t2]at h;by_cases h1:(Kg (p.drop A) (Ap (Al R) N).length).2=24
 ·rw[CD h1]at h;cases h;exact absurd rfl he
 ·rw[B! h1]at h;cases h;exact Al0 _ (N0 hd.fit)
theorem Ae4{f c w r n:Int}{F C W R N:Nat}(hd:HdI f c w r n F C W R N){o p:LB}(hp:p.length<=100000){k:Int}{l:LI}{e:Int}(h:Fm p f c w r n o=some (k,l,e))(he:e≠ -1):Cd e:=by
 rw[Fm,Jr]at h;by_cases hf:geq f 2=true
 ·rw[CD hf]at h;by_cases h8:p.length<8
  ·rw[CD F2]at h;cases h;exact absurd rfl he
  ·have n1:¬(Cw (Ac p) 8=true):=by rw[Af,Ac];simp;omega
   rw[B! n1]at h;obtain⟨z,hz,h⟩:=Tl h;obtain⟨y,hy,h⟩:=Tl h;by_cases hm:(z !=y)=true
   ·rw[CD hm]at h;cases h;decide
   ·rw[B! hm]at h;exact pH hd hp (A:=8) F0 h he
 ·rw[B! hf]at h;exact pH hd hp (A:=0) F0 h he
theorem Aqw(p:LB):(X_ p).2.2.2.2.2.2= -1\/Cd (X_ p).2.2.2.2.2.2:=by
 unfold X_
 repeat' split
 ·exact .inl rfl
 ·exact .inr (vX p)
 ·exact .inl rfl
 ·exact .inl rfl
 ·exact .inr (S1 _)
theorem Aor{o p:LB}{f c w r n:Int}{g:LI}{a:Int}{x:LB}{u:Bool}{v:Int}(hf:FitD o f c w r n g a x)(ho:o.length<=64)(hp':p.length<=100000){t1 t2:LB}{t3 t4 t5 t6 t7:Int}{t8:LI}{t9:Int}{t10:LB}{t11:Bool}{t12 e:Int}
  (h:Ah o p f c w r n g a x u v=some (t1,t2,t3,t4,t5,t6,t7,t8,t9,t10,t11,t12,e)) (he:e≠ -1):Cd e:=by
 have zero:¬(Bj (0:Int) 0=true):=F3
 rw[Ah,By]at h;cases hf with
 |new e1 e2 e3 e4 e5 e6 e7 e8=>
  subst e1 e6 e7 e8;rw[CD F3,DH p hp',Aa]at h;have hcd:=Aqw p;generalize X_ p=z at h hcd;obtain⟨z1,z2,z3,z4,z5,z6,z7⟩:=z;simp only at h hcd;by_cases hz:Bj z7 0=true
  ·rw[CD hz]at h;simp only[DV,G_]at h;obtain⟨-, -, -, -, -, -, -, -, -, -, -, -,rfl⟩:=h;exact hcd.resolve_left he
  ·rw[B! hz]at h;obtain⟨af,h1,h⟩:=Tl h;rw[Gs,Gq,Ek]at h;obtain⟨aw,h2,h⟩:=Tl h;simp only[DV,G_]at h;obtain⟨-, -, -, -, -, -, -, -, -, -, -, -,rfl⟩:=h;split at h2
   ·cases h2;decide
   ·cases h2;decide
 |head F C W R N hd hpw e6 e7 e8=>
  subst e6 e7 e8;have hfn:¬(geq f 0=true):=by rw[Ax];simpa using hd.fnz
  rw[B! hfn,Ca,Bc,CD F3]at h;obtain⟨⟨k,l,e1⟩,h1,h⟩:=Tl h;simp only at h;by_cases hz:Bj e1 0=true
  ·rw[CD hz]at h;simp only[DV,G_]at h;obtain⟨-, -, -, -, -, -, -, -, -, -, -, -,rfl⟩:=h;exact Ae4 hd hp' h1 he
  ·rw[B! hz]at h;obtain⟨af,h2,h⟩:=Tl h;simp only[DV,G_]at h;obtain⟨-, -, -, -, -, -, -, -, -, -, -, -,rfl⟩:=h;exact .inl rfl
 |tab F C W R N A hd hpw ht hl ea hA=>
  subst ea;have hfn:¬(geq f 0=true):=by rw[Ax];simpa using hd.fnz
  have ht':=ht;rw[Xh,DG,E3]at ht';have hgl:¬(geq (Ac g) 0=true):=by
   intro e;rw[Ax,Ac]at e;have hl1:=ht'.1.1;simp only[RG,E3]at e;omega
  rw[B! hfn,Ca,Bc,B! hgl]at h;by_cases hend:geq (A:Int) (Ac g)=true
  ·rw[CD hend]at h;by_cases hm:Ef (Ac p) 4000=true
   ·rw[CD hm]at h;simp only[DV,G_]at h;obtain⟨-, -, -, -, -, -, -, -, -, -, -, -,rfl⟩:=h;decide
   ·rw[B! hm]at h;simp only[DV,G_]at h;exact absurd h.2.2.2.2.2.2.2.2.2.2.2.2.symm he
  ·rw[B! hend]at h;have hlt:A<g.length:=by
    rw[Ax,Ac]at hend;simp only[RG]at hend;omega
   obtain⟨⟨y,e1⟩,h1,h⟩:=Tl h;simp only at h;by_cases hz:Bj e1 0=true
   ·rw[CD hz]at h;simp only[DV,G_]at h;obtain⟨-, -, -, -, -, -, -, -, -, -, -, -,rfl⟩:=h;exact Af8 hd ho hp' ht hl hlt h1 he
   ·rw[B! hz]at h;obtain⟨an,h2,h⟩:=Tl h;obtain⟨ah,h3,h⟩:=Tl h;obtain⟨ad,h4,h⟩:=Tl h;obtain⟨ae,h5,h⟩:=Tl h;simp only[DV,G_]at h;obtain⟨-, -, -, -, -, -, -, -, -, -, -, -,rfl⟩:=h;exact .inl rfl
theorem uZ{o:LB}{f c w r n:Int}{g:LI}{a:Int}{x:LB}(hf:FitD o f c w r n g a x)(hO:OutB f c w r n g a x):x.length<=12000:=by
 cases hf with
 |new e1 e2 e3 e4 e5 e6 e7 e8=>subst e8;simp
 |head F C W R N hd hpw e6 e7 e8=>subst e8;simp
 |tab F C W R N A hd hpw ht hl ea hA=>
  have hne:g≠ []:=by intro e;subst e;simp[Xh]at ht
  have h:=hO F C W R N A hd hne ea;obtain⟨g1,g2,g3⟩:=VK hd.shape hd.fit;have b:=nL g1 A;have WQ:=hd.num;have hw:=(E7 (W:Int)).2;have hN:N*C<=4000:=by
   have h1:=J? C WQ.2.2.2.2.2.1;have h2:=X? 4000 C;omega
  have hs:((Ap (Al R) N).take A).sum.toNat<=N:=F0
  rw[FK]at h;have hb:((Ap (Al R) N).take A).sum.toNat*(C*wB (W:Int))<=4000*3:=by
   have h1:=J? (C*wB (W:Int)) hs;have h2:=S! hN hw;rw[<-RT N]at h1;omega
  omega
theorem vK{o x:LB}{e:Int}(ho:o.length<=64)(hx:x.length<=12000)(he:Cd e)(h0:0<e):Dj o [] 0 0 0 0 0 [] 0 x false e=some 0:=by
 have hO':¬(Ef (Ac o) 64=true):=by rw[Au,Ac];simp;omega
 have hX:Ef (Ac x) 12000=false:=by rw[Au,Ac];simp;omega
 rw[Dj,B! hO',B! SC,CD F3,hX,B! F3,CD RL,B! F3];obtain rfl|rfl|rfl|rfl|rfl|rfl|rfl|rfl:=he
 ·omega
 all_goals rfl
theorem Acl:∀(k q1 q2:Nat) (o p:LB) (f c w r n:Int) (g:LI) (a:Int) (x:LB) (u:Bool) (v:Int),FitD o f c w r n g a x->o.length<=64->SzD p g a x->muD f g a<k->k<=q1->k<=q2->
  Az q1 o p f c w r n g a x u v=Az q2 o p f c w r n g a x u v
 |0,_,_,_,_,_,_,_,_,_,_,_,_,_,_,_,_,_,h,_,_=>by omega
 |k+1,q1,q2,o,p,f,c,w,r,n,g,a,x,u,v,hf,ho,hZ,hm,h1,h2=>by
  obtain⟨q1,rfl⟩:∃q,q1=q+1:=⟨q1-1,F0⟩;obtain⟨q2,rfl⟩:∃q,q2=q+1:=⟨q2-1,F0⟩;rw[Az,Az,Bz,Bz];have hS:StepR (Bd o u v q1) o p f c w r n g a x u v:=K7 hf ho hZ;cases hS with
  |wait hF hT=>
   rw[hT,Aa,Aa];simp only;rw[CD F3,CD F3]
  |err e he hF hT=>
   rw[hT,Aa,Aa];simp only;rw[B! iW,CD RL,B! iW,CD RL]
  |next p' f' c' w' r' n' g' a' x' hF hT hf' hZ' hle hmu=>
   rw[hT,Aa,Aa];simp only;rw[B! F3,B! F3,B! F3,B! F3];exact Acl k q1 q2 o p' f' c' w' r' n' g' a' x' u v hf' ho hZ' F0 F0 F0
structure Wt (o p:LB) (f c w r n:Int) (g:LI) (a:Int) (x:LB):Prop where
 fit:FitD o f c w r n g a x
 sz:SzD p g a x
 out:OutB f c w r n g a x
 wait:Ah o p f c w r n g a x false 0=some (o,p,f,c,w,r,n,g,a,x,false,0, -1)
abbrev SB(q:Nat)(o p:LB)(f c w r n:Int)(g:LI)(a:Int)(x:LB):=Az q o p f c w r n g a x false 0
theorem Aj8:∀(k q:Nat) (o p:LB) (f c w r n:Int) (g:LI) (a:Int) (x:LB),FitD o f c w r n g a x->o.length<=64->SzD p g a x->OutB f c w r n g a x->p.length<=100000->muD f g a<k->k<=q->
  (∃(t2:LB) (t3 t4 t5 t6 t7:Int) (t8:LI) (t9:Int) (t10:LB),SB q o p f c w r n g a x=some (o,t2,t3,t4,t5,t6,t7,t8,t9,t10,false,0,0)/\Wt o t2 t3 t4 t5 t6 t7 t8 t9 t10/\t2.length<=p.length/\muD t3 t8 t9<k/\
   ∀b:LB,(p++b).length<=100000->SB q o (p++b) f c w r n g a x=SB q o (t2++b) t3 t4 t5 t6 t7 t8 t9 t10)\/
  (∃(x':LB) (e:Int),0<e/\Cd e/\x'.length<=12000/\∀b:LB,(p++b).length<=100000->SB q o (p++b) f c w r n g a x=some (o,[],0,0,0,0,0,[],0,x',false,e,e))
 |0,_,_,_,_,_,_,_,_,_,_,_,_,_,_,_,_,h,_=>by omega
 |k+1,q,o,p,f,c,w,r,n,g,a,x,hf,ho,hZ,hO,hp,hm,h1=>by
  obtain⟨q,rfl⟩:∃q',q=q'+1:=⟨q-1,F0⟩;have hx:x.length<=13000000:=by have:=hZ.hx;omega
  have hS:StepR (Bd o false 0 q) o p f c w r n g a x false 0:=K7 hf ho hZ;cases hS with
  |wait hF hT=>
   refine .inl ⟨p,f,c,w,r,n,g,a,x,?_,⟨hf,hZ,hO,hT⟩,N! _,hm,λb _=>rfl⟩;rw[SB,Az,Bz,hT,Aa];simp only;rw[CD F3,bW hZ.hp (by have:=hZ.hg;omega) hx,Aa]
  |err e he hF hT=>
   refine .inr ⟨x,e,he,Aor hf ho hp hT F0,uZ hf hO,λb hL=>?_⟩;obtain⟨s1,s2,s3,s4,s5,s6,s7,s8,s9,s10,s11,s12,hs⟩:=(kP b hf hL hT F0).2 F0;rw[SB,Az,Bz,hs,Aa];simp only;rw[B! iW,CD RL,M2 hx,Aa]
  |next p' f' c' w' r' n' g' a' x' hF hT hf' hZ' hle hmu=>
   have hp':p'.length<=100000:=F0
   rcases Aj8 k q o p' f' c' w' r' n' g' a' x' hf' ho hZ' (Ak1 hf ho hZ hO hT) hp' F0 F0 with⟨t2,t3,t4,t5,t6,t7,t8,t9,t10,k1,k2,k3,k4,k5⟩|⟨x2,e,k1,k2,k3,k4⟩
   ·refine .inl ⟨t2,t3,t4,t5,t6,t7,t8,t9,t10,?_,k2,F0,F0,λb hL=>?_⟩
    ·rw[SB,Az,Bz,hT,Aa];simp only;rw[B! F3,B! F3];exact k1
    ·have hs:=(kP b hf hL hT F3).1 rfl;have hL':(p'++b).length<=100000:=by rw[D!]at hL⊢;omega
     rw[SB,Az,Bz,hs,Aa];simp only;rw[B! F3,B! F3];refine(k5 b hL').trans ?_;exact Acl k q (q+1) o (t2++b) t3 t4 t5 t6 t7 t8 t9 t10 false 0 k2.fit ho ⟨by rw[D!]at hL⊢;omega,k2.sz.hg,k2.sz.hx⟩ k4 F0 F0
   ·refine .inr ⟨x2,e,k1,k2,k3,λb hL=>?_⟩;have hs:=(kP b hf hL hT F3).1 rfl;have hL':(p'++b).length<=100000:=by rw[D!]at hL⊢;omega
    rw[SB,Az,Bz,hs,Aa];simp only;rw[B! F3,B! F3];exact k4 b hL'
abbrev Fd(o s:LB):=SB As o s 0 0 0 0 0 [] 0 []
inductive Bh (o s:LB):LB->Int->Int->Int->Int->Int->LI->Int->LB->Int->Prop
 |wt {p:LB} {f c w r n:Int} {g:LI} {a:Int} {x:LB}:Wt o p f c w r n g a x->p.length<=s.length-> (∀b:LB,(s++b).length<=100000->Fd o (s++b)=SB As o (p++b) f c w r n g a x)->Bh o s p f c w r n g a x 0
 |er {x:LB} {e:Int}:0<e->Cd e->x.length<=12000-> (∀b:LB,(s++b).length<=100000->Fd o (s++b)=some (o,[],0,0,0,0,0,[],0,x,false,e,e))->Bh o s [] 0 0 0 0 0 [] 0 x e
variable {o s p:LB} {f c w r n:Int} {g:LI} {a:Int} {x:LB} {e:Int}
theorem Wt.stop(W:Wt o p f c w r n g a x):SB As o p f c w r n g a x=some (o,p,f,c,w,r,n,g,a,x,false,0,0):=by
 obtain⟨q,hq⟩:∃q,As=q+1:=⟨As-1,by have:=Aq;omega⟩;have hx:x.length<=13000000:=by have:=W.sz.hx;omega
 rw[SB,hq,Az,Bz,W.wait,Aa];simp only;rw[CD F3,bW W.sz.hp (by have:=W.sz.hg;omega) hx,Aa]
theorem Bh.fd(h:Bh o s p f c w r n g a x e)(hs:s.length<=100000):Fd o s=some (o,p,f,c,w,r,n,g,a,x,false,e,e):=by
 cases h with
 |wt W hl hb=>
  have:=hb [] (by simpa using hs);rw[R2,R2]at this;rw[this,W.stop]
 |er h0 hc hx hb=>
  have:=hb [] (by simpa using hs);rw[R2]at this;exact this
theorem Bh.new(ho:o.length<=64):Bh o [] [] 0 0 0 0 0 [] 0 [] 0:=by
 refine .wt ⟨.new rfl rfl rfl rfl rfl rfl rfl rfl,⟨CH,CH,CH⟩,OutB.nil,?_⟩ (N! _) λb _=>rfl;rw[Ah,By,CD F3,DH [] CH,Aa];rfl
theorem J'(ho:o.length<=64)(W:Wt o p f c w r n g a x)(b:LB)(hp:p.length<=20000)(hb:b.length<=20000):
  Dp o p f c w r n g a x false 0 b=SB As o (p++b) f c w r n g a x/\Jh o p f c w r n g a x false 0 b=SB As o (p++b) f c w r n g a x:=by
 have hR:Jh o p f c w r n g a x false 0 b=SB As o (p++b) f c w r n g a x:=by
  have hx:x.length<=13000000:=by have:=W.sz.hx;omega
  have hg:g.length<=2000:=by have:=W.sz.hg;omega
  have hE:¬(Bj (0:Int) 0=true):=F3
  have hF:¬(false=true):=F3
  rw[Jh,Qp,qU W.fit ho W.out W.wait,Aa,B! hE,bW F0 hg hx,Aa];simp only;rw[Qo]
  repeat (first|rw[Aa]|rw[B! hE]|rw[B! hF])
  rw[Bi,Aa];rfl
 obtain⟨t1,t2,t3,t4,t5,t6,t7,t8,t9,t10,t11,t12,e,h1,h2,_⟩:=At5 ho W.fit W.sz b hp hb;exact⟨h1.trans (h2.symm.trans hR),hR⟩
theorem Bh.check(ho:o.length<=64)(h:Bh o s p f c w r n g a x e)(hp:p.length<=100000):Ie o p f c w r n g a x false e=some 0/\Dj o p f c w r n g a x false e=some 0:=by
 have key:Dj o p f c w r n g a x false e=some 0/\g.length<=1000/\x.length<=13000000:=by
  cases h with
  |wt W hl hb=>exact⟨qU W.fit ho W.out W.wait,W.sz.hg,by have:=W.sz.hx;omega⟩
  |er h0 hc hx hb=>exact⟨vK ho hx hc h0,CH,F0⟩
 obtain⟨k1,k2,k3⟩:=key;obtain⟨E,e1,e2⟩:=uW o p f c w r n g a x false e hp F0 F0;rw[k1]at e2;cases e2;exact⟨e1,k1⟩
theorem Bh.feed(ho:o.length<=64)(h:Bh o s p f c w r n g a x e)(hp:p.length<=20000)(b:LB)(hb:b.length<=20000)(hs:(s++b).length<=100000):
  ∃(p':LB) (f' c' w' r' n':Int) (g':LI) (a':Int) (x':LB) (e':Int),Dp o p f c w r n g a x false e b=some (o,p',f',c',w',r',n',g',a',x',false,e',e')/\
   Jh o p f c w r n g a x false e b=some (o,p',f',c',w',r',n',g',a',x',false,e',e')/\Bh o (s++b) p' f' c' w' r' n' g' a' x' e':=by
 have hck:=h.check ho F0;cases h with
 |wt W hl hB=>
  obtain⟨h1,h2⟩:=J' ho W b hp hb;have hpb:(p++b).length<=100000:=by rw[D!];omega
  have hZ:SzD (p++b) g a x:=⟨hpb,W.sz.hg,W.sz.hx⟩;rcases Aj8 1004 As o (p++b) f c w r n g a x W.fit ho hZ W.out hpb (vW hZ) F8 with⟨t2,t3,t4,t5,t6,t7,t8,t9,t10,k1,k2,k3,k4,k5⟩|⟨x2,e,k1,k2,k3,k4⟩
  ·refine⟨t2,t3,t4,t5,t6,t7,t8,t9,t10,0,h1.trans k1,h2.trans k1, .wt k2 ?_ λb2 hL=>?_⟩
   ·rw[D!]at k3⊢;omega
   ·rw[RD,hB (b++b2) (by rw[<-RD];exact hL),<-RD];refine k5 b2 ?_;rw[D!,D!]at hL⊢;omega
  ·have k4':=k4 [] (by simpa using hpb);rw[R2]at k4';refine⟨_,_,_,_,_,_,_,_,_,_,h1.trans k4',h2.trans k4', .er k1 k2 k3 λb2 hL=>?_⟩;rw[RD,hB (b++b2) (by rw[<-RD];exact hL),<-RD];refine k4 b2 ?_;rw[D!,D!]at hL⊢;omega
 |er h0 hc hx hB=>
  have hne:Bj e 0=true:=by rw[Ao];simp;omega
  refine⟨_,_,_,_,_,_,_,_,_,_,?_,?_, .er h0 hc hx λb2 hL=>?_⟩
  ·rw[Dp,Va,kR CH CH F0 hck.1,B! F3,Aa];simp only;rw[CD (show e≠0 by omega),CD hne]
  ·rw[Jh,Qp,hck.2,Aa,B! F3,bW CH CH F0,Aa];simp only;rw[Qo,CD hne,Aa,CD hne]
  ·rw[RD];exact hB (b++b2) (by rw[<-RD];exact hL)
theorem v_{u:Bool}{v:Int}{y:LB}(hf:FitD o f c w r n g a x){t1 t2:LB}{t3 t4 t5 t6 t7:Int}{t8:LI}{t9:Int}{t10:LB}{t11:Bool}{t12:Int}
  (h:Ah o p f c w r n g a x u v=some (t1,t2,t3,t4,t5,t6,t7,t8,t9,t10,t11,t12, -1)) (hp:p.length<=100000):Ah o p f c w r n g a y u v=some (o,p,f,c,w,r,n,g,a,y,u,v, -1):=by
 have zero:¬(Bj (0:Int) 0=true):=F3
 rw[Ah,By]at h⊢;by_cases hz:geq f 0=true
 ·rw[CD hz]at h⊢;obtain⟨⟨z1,z2,z3,z4,z5,z6,z7⟩,hz1,h⟩:=Tl h;rw[hz1,Aa];simp only at h⊢;by_cases h7:Bj z7 0=true
  ·rw[CD h7]at h⊢;simp only[DV,G_]at h;rw[h.2.2.2.2.2.2.2.2.2.2.2.2]
  ·rw[B! h7]at h;obtain⟨af,h1,h⟩:=Tl h;rw[Gs,Gq,Ek]at h;obtain⟨aw,h2,h⟩:=Tl h;simp only[DV,G_]at h;obtain⟨-, -, -, -, -, -, -, -, -, -, -, -,rfl⟩:=h;split at h2<;>cases h2
 ·rw[B! hz]at h⊢;rw[Ca,Bc]at h⊢;by_cases hg:geq (Ac g) 0=true
  ·rw[CD hg]at h⊢;obtain⟨⟨z1,z2,z3⟩,hz1,h⟩:=Tl h;rw[hz1,Aa];simp only at h⊢;by_cases h7:Bj z3 0=true
   ·rw[CD h7]at h⊢;simp only[DV,G_]at h;rw[h.2.2.2.2.2.2.2.2.2.2.2.2]
   ·rw[B! h7]at h;obtain⟨af,h1,h⟩:=Tl h;simp only[DV,G_]at h;exact absurd h.2.2.2.2.2.2.2.2.2.2.2.2 F3
  ·rw[B! hg]at h⊢;by_cases he:geq a (Ac g)=true
   ·rw[CD he]at h⊢;by_cases hm:Ef (Ac p) 4000=true
    ·rw[CD hm]at h;simp only[DV,G_]at h;exact absurd h.2.2.2.2.2.2.2.2.2.2.2.2 F3
    ·rw[B! hm]
   ·rw[B! he]at h⊢;obtain⟨⟨z1,z2⟩,hz1,h⟩:=Tl h;have hz2:Dc o p f c w r n g a y u v=some (z1,z2):=hz1;rw[hz2,Aa];simp only at h⊢;by_cases h7:Bj z2 0=true
    ·rw[CD h7]at h⊢;simp only[DV,G_]at h;rw[h.2.2.2.2.2.2.2.2.2.2.2.2]
    ·rw[B! h7]at h;obtain⟨an,h2,h⟩:=Tl h;obtain⟨ah,h3,h⟩:=Tl h;obtain⟨ad,h4,h⟩:=Tl h;obtain⟨ae,h5,h⟩:=Tl h;simp only[DV,G_]at h;exact absurd h.2.2.2.2.2.2.2.2.2.2.2.2 F3
end Go.Pl
namespace Go.Pl
open Go Go.Lv
variable{u t11:Bool}{α:Type}{b:UInt8}
section
variable {o s p:LB} {f c w r n:Int} {g:LI} {a:Int} {x:LB} {e:Int}
theorem FitD.drop(h:FitD o f c w r n g a x)(t:Nat):FitD o f c w r n g a (x.drop t):=by
 cases h with
 |new e1 e2 e3 e4 e5 e6 e7 e8=>subst e8;exact .new e1 e2 e3 e4 e5 e6 e7 CH
 |head F C W R N hd hpw e6 e7 e8=>subst e8;exact .head F C W R N hd hpw e6 e7 CH
 |tab F C W R N A hd hpw ht hl ea hA=>exact .tab F C W R N A hd hpw ht hl ea hA
theorem OutB.drop(h:OutB f c w r n g a x)(t:Nat):OutB f c w r n g a (x.drop t):=by
 intro F C W R N A hd hg ha;have:=h F C W R N A hd hg ha;rw[Q!];omega
theorem Bh.xX(h:Bh o s p f c w r n g a x e):p.length<=s.length/\g.length<=1000/\x.length<=12000:=by
 cases h with
 |wt W hl hb=>exact⟨hl,W.sz.hg,uZ W.fit W.out⟩
 |er h0 hc hx hb=>exact⟨CH,CH,hx⟩
theorem Bh.D3(ho:o.length<=64)(h:Bh o s p f c w r n g a x e)(hp:p.length<=100000)(t:Nat):Ie o p f c w r n g a (x.drop t) false e=some 0:=by
 have hs:=h.xX;have key:Dj o p f c w r n g a (x.drop t) false e=some 0:=by
  cases h with
  |wt W hl hb=>exact qU (W.fit.drop t) ho (W.out.drop t) (v_ W.fit W.wait hp)
  |er h0 hc hx hb=>exact vK ho TW hc h0
 obtain⟨E,e1,e2⟩:=uW o p f c w r n g a (x.drop t) false e hp F0 TW;rw[key]at e2;cases e2;exact e1
theorem Ai3(hck:Ie o p f c w r n g a x u e=some 0)(hp:p.length<=20000)(hg:g.length<=2000)(hx:x.length<=12000)(m:Nat):
  Vj o p f c w r n g a x u e (m:Int)=some (o,p,f,c,w,r,n,g,a,x.drop (min m x.length),u,e,x.take (min m x.length),0):=by
 rw[Vj,hck,Aa,B! F3,B! S0,Aii F0 hg F0,Aa];simp only;have hk:Ee (m:Int) (Ac x)=((min m x.length:Nat):Int):=by rw[AK,Ac];omega
 rw[hk,Dg,Aa,Iu,Bi F7,Aa,Aa,Di,Aa];rfl
end
section
variable {o s p:LB} {f c w r n:Int} {g:LI} {a:Int} {x:LB} {e:Int}
theorem Apq{v:Int}(hp:p.length<=20000)(h:Rj o p f c w r n g a x u v=some e):Cd e:=by
 rw[Rj]at h;split at h
 ·rw[eA p F0,Aa]at h;have hok:=TB (b:=p);simp only at h;by_cases h2:(Ds p).2≠0
  ·rw[CD (by rw[Ao];simpa using h2)]at h;cases h;exact vX p
  ·have h3:(Ds p).2=0:=by simpa using h2
   obtain⟨k1,k2,k3⟩:=hok h3;have hl:(Wa p).length<=p.length:=by rw[Wa,Q!];omega
   rw[B! (by rw[Ao,h3];simp),Di,Aa,show p.drop (Ds p).1.toNat=Wa p from rfl,G2 _ F0,Aa]at h;cases h;exact S1 _
 ·split at h
  ·cases h;decide
  ·obtain⟨⟨z1,z2⟩,hz,h⟩:=Tl h;simp only at h;split at h<;>(cases h;decide)
theorem ZM{v k:Int}(ho:o.length<=64)(hx:x.length<=12000)(hk:(u=false/\v=k/\0<k/\Cd k)\/ (u=true/\v=0/\k=36)):
  Ie o [] 0 0 0 0 0 [] 0 x u v=some 0/\ (∀b,Dp o [] 0 0 0 0 0 [] 0 x u v b=some (o,[],0,0,0,0,0,[],0,x,u,v,k))/\Dx o [] 0 0 0 0 0 [] 0 x u v=some (o,[],0,0,0,0,0,[],0,x,u,v,k):=by
 have key:Dj o [] 0 0 0 0 0 [] 0 x u v=some 0:=by
  rcases hk with⟨rfl,rfl,h1,h2⟩|⟨rfl,rfl,rfl⟩
  ·exact vK ho hx h2 h1
  ·have hX:Ef (Ac x) 12000=false:=by rw[Au,Ac];simp;omega
   rw[Dj,B! PO,B! F3,CD F3,hX,B! F3,B! F3]
 obtain⟨E,e1,e2⟩:=uW o [] 0 0 0 0 0 [] 0 x u v CH CH F0;rw[key]at e2;cases e2;have hv:(if v≠0 then v else if u=true then 36 else 0)=k:=by
  rcases hk with⟨rfl,rfl,h1,h2⟩|⟨rfl,rfl,rfl⟩
  ·rw[CD F0]
  ·rfl
 have hk0:Bj k 0=true:=by
  rw[Ao];rcases hk with⟨rfl,rfl,h1,h2⟩|⟨rfl,rfl,rfl⟩
  ·simp;omega
  ·rfl
 have hb:=kR (o:=o) (p:=[]) (f:=0) (c:=0) (w:=0) (r:=0) (n:=0) (g:=[]) (a:=0) (x:=x) (u:=u) (v:=v) CH CH F0 e1;rw[B! F3,hv]at hb;refine⟨e1,λb=>?_,?_⟩
 ·rw[Dp,Va,hb,Aa];simp only;rw[CD hk0]
 ·rw[Dx,hb,Aa];simp only;rw[CD hk0]
theorem Bh.finish(ho:o.length<=64)(h:Bh o s p f c w r n g a x e)(hp:p.length<=20000):
  ∃(u:Bool) (v k:Int),Dx o p f c w r n g a x false e=some (o,[],0,0,0,0,0,[],0,x,u,v,k)/\ ((u=false/\v=k/\0<k/\Cd k/\ (e=0\/e=k))\/ (u=true/\v=0/\k=0)):=by
 have hs:=h.xX;have hck:=(h.check ho F0).1;have hb:=kR (o:=o) (p:=p) (f:=f) (c:=c) (w:=w) (r:=r) (n:=n) (g:=g) (a:=a) (x:=x) (u:=false) (v:=e) F0 F0 F0 hck;rw[B! F3]at hb;cases h with
 |wt W hl hB=>
  obtain⟨e1,d1,d2⟩:=Av7 (o:=o) (p:=p) (f:=f) (c:=c) (w:=w) (r:=r) (n:=n) (a:=a) (u:=false) (v:=0) (g:=g) (x:=x) hp;have hcd:=Apq hp d2;rw[Dx,hb,Aa];simp only;rw[B! F3,d1,Aa];by_cases he:Bj e1 0=true
  ·rw[CD he];refine⟨false,e1,e1,rfl, .inl ⟨rfl,rfl,?_,hcd,CH⟩⟩;have:=hcd.nn;rw[Ao]at he;simp only[V?]at he;omega
  ·rw[B! he];exact⟨true,0,0,rfl, .inr ⟨rfl,rfl,rfl⟩⟩
 |er h0 hc hx hB=>
  have hne:Bj e 0=true:=by rw[Ao];simp;omega
  rw[Dx,hb,Aa];simp only;rw[CD (show e≠0 by omega),CD hne];exact⟨false,e,e,rfl, .inl ⟨rfl,rfl,h0,hc, .inr rfl⟩⟩
end
theorem bG{l m z:List α}(h:Da l m=some z):z=l++m:=by
 rw[Da]at h;split at h
 ·exact(YX h).symm
 ·cases h
theorem Aia{o p:LB}{f c w r n:Int}{g:LI}{a:Int}{x:LB}{v:Int}(hf:f≠0)(hg:g≠ []){t1 t2:LB}{t3 t4 t5 t6 t7:Int}{t8:LI}{t9:Int}{t10:LB}{t12 e:Int}
  (h:Ah o p f c w r n g a x u v=some (t1,t2,t3,t4,t5,t6,t7,t8,t9,t10,t11,t12,e)):e≠0\/ (t3=f/\t8=g/\∃y,t10=x++y):=by
 rw[Ah,By,B! (by rw[Ax];simpa using hf),Ca,Bc,B! (by
  rw[Ax,Ac,RG];intro e;exact hg (V_ F0))]at h
 by_cases he:geq a (Ac g)=true
 ·rw[CD he]at h;by_cases hm:Ef (Ac p) 4000=true
  ·rw[CD hm]at h;simp only[DV,G_]at h;left;rw[<-h.2.2.2.2.2.2.2.2.2.2.2.2];decide
  ·rw[B! hm]at h;simp only[DV,G_]at h;left;rw[<-h.2.2.2.2.2.2.2.2.2.2.2.2];decide
 ·rw[B! he]at h;obtain⟨⟨z1,z2⟩,hz1,h⟩:=Tl h;simp only at h;by_cases h7:Bj z2 0=true
  ·rw[CD h7]at h;simp only[DV,G_]at h;left;rw[<-h.2.2.2.2.2.2.2.2.2.2.2.2];rw[Ao]at h7;simpa using h7
  ·rw[B! h7]at h;obtain⟨an,h2,h⟩:=Tl h;obtain⟨ah,h3,h⟩:=Tl h;obtain⟨ad,h4,h⟩:=Tl h;obtain⟨ae,h5,h⟩:=Tl h;simp only[DV,G_]at h;have e1:=bG h2;have e2:=bG h3;rw[RI]at e1;right;exact⟨h.2.2.1.symm,h.2.2.2.2.2.2.2.1.symm,z1,by rw[<-h.2.2.2.2.2.2.2.2.2.1,e2,e1]⟩
theorem uV{l m r:List α}(h:Da l m=some r):l.length+m.length<=V9:=by
 rw[Da]at h;split at h
 ·assumption
 ·cases h
theorem A9{l m:List α}(h:l.length+m.length<=V9):Da l m=some (l++m):=by rw[Da,CD h]
theorem Aqp{o p:LB}{f c w r n:Int}{g:LI}{a:Int}{x:LB}{v:Int}(hf:f≠0)(hg:g≠ []){t1 t2:LB}{t3 t4 t5 t6 t7:Int}{t8:LI}{t9:Int}{t10:LB}{t12 e:Int}
  (h:Ah o p f c w r n g a x u v=some (t1,t2,t3,t4,t5,t6,t7,t8,t9,t10,t11,t12,e)):
  ∃y,t10=x++y/\∀z:LB,z.length<=x.length->Ah o p f c w r n g a z u v=some (t1,t2,t3,t4,t5,t6,t7,t8,t9,z++y,t11,t12,e):=by
 have e0:∀z:LB,Ah o p f c w r n g a z u v=Bc o p f c w r n g a z u v:=λz=>by
  rw[Ah,By,B! (by rw[Ax];simpa using hf),Ca]
 have hgl:¬geq (Ac g) 0=true:=by
  rw[Ax,Ac,RG];intro e;exact hg (V_ F0)
 have stay:∀E:Int,some (o,p,f,c,w,r,n,g,a,x,u,v,E)=some (t1,t2,t3,t4,t5,t6,t7,t8,t9,t10,t11,t12,e)-> (∀z:LB,Bc o p f c w r n g a z u v=some (o,p,f,c,w,r,n,g,a,z,u,v,E))->
   ∃y,t10=x++y/\∀z:LB,z.length<=x.length->Ah o p f c w r n g a z u v=some (t1,t2,t3,t4,t5,t6,t7,t8,t9,z++y,t11,t12,e):=by
  intro E h hz;simp only[DV,G_]at h;obtain⟨rfl,rfl,rfl,rfl,rfl,rfl,rfl,rfl,rfl,rfl,rfl,rfl,rfl⟩:=h;exact⟨[],(R2 _).symm,λz _=>by rw[e0,hz,R2]⟩
 rw[e0,Bc,B! hgl]at h;by_cases he:geq a (Ac g)=true
 ·rw[CD he]at h;by_cases hm:Ef (Ac p) 4000=true
  ·rw[CD hm]at h;exact stay _ h λz=>by rw[Bc,B! hgl,CD he,CD hm]
  ·rw[B! hm]at h;exact stay _ h λz=>by rw[Bc,B! hgl,CD he,B! hm]
 ·rw[B! he]at h;obtain⟨⟨z1,z2⟩,hz1,h⟩:=Tl h;have hz1':∀z:LB,Dc o p f c w r n g a z u v=some (z1,z2):=λz=>hz1;simp only at h;by_cases h7:Bj z2 0=true
  ·rw[CD h7]at h;refine stay _ h λz=>?_;rw[Bc,B! hgl,B! he,hz1',Aa];simp only;rw[CD h7]
  ·rw[B! h7]at h;obtain⟨an,h2,h⟩:=Tl h;obtain⟨ah,h3,h⟩:=Tl h;obtain⟨ad,h4,h⟩:=Tl h;obtain⟨ae,h5,h⟩:=Tl h;simp only[DV,G_]at h;have e1:=bG h2;have e2:=bG h3;have l2:=uV h2;have l3:=uV h3;rw[RI]at e1;obtain⟨h01,h02,h03,h04,h05,h06,h07,h08,h09,h10,h11,h12,h13⟩:=h;refine⟨z1,by rw[<-h10,e2,e1],λz hz=>?_⟩;rw[e1]at l3;rw[e0,Bc,B! hgl,B! he,hz1',Aa];simp only;rw[B! h7,A9 (by simp at l2⊢;omega),Aa,RI,A9 F0,Aa,h4,Aa,h5,Aa,h01,h02,h03,h04,h05,h06,h07,h08,h09,h11,h12,h13]
theorem tW:∀(q:Nat) (o p:LB) (f c w r n:Int) (g:LI) (a:Int) (x:LB) (u:Bool) (v:Int),f≠0->g≠ []->∀(t1 t2:LB) (t3 t4 t5 t6 t7:Int) (t8:LI) (t9:Int) (t10:LB) (t11:Bool) (t12 e:Int),Az q o p f c w r n g a x u v=some (t1,t2,t3,t4,t5,t6,t7,t8,t9,t10,t11,t12,e)->
  ∃y,t10=x++y/\∀z:LB,z.length<=x.length->Az q o p f c w r n g a z u v=some (t1,t2,t3,t4,t5,t6,t7,t8,t9,z++y,t11,t12,e)
 |0,o,p,f,c,w,r,n,g,a,x,u,v,_,_,t1,t2,t3,t4,t5,t6,t7,t8,t9,t10,t11,t12,e,h=>by cases h
 |q+1,o,p,f,c,w,r,n,g,a,x,u,v,hf,hg,t1,t2,t3,t4,t5,t6,t7,t8,t9,t10,t11,t12,e,h=>by
  rw[Az,Bz]at h;obtain⟨⟨z1,z2,z3,z4,z5,z6,z7,z8,z9,z10,z11,z12,zz⟩,hz,h⟩:=Tl h;obtain⟨y,hy1,hy2⟩:=Aqp hf hg hz;simp only at h;by_cases h1:geq zz (-1)=true
  ·rw[CD h1]at h;obtain⟨⟨y1,y2,y3,y4,y5,y6,y7,y8,y9,y10,y11,y12⟩,hy,h⟩:=Tl h;simp only[DV,G_]at h;rw[Ma,Qd]at hy;obtain⟨a1,k1,hy⟩:=Tl hy;obtain⟨a2,k2,hy⟩:=Tl hy;rw[Qh,Qf]at hy;obtain⟨a3,k3,hy⟩:=Tl hy;simp only[DV,G_]at hy;have e2:=bG k2;have l2:=uV k2;obtain⟨rfl,rfl,rfl,rfl,rfl,rfl,rfl,rfl,rfl,rfl,rfl,rfl⟩:=hy;obtain⟨rfl,rfl,rfl,rfl,rfl,rfl,rfl,rfl,rfl,rfl,rfl,rfl,rfl⟩:=h;refine⟨[],by rw[e2,RI,R2],λz hzl=>?_⟩;rw[Az,Bz,hy2 z hzl,Aa];simp only;rw[CD h1,Ma,Qd,k1,Aa,A9 (by simp at l2⊢;omega),Aa,Qh,Qf,k3,Aa,Aa];simp
  ·rw[B! h1]at h;by_cases h2:Bj zz 0=true
   ·rw[CD h2]at h;obtain⟨⟨y1,y2,y3,y4,y5,y6,y7,y8,y9,y10,y11,y12,y13⟩,hy,h⟩:=Tl h;simp only[DV,G_]at h;rw[My]at hy;obtain⟨⟨x1,x2,x3,x4,x5,x6,x7,x8,x9,x10,x11,x12⟩,hx,hy⟩:=Tl hy;simp only[DV,G_]at hy;rw[Xf]at hx;obtain⟨a2,k2,hx⟩:=Tl hx;simp only[DV,G_]at hx;have e2:=bG k2;have l2:=uV k2;obtain⟨rfl,rfl,rfl,rfl,rfl,rfl,rfl,rfl,rfl,rfl,rfl,rfl⟩:=hx;obtain⟨rfl,rfl,rfl,rfl,rfl,rfl,rfl,rfl,rfl,rfl,rfl,rfl,rfl⟩:=hy;obtain⟨rfl,rfl,rfl,rfl,rfl,rfl,rfl,rfl,rfl,rfl,rfl,rfl,rfl⟩:=h;refine⟨[],by rw[e2,RI,R2],λz hzl=>?_⟩;rw[Az,Bz,hy2 z hzl,Aa];simp only;rw[B! h1,CD h2,My,Xf,A9 (by simp at l2⊢;omega),Aa,Aa,Aa];simp
   ·rw[B! h2]at h;have hz0:zz=0:=by rw[Ao]at h2;simpa using h2
    rcases Aia hf hg hz with h3|⟨h3,h4,y0,h5⟩
    ·exact absurd hz0 h3
    ·obtain⟨y2,h6,h7⟩:=tW q z1 z2 z3 z4 z5 z6 z7 z8 z9 z10 z11 z12 (by rw[h3];exact hf) (by rw[h4];exact hg) _ _ _ _ _ _ _ _ _ _ _ _ _ h;refine⟨y++y2,by rw[h6,hy1,RD],λz hzl=>?_⟩;rw[Az,Bz,hy2 z hzl,Aa];simp only;rw[B! h1,B! h2,h7 (z++y) (by rw[hy1,D!,D!];omega),RD]
section
variable {o s p:LB} {f c w r n:Int} {g:LI} {a:Int} {x:LB} {e:Int}
theorem Wt.drop(W:Wt o p f c w r n g a x)(t:Nat):Wt o p f c w r n g a (x.drop t):=
 ⟨W.fit.drop t,⟨W.sz.hp,W.sz.hg,by have:=W.sz.hx;rw[Q!];omega⟩,W.out.drop t,v_ W.fit W.wait W.sz.hp⟩
theorem FitD.early(h:FitD o f c w r n g a x)(hx:x≠ []):f≠0/\g≠ []:=by
 cases h with
 |new _ _ _ _ _ _ _ e8=>exact absurd e8 hx
 |head _ _ _ _ _ _ _ _ _ e8=>exact absurd e8 hx
 |tab F C W R N A hd hpw ht hl ea hA=>
  refine⟨hd.fnz,λe=>?_⟩;have h1:=hd.num;have h2:(Ap (Al R) N).length=0:=by rw[<-hl,e];rfl
  have h3:Ap (Al R) N=[]:=V_ h2;have h4:(Ap (Al R) N).sum=(N:Int):=kX h1.2.2.2.2.1;rw[h3]at h4;simp at h4;omega
theorem Bh.xZ(ho:o.length<=64)(h:Bh o s p f c w r n g a x e)(hp:p.length<=20000)(b:LB)(hb:b.length<=20000)(hs:(s++b).length<=100000){t:Nat}(ht:t<=x.length):
  ∃(p':LB) (f' c' w' r' n':Int) (g':LI) (a':Int) (y:LB) (e':Int),Dp o p f c w r n g a (x.drop t) false e b=some (o,p',f',c',w',r',n',g',a',(x++y).drop t,false,e',e')/\
   Dp o p f c w r n g a x false e b=some (o,p',f',c',w',r',n',g',a',x++y,false,e',e')/\Bh o (s++b) p' f' c' w' r' n' g' a' (x++y) e':=by
 obtain⟨p',f',c',w',r',n',g',a',x',e',h1,h2,h3⟩:=h.feed ho hp b hb hs;have hck:=h.D3 ho F0 t;have hsz:=h.xX;cases h with
 |wt W hl hB=>
  by_cases hx:x=[]
  ·subst hx;obtain rfl:t=0:=by simpa using ht
   exact⟨p',f',c',w',r',n',g',a',x',e',h1,by simpa using h1,by simpa using h3⟩
  ·obtain⟨hf,hg⟩:=W.fit.early hx;have e1:=(J' ho W b hp hb).1;have e2:=(J' ho (W.drop t) b hp hb).1;rw[e1]at h1;obtain⟨y,k1,k2⟩:=tW As o (p++b) f c w r n g a x false 0 hf hg _ _ _ _ _ _ _ _ _ _ _ _ _ h1;subst k1;refine⟨p',f',c',w',r',n',g',a',y,e',?_,by rw[e1];exact h1,h3⟩;rw[e2,W! ht];exact k2 (x.drop t) TW
 |er h0 hc hx hB=>
  obtain⟨q1,q2,q3⟩:=ZM (o:=o) (x:=x) (u:=false) (v:=e) (k:=e) ho hx (.inl ⟨rfl,rfl,h0,hc⟩);obtain⟨d1,d2,d3⟩:=ZM (o:=o) (x:=x.drop t) (u:=false) (v:=e) (k:=e) ho TW (.inl ⟨rfl,rfl,h0,hc⟩);rw[q2 b]at h1;simp only[DV,G_,Z0]at h1;obtain⟨rfl,rfl,rfl,rfl,rfl,rfl,rfl,rfl,rfl,rfl,_⟩:=h1;exact⟨[],0,0,0,0,0,[],0,[],e,by simpa using d2 b,by simpa using q2 b,by simpa using h3⟩
def ku(u:Bool)(v k:Int):Prop:=(u=false/\v=k/\0<k/\Cd k)\/ (u=true/\v=0/\k=36)
theorem Bh.Amp(ho:o.length<=64)(h:Bh o s p f c w r n g a x e)(hp:p.length<=20000):
  ∃(u:Bool) (v k:Int),(∀t,Dx o p f c w r n g a (x.drop t) false e=some (o,[],0,0,0,0,0,[],0,x.drop t,u,v,k))/\ ((u=false/\v=k/\0<k/\Cd k/\ (e=0\/e=k))\/ (u=true/\v=0/\k=0)):=by
 have hs:=h.xX;cases h with
 |wt W hl hB=>
  obtain⟨e1,d1,d2⟩:=Av7 (o:=o) (p:=p) (f:=f) (c:=c) (w:=w) (r:=r) (n:=n) (a:=a) (u:=false) (v:=0) (g:=g) (x:=x) hp;have hcd:=Apq hp d2;have go:∀t,Dx o p f c w r n g a (x.drop t) false 0=if Bj e1 0=true then some (o,[],0,0,0,0,0,[],0,x.drop t,false,e1,e1)else some (o,[],0,0,0,0,0,[],0,x.drop t,true,0,0):=by
   intro t;have hb:=kR (o:=o) (p:=p) (f:=f) (c:=c) (w:=w) (r:=r) (n:=n) (g:=g) (a:=a) (x:=x.drop t) (u:=false) (v:=0) F0 F0 TW (Bh.D3 ho (.wt W hl hB) F0 t);rw[B! F3]at hb;rw[Dx,hb,Aa];simp only;have d1':Xt o p f c w r n g a (x.drop t) false 0=some e1:=d1;rw[B! F3,d1',Aa];rfl
  by_cases he:Bj e1 0=true
  ·refine⟨false,e1,e1,λt=>by rw[go,CD he], .inl ⟨rfl,rfl,?_,hcd,CH⟩⟩;have:=hcd.nn;rw[Ao]at he;simp only[V?]at he;omega
  ·exact⟨true,0,0,λt=>by rw[go,B! he], .inr ⟨rfl,rfl,rfl⟩⟩
 |er h0 hc hx hB=>
  refine⟨false,e,e,λt=>?_, .inl ⟨rfl,rfl,h0,hc, .inr rfl⟩⟩;exact(ZM (o:=o) (x:=x.drop t) (u:=false) (v:=e) (k:=e) ho TW (.inl ⟨rfl,rfl,h0,hc⟩)).2.2
end
theorem cB{p:Prop}(h:p:=by simp only[Q!];omega):p:=h
theorem cE{p:Prop}(h:p:=by rw[D!];simp;omega):p:=h
abbrev vE:=UInt8×Int×Unit
abbrev Sad:=Int×LB×Unit
structure Ud where
 s:LB
 X:LB
 p:LB
 f:Int
 c:Int
 w:Int
 r:Int
 n:Int
 g:LI
 a:Int
 u:Bool
 v:Int
inductive OkU (o:LB) (L:Nat):Ud->Prop
 |live {s X p:LB} {f c w r n:Int} {g:LI} {a e:Int}:s.length+L<=12100->Bh o s p f c w r n g a X e->OkU o L ⟨s,X,p,f,c,w,r,n,g,a,false,e⟩
 |stop {s X:LB} {u:Bool} {v k:Int}:X.length<=12000->ku u v k->OkU o L ⟨s,X,[],0,0,0,0,0,[],0,u,v⟩
def ni(o:LB)(U:Ud)(q:LB):Option (Int×Ud):=(Dp o U.p U.f U.c U.w U.r U.n U.g U.a U.X U.u U.v q).bind λ(_,p,f,c,w,r,n,g,a,x,u,v,e)=>some (e,⟨U.s++q,x,p,f,c,w,r,n,g,a,u,v⟩)
def Z5(o:LB)(U:Ud):Option (Int×Ud):=(Dx o U.p U.f U.c U.w U.r U.n U.g U.a U.X U.u U.v).bind λ(_,p,f,c,w,r,n,g,a,x,u,v,e)=>some (e,⟨U.s,x,p,f,c,w,r,n,g,a,u,v⟩)
theorem Ak6{o:LB}(ho:o.length<=64){L:Nat}{U:Ud}(h:OkU o L U)(q:LB)(hq:q.length<=L):
  ∃(e:Int) (U':Ud),ni o U q=some (e,U')/\OkU o (L-q.length) U'/\ (∃y,U'.X=U.X++y)/\
   ∀t,t<=U.X.length->Dp o U.p U.f U.c U.w U.r U.n U.g U.a (U.X.drop t) U.u U.v q=some (o,U'.p,U'.f,U'.c,U'.w,U'.r,U'.n,U'.g,U'.a,U'.X.drop t,U'.u,U'.v,e):=by
 cases h with
 |live hl hB=>
  rename_i s X p f c w r n g a e;have hsz:=hB.xX;have hs:(s++q).length<=100000:=by rw[D!];omega
  obtain⟨p',f',c',w',r',n',g',a',y,e',h1,h2,h3⟩:=hB.xZ ho F0 q F0 hs (bZ _);refine⟨e',⟨s++q,X++y,p',f',c',w',r',n',g',a',false,e'⟩,by rw[ni];simp only;rw[h2];rfl, .live V' h3,⟨y,rfl⟩,λt ht=>?_⟩;obtain⟨p2,f2,c2,w2,r2,n2,g2,a2,y2,e2,k1,k2,k3⟩:=hB.xZ ho F0 q F0 hs ht;rw[h2]at k2;simp only[DV,G_,Z0,List.append_cancel_left_eq]at k2;obtain⟨rfl,rfl,rfl,rfl,rfl,rfl,rfl,rfl,rfl,rfl,_⟩:=k2;exact k1
 |stop hx hk=>
  rename_i s X u v k;refine⟨k,⟨s++q,X,[],0,0,0,0,0,[],0,u,v⟩,?_, .stop hx hk,⟨[],(R2 _).symm⟩,λt ht=>?_⟩
  ·rw[ni];simp only;rw[(ZM ho hx hk).2.1 q];rfl
  ·exact(ZM ho cB hk).2.1 q
theorem Ao5{o:LB}(ho:o.length<=64){L:Nat}{U:Ud}(h:OkU o L U):
  ∃(e:Int) (U':Ud),Z5 o U=some (e,U')/\OkU o L U'/\U'.X=U.X/\
   ∀t,t<=U.X.length->Dx o U.p U.f U.c U.w U.r U.n U.g U.a (U.X.drop t) U.u U.v=some (o,U'.p,U'.f,U'.c,U'.w,U'.r,U'.n,U'.g,U'.a,U'.X.drop t,U'.u,U'.v,e):=by
 cases h with
 |live hl hB=>
  rename_i s X p f c w r n g a e;have hsz:=hB.xX;obtain⟨u,v,k,h1,h2⟩:=hB.Amp ho F0;have h0:=h1 0;rw[Ys]at h0;refine⟨k,⟨s,X,[],0,0,0,0,0,[],0,u,v⟩,by rw[Z5];simp only;rw[h0];rfl,?_,rfl,λt _=>h1 t⟩;rcases h2 with⟨k1,k2,k3,k4,_⟩|⟨k1,k2,_⟩
  ·exact .stop (k:=k) hsz.2.2 (.inl ⟨k1,k2,k3,k4⟩)
  ·exact .stop (k:=36) hsz.2.2 (.inr ⟨k1,k2,rfl⟩)
 |stop hx hk=>
  rename_i s X u v k;refine⟨k,⟨s,X,[],0,0,0,0,0,[],0,u,v⟩,?_, .stop hx hk,rfl,λt ht=>?_⟩
  ·rw[Z5];simp only;rw[(ZM ho hx hk).2.2];rfl
  ·exact(ZM ho cB hk).2.2
theorem OkU.szs{o:LB}{L:Nat}{U:Ud}(h:OkU o L U):U.p.length<=12100/\U.g.length<=1000/\U.X.length<=12000:=by
 cases h with
 |live hl hB=>have:=hB.xX;exact⟨by simp only;omega,this.2.1,this.2.2⟩
 |stop hx hk=>exact⟨CH,CH,hx⟩
theorem Afp{o:LB}(ho:o.length<=64){L:Nat}{U:Ud}(h:OkU o L U)(t:Nat)(m:Nat):
  Vj o U.p U.f U.c U.w U.r U.n U.g U.a (U.X.drop t) U.u U.v (m:Int)=some (o,U.p,U.f,U.c,U.w,U.r,U.n,U.g,U.a,(U.X.drop t).drop (min m (U.X.drop t).length),U.u,U.v,(U.X.drop t).take (min m (U.X.drop t).length),0):=by
 have hs:=h.szs;refine Ai3 ?_ F0 F0 TW m;cases h with
 |live hl hB=>exact hB.D3 ho (by have:=hs.1;simp only at this;omega) t
 |stop hx hk=>exact(ZM ho cB hk).1
def Y5(o:LB)(st:vE)(inp:LB)(U:Ud):Option (Int×Ud×LB):=
 if st.1=1 then(ni o U (inp.take (min st.2.1.toNat inp.length))).bind λz=>some (z.1,z.2,inp.drop (min st.2.1.toNat inp.length))
 else if st.1=2 then some (0,U,inp)
 else(Z5 o U).bind λz=>some (z.1,z.2,inp)
def R6(o:LB):List vE->LB->Ud->Option (LI×Ud×LB)
 |[],inp,U=>some ([],U,inp)
 |st::l,inp,U=>(Y5 o st inp U).bind λz=>(R6 o l z.2.2 z.2.1).bind λy=>some (z.1::y.1,y.2)
def VS(st:vE):Prop:=(st.1=1\/st.1=2\/st.1=3)/\0<=st.2.1/\st.2.1<=100000
def SR(st:vE)(e:Int)(d:Sad):Prop:=d.1=e/\ (st.1=2->e=0/\ (d.2.1.length:Int)<=st.2.1)/\ (st.1≠2->d.2.1=[])
inductive SRs:List vE->LI->List Sad->Prop
 |nil:SRs [] [] []
 |cons {st e d l es ds}:SR st e d->SRs l es ds->SRs (st::l) (e::es) (d::ds)
def outs(l:List Sad):LB:=(l.map (·.2.1)).flatten
def fX(b:List vE)(i t:Nat)(X:LB)(t':Nat)(X':LB):Prop:=(i=b.length->t'=t/\X'=X)/\ (i<b.length->∀m:Int,b[b.length-1]? =some (2,m,())->20000<=m->t'=X'.length)
theorem fX.nil{b:List vE}{i t:Nat}{X:LB}(h:i=b.length):fX b i t X t X:=⟨λ_=>⟨rfl,rfl⟩,λh'=>absurd h' F0⟩
theorem fX.other{b:List vE}{i t t1 t':Nat}{X X1 X':LB}(hlt:i<b.length)(h1:b[i].1≠2)(ih:fX b (i+1) t1 X1 t' X'):fX b i t X t' X':=by
 refine⟨λh=>absurd h F0,λ_ m hm h2=>?_⟩;by_cases h:i+1<b.length
 ·exact ih.2 h m hm h2
 ·rw[show b.length-1=i by omega,RR hlt]at hm;exact absurd (by rw[YX hm]) h1
theorem fX.drain{b:List vE}{i t t' m:Nat}{X X':LB}(hlt:i<b.length)(hm:b[i].2.1=(m:Int))(hX:X.length<=20000)(ht:t<=X.length)(ih:fX b (i+1) (t+min m (X.length-t)) X t' X'):fX b i t X t' X':=by
 refine⟨λh=>absurd h F0,λ_ k hk h2=>?_⟩;by_cases h:i+1<b.length
 ·exact ih.2 h k hk h2
 ·rw[show b.length-1=i by omega,RR hlt]at hk;obtain⟨e1,e2⟩:=ih.1 F0;have e3:=YX hk;rw[e3]at hm;simp only at hm;rw[e1,e2];omega
theorem sQ{o:LB}(ho:o.length<=64){b:List vE}(hb:b.length<=200)(hv:∀st∈b,VS st):∀(k i t q:Nat) (U:Ud) (inp:LB) (aa:List Sad),i+k=b.length->k<q->inp.length<=12100->OkU o inp.length U->t<=U.X.length->aa.length<=i->
  ∃(es:LI) (U':Ud) (inp':LB) (ds:List Sad) (t':Nat),R6 o (b.drop i) inp U=some (es,U',inp')/\OkU o inp'.length U'/\t'<=U'.X.length/\SRs (b.drop i) es ds/\U.X.take t++outs ds=U'.X.take t'/\
   Fx b q (i:Int) o U.f U.c U.w U.r U.n U.a (U.X.drop t) U.u U.v inp aa U.p U.g=some (o,U'.p,U'.f,U'.c,U'.w,U'.r,U'.n,U'.g,U'.a,U'.X.drop t',U'.u,U'.v,aa++ds,0)/\fX b i t U.X t' U'.X
 |k,i,t,0,U,inp,aa,_,hq,_,_,_,_=>absurd hq (T6 _)
 |0,i,t,q+1,U,inp,aa,hi,hq,hin,hU,ht,haa=>by
  refine⟨[],U,inp,[],t,by rw[gW F0];rfl,hU,ht,by rw[gW F0];exact .nil,by simp[outs],?_, .nil F0⟩;rw[Fx,Ql,B! F2,FZ,Ael,Adn,Aef,R2]
 |k+1,i,t,q+1,U,inp,aa,hi,hq,hin,hU,ht,haa=>by
  have hlt:i<b.length:=F0
  obtain⟨hop,hn0,hn1⟩:=hv b[i] (S6 hlt);have hdrop:b.drop i=b[i]::b.drop (i+1):=(List.getElem_cons_drop hlt).symm;obtain⟨m,hm⟩:∃m:Nat,b[i].2.1=m:=⟨b[i].2.1.toNat,F0⟩;have hgi:Ae (i:Int) 1=((i+1:Nat):Int):=by rw[show(1:Int)=((1:Nat):Int)from rfl,Ag];omega
  rw[Fx,Ql,CD F2,Cj hlt,Aa];rcases hop with h1|h1|h1
  ·
   have hg1:geq b[i].1 1=true:=by rw[h1];rfl
   have hmin:Ee b[i].2.1 (Ac inp)=((min m inp.length:Nat):Int):=by rw[hm,AK,Ac];omega
   obtain⟨e,U1,f1,f2,⟨y,f3⟩,f4⟩:=Ak6 ho hU (inp.take (min m inp.length)) VZ;have hl:(inp.take (min m inp.length)).length=min m inp.length:=by rw[JW];omega
   rw[hl]at f2;have hl2:(inp.drop (min m inp.length)).length=inp.length-min m inp.length:=Q!;rw[<-hl2]at f2;obtain⟨es,U2,xR,ds,t2,r1,r2,r3,r4,r5,r6,r7⟩:=sQ ho hb hv k (i+1) t q U1 (inp.drop (min m inp.length)) (aa++[(e,[],())]) F0 F0 F0 f2 (by rw[f3,D!];omega) cE;refine⟨e::es,U2,xR,(e,[],())::ds,t2,?_,r2,r3,?_,?_,?_, .other hlt (by rw[h1];decide) r7⟩
   ·rw[hdrop,R6,Y5,CD h1,hm,O1,f1,Aa,Aa];simp only;rw[r1,Aa]
   ·rw[hdrop];exact .cons ⟨rfl,λh=>by rw[h1]at h;exact absurd h F3,λ_=>rfl⟩ r4
   ·rw[<-r5,f3,aM ht];simp[outs]
   ·rw[CD hg1,hmin,Dg,O1,Aa,f4 t ht,Aa];simp only;rw[JQ,Wx,hmin,Di,Aa,Bi F7,Aa,Gf,Xa,hgi,O1,r6];simp
  ·
   have hg1:¬geq b[i].1 1=true:=by rw[h1];decide
   have hg2:geq b[i].1 2=true:=by rw[h1];rfl
   have hd:=Afp ho hU t m;have hXl:(U.X.drop t).length=U.X.length-t:=Q!;obtain⟨es,U2,xR,ds,t2,r1,r2,r3,r4,r5,r6,r7⟩:=sQ ho hb hv k (i+1) (t+min m (U.X.length-t)) q U inp (aa++[(0,(U.X.drop t).take (min m (U.X.drop t).length),())]) F0 F0 hin hU F0 cE;refine⟨0::es,U2,xR,(0,(U.X.drop t).take (min m (U.X.drop t).length),())::ds,t2,?_,r2,r3,?_,?_,?_, .drain hlt hm (by have:=hU.szs;omega) ht r7⟩
   ·rw[hdrop,R6,Y5,B! (by rw[h1];decide),CD h1,Aa];simp only;rw[r1,Aa]
   ·rw[hdrop];exact .cons ⟨rfl,λ_=>⟨rfl,by simp only[JW];rw[hm];omega⟩,λh=>absurd h1 h⟩ r4
   ·rw[<-r5,hXl,iT];simp[outs]
   ·rw[B! hg1,CD hg2,hm,hd,Aa];simp only;rw[FV,Agc,Bi F7,Aa,Gf,Xa,hgi];rw[hXl,Yi]at*
    rw[r6];simp
  ·
   have hg1:¬geq b[i].1 1=true:=by rw[h1];decide
   have hg2:¬geq b[i].1 2=true:=by rw[h1];decide
   have hg3:geq b[i].1 3=true:=by rw[h1];rfl
   obtain⟨e,U1,f1,f2,f3,f4⟩:=Ao5 ho hU;obtain⟨es,U2,xR,ds,t2,r1,r2,r3,r4,r5,r6,r7⟩:=sQ ho hb hv k (i+1) t q U1 inp (aa++[(e,[],())]) F0 F0 hin f2 (by rw[f3];exact ht) cE;refine⟨e::es,U2,xR,(e,[],())::ds,t2,?_,r2,r3,?_,?_,?_, .other hlt (by rw[h1];decide) r7⟩
   ·rw[hdrop,R6,Y5,B! (by rw[h1];decide),B! (by rw[h1];decide),f1,Aa,Aa];simp only;rw[r1,Aa]
   ·rw[hdrop];exact .cons ⟨rfl,λh=>by rw[h1]at h;exact absurd h F3,λ_=>rfl⟩ r4
   ·rw[<-r5,f3];simp[outs]
   ·rw[B! hg1,B! hg2,CD hg3,f4 t ht,Aa];simp only;rw[GW,Aeo,Bi F7,Aa,Gf,Xa,hgi,r6];simp
def VS3(st:vE):Prop:=VS st/\ (st.1=3->st.2.1=0)
theorem Alu{st:vE}(h:VS3 st):HY st.1 st.2.1=some false:=by
 obtain⟨⟨h1,h2,h3⟩,h4⟩:=h;rw[HY,eY,Aj4,Ajr];have hr:(Lo st.2.1 0&&tM st.2.1 100000)=true:=by rw[Dq,KO];simp;omega
 rcases h1 with h1|h1|h1
 ·rw[h1,CD F3,CR,CD F3,hr,Aa];rfl
 ·rw[h1,B! F3,CR,CD F3,hr,Aa];rfl
 ·rw[h1,B! F3,CR,B! F3,CD F3,h4 h1,Aa];rfl
theorem mJ{l:List vE}(hl:l.length<=200)(hv:∀st∈l,VS3 st):Zm l=some 0:=by
 have loop:∀(j i q:Nat),i+j=l.length->j<q->Nr l q (i:Int)=some 0:=by
  intro j
  induction j with
  |zero=>
   intro i q hi hq;obtain⟨q,rfl⟩:∃q',q=q'+1:=⟨q-1,F0⟩;rw[Nr,Zl,B! F2];rfl
  |succ j ih=>
   intro i q hi hq;obtain⟨q,rfl⟩:∃q',q=q'+1:=⟨q-1,F0⟩;have hlt:i<l.length:=F0
   rw[Nr,Zl,CD F2,Cj hlt,Aa,Alu (hv _ (S6 hlt)),Aa,LD,Ahv,B! F3,Ail,Aho,
    show Ae (i:Int) 1=((i+1:Nat):Int) by rw[show(1:Int)=((1:Nat):Int)from rfl,Ag];omega]
   exact ih (i+1) q F0 F0
 rw[Zm,QO,B! PO];exact loop l.length 0 As F0 F8
def U0:Ud:=⟨[],[],[],0,0,0,0,0,[],0,false,0⟩
theorem At8{o:LB}(ho:o.length<=64){L:Nat}(hL:L<=12100):OkU o L U0:= .live (by simpa using hL) (Bh.new ho)
theorem Aj5{o inp:LB}{l:List vE}(ho:o.length<=64)(hin:inp.length<=12100)(hl:l.length<=200)(hv:∀st∈l,VS3 st):
  ∃(es:LI) (U:Ud) (inp':LB) (ds:List Sad) (t:Nat),R6 o l inp U0=some (es,U,inp')/\OkU o inp'.length U/\t<=U.X.length/\SRs l es ds/\outs ds=U.X.take t/\
   NA o inp l=some (o,U.p,U.f,U.c,U.w,U.r,U.n,U.g,U.a,U.X.drop t,U.u,U.v,ds,0)/\fX l 0 0 [] t U.X:=by
 obtain⟨es,U,inp',ds,t,h1,h2,h3,h4,h5,h6,h7⟩:=sQ ho hl (λst h=>(hv st h).1) l.length 0 0 As U0 inp [] F0 F8 hin (At8 ho hin) (N! _) CH;rw[Ys]at h1 h4;refine⟨es,U,inp',ds,t,h1,h2,h3,h4,by simpa [U0]using h5,?_,h7⟩;rw[NA,LO,mJ hl hv,Aa,B! F3,OS,B! PO,Aa];simp only;rw[B! F3];exact h6
theorem SRs.len{l:List vE}{es:LI}{ds:List Sad}(h:SRs l es ds):es.length=l.length/\ds.length=l.length:=by
 induction h with
 |nil=>exact⟨rfl,rfl⟩
 |cons _ _ ih=>exact⟨by simp[ih.1],by simp[ih.2]⟩
theorem SRs.at{l:List vE}{es:LI}{ds:List Sad}(h:SRs l es ds):∀(i:Nat) (h1:i<ds.length) (h2:i<es.length),ds[i].1=es[i]:=by
 induction h with
 |nil=>intro i h1;simp at h1
 |cons hd _ ih=>
  intro i h1 h2;cases i with
  |zero=>exact hd.1
  |succ i=>exact ih i (by simpa using h1) (by simpa using h2)
theorem Aki(i:Nat)(h:i<=100000):Ae (i:Int) 1=((i+1:Nat):Int):=by rw[show(1:Int)=((1:Nat):Int)from rfl,Ag];omega
theorem Ana:Um=some true:=by kernel_rfl
theorem P? (a b:List Sad):outs (a++b)=outs a++outs b:=by simp[outs]
theorem Avt(ds:List Sad)(hd:ds.length<=200)(ho:(outs ds).length<=20000):∀(j i q:Nat),i+j=ds.length->j<q->Nt ds q (i:Int) (outs (ds.take i))=some (outs ds)
 |j,i,0,_,hq=>absurd hq (T6 _)
 |0,i,q+1,hi,hq=>by
  rw[Nt,Zq,B! F2,KX,Ahq,TM F0]
 |j+1,i,q+1,hi,hq=>by
  have hlt:i<ds.length:=F0
  have e1:ds.take (i+1)=ds.take i++[ds[i]]:=(List.take_append_getElem hlt).symm;have e2:outs (ds.take (i+1))=outs (ds.take i)++ds[i].2.1:=by rw[e1,P?];simp[outs]
  have e3:outs ds=outs (ds.take (i+1))++outs (ds.drop (i+1)):=by rw[<-P?,X6]
  have e4:(outs (ds.take i)).length+ds[i].2.1.length<=20000:=by
   have:=congrArg List.length e3;rw[D!,e2,D!]at this;omega
  rw[Nt,Zq,CD F2,Cj hlt,Aa,Bi,Aa,<-e2,Aki i F0];exact Avt ds hd ho j (i+1) q F0 F0
theorem Alh{ds:List Sad}(hd:ds.length<=200)(ho:(outs ds).length<=20000):Ay ds=some (outs ds):=Avt ds hd ho ds.length 0 As F0 F8
def WK(L:Nat):List vE->Nat->Nat×Bool
 |[],n=>(n,false)
 |st::l,n=>if st.1=3 then(n,true)else if st.1=1 then WK L l (n+min st.2.1.toNat (L-n))else WK L l n
theorem sA{o:LB}(ho:o.length<=64):∀{l:List vE} {inp:LB} {s X:LB} {u:Bool} {v k:Int} {es:LI} {U':Ud} {inp':LB},X.length<=12000->ku u v k-> (∀st∈l,VS st)->R6 o l inp ⟨s,X,[],0,0,0,0,0,[],0,u,v⟩=some (es,U',inp')->
  ∃s',U'=⟨s',X,[],0,0,0,0,0,[],0,u,v⟩
 |[],inp,s,X,u,v,k,es,U',inp',hx,hk,hv,h=>by
  cases h;exact⟨s,rfl⟩
 |st::l,inp,s,X,u,v,k,es,U',inp',hx,hk,hv,h=>by
  rw[R6]at h;obtain⟨⟨e,U1,i1⟩,h1,h⟩:=Tl h;obtain⟨⟨es1,U2,i2⟩,h2,h⟩:=Tl h;simp only[DV,G_]at h;obtain⟨-,rfl, -⟩:=h;have hv':∀st∈l,VS st:=λx hx=>hv x (RK _ hx);rw[Y5]at h1;split at h1
  ·rw[ni]at h1;simp only at h1;rw[(ZM ho hx hk).2.1]at h1;cases h1;exact sA ho hx hk hv' h2
  ·split at h1
   ·cases h1;exact sA ho hx hk hv' h2
   ·rw[Z5]at h1;simp only at h1;rw[(ZM ho hx hk).2.2]at h1;cases h1;exact sA ho hx hk hv' h2
theorem P3{o:LB}(ho:o.length<=64){inp:LB}(hin:inp.length<=12100):∀{l:List vE} {n:Nat} {p:LB} {f c w r m:Int} {g:LI} {a:Int} {X:LB} {e:Int} {es:LI} {U':Ud} {inp':LB},n<=inp.length->Bh o (inp.take n) p f c w r m g a X e-> (∀st∈l,VS st)->
  R6 o l (inp.drop n) ⟨inp.take n,X,p,f,c,w,r,m,g,a,false,e⟩=some (es,U',inp')->
  ((WK inp.length l n).2=false/\Bh o (inp.take (WK inp.length l n).1) U'.p U'.f U'.c U'.w U'.r U'.n U'.g U'.a U'.X U'.v/\U'.u=false)\/
  ((WK inp.length l n).2=true/\∃(p:LB) (f c w r m:Int) (g:LI) (a:Int) (X:LB) (e k:Int),Bh o (inp.take (WK inp.length l n).1) p f c w r m g a X e/\Dx o p f c w r m g a X false e=some (o,U'.p,U'.f,U'.c,U'.w,U'.r,U'.n,U'.g,U'.a,U'.X,U'.u,U'.v,k))
 |[],n,p,f,c,w,r,m,g,a,X,e,es,U',inp',hn,hB,hv,h=>by
  cases h;exact .inl ⟨rfl,hB,rfl⟩
 |st::l,n,p,f,c,w,r,m,g,a,X,e,es,U',inp',hn,hB,hv,h=>by
  rw[R6]at h;obtain⟨⟨e1,U1,i1⟩,h1,h⟩:=Tl h;obtain⟨⟨es1,U2,i2⟩,h2,h⟩:=Tl h;simp only[DV,G_]at h;obtain⟨-,rfl, -⟩:=h;have hv':∀st∈l,VS st:=λx hx=>hv x (RK _ hx);have hsz:=hB.xX;have hop:=(hv st (.head _)).1;have htl:(inp.take n).length=n:=by rw[JW];omega
  rw[WK];rw[Y5]at h1;by_cases h3:st.1=1
  ·rw[CD h3]at h1;rw[B! (by rw[h3];decide),CD h3];have hl:(inp.drop n).length=inp.length-n:=Q!;have e5:inp.take n++(inp.drop n).take (min st.2.1.toNat (inp.length-n))=inp.take (n+min st.2.1.toNat (inp.length-n)):=by rw[iT]
   obtain⟨p2,f2,c2,w2,r2,n2,g2,a2,x2,e2,d1,_,d3⟩:=hB.feed ho F0 ((inp.drop n).take (min st.2.1.toNat (inp.length-n))) VZ (by rw[e5,JW];omega);rw[e5]at d3;rw[hl,ni]at h1;simp only at h1;rw[d1,Aa,Aa]at h1;simp only[DV,G_]at h1;obtain⟨-,rfl,rfl⟩:=h1;simp only[Yi]at h2;rw[e5]at h2;exact P3 ho hin F0 d3 hv' h2
  ·rw[B! h3]at h1;by_cases h4:st.1=2
   ·rw[CD h4]at h1;rw[B! (by rw[h4];decide),B! h3];cases h1;exact P3 ho hin hn hB hv' h2
   ·rw[B! h4]at h1;have h5:st.1=3:=by rcases hop with h|h|h;exact absurd h h3;exact absurd h h4;exact h
    rw[CD h5];obtain⟨u,v,k,q1,q2⟩:=hB.finish ho F0;rw[Z5]at h1;simp only at h1;rw[q1,Aa,Aa]at h1;simp only[DV,G_]at h1;obtain⟨-,rfl,rfl⟩:=h1;refine .inr ⟨rfl,p,f,c,w,r,m,g,a,X,e,k,hB,?_⟩;have hk:∃k',ku u v k':=by
     rcases q2 with⟨k1,k2,k3,k4,_⟩|⟨k1,k2,_⟩
     ·exact⟨k, .inl ⟨k1,k2,k3,k4⟩⟩
     ·exact⟨36, .inr ⟨k1,k2,rfl⟩⟩
    obtain⟨k',hk⟩:=hk;obtain⟨s',rfl⟩:=sA ho hsz.2.2 hk hv' h2;exact q1
theorem wP{t z:LB}{i:Nat}(h:i<t.length):Rp (t++z) i=Rp t i:=by
 rw[Rp,Rp,J3,J3,RM h]
theorem nX(t:LB)(a i:Nat):Rp (t.drop a) i=Rp t (a+i):=by
 rw[Rp,Rp,J3,J3,W6]
theorem Aqd{w:Nat}(hw:Cb (w:Int)){t z:LB}{a:Nat}(h:a+wB (w:Int)<=t.length):sx (wB (w:Int)) (t++z) a=sx (wB (w:Int)) t a:=by
 rcases hw with hw|hw|hw
 ·rw[hw]at h⊢;have e:wB 8=1:=rfl;rw[e]at h⊢;rw[sx,sx,CD rfl,CD rfl,wP F0]
 ·rw[hw]at h⊢;have e:wB 16=2:=rfl;rw[e]at h⊢;rw[sx2,sx2,wP F0,wP F0]
 ·rw[hw]at h⊢;have e:wB 24=3:=rfl;rw[e]at h⊢;rw[sx3,sx3,wP F0,wP F0,wP F0]
theorem Aoo{w:Nat}(hw:Cb (w:Int))(t:LB)(a b:Nat):sx (wB (w:Int)) (t.drop a) b=sx (wB (w:Int)) t (a+b):=by
 rcases hw with hw|hw|hw
 ·rw[hw,show wB 8=1 from rfl,sx,sx,CD rfl,CD rfl,nX]
 ·rw[hw,show wB 16=2 from rfl,sx2,sx2,nX,nX];rfl
 ·rw[hw,show wB 24=3 from rfl,sx3,sx3,nX,nX,nX];rfl
theorem rK{w:Nat}(hw:Cb (w:Int)){t z:LB}{m:Nat}(h:m*wB (w:Int)<=t.length):oK (wB (w:Int)) m (t++z)=oK (wB (w:Int)) m t:=by
 rw[oK,oK];apply YQ;intro x hx;have hx:=List.mem_range.1 hx;have h2:(x+1)*wB (w:Int)<=m*wB (w:Int):=J? _ hx;rw[H9,SA]at h2;rw[Aqd hw F0]
theorem Anj{w:Nat}(hw:Cb (w:Int))(t:LB)(m j:Nat):oK (wB (w:Int)) (m+j) t=oK (wB (w:Int)) m t++oK (wB (w:Int)) j (t.drop (m*wB (w:Int))):=by
 rw[oK,oK,oK,List.range_add,WN,iN];congr 1;apply YQ;intro x hx
 show Int32.ofInt (sx (wB (w:Int)) t ((m+x)*wB (w:Int)))=_;rw[Aoo hw,H9]
theorem Aqt{w:Nat}(hw:Cb (w:Int))(t:LB)(a:Nat): -(hB (w:Int))<=sx (wB (w:Int)) t a/\sx (wB (w:Int)) t a<hB (w:Int):=by
 have b0:=uO t a;have b1:=uO t (a+1);have b2:=uO t (a+2);rcases hw with hw|hw|hw
 ·rw[hw,show wB 8=1 from rfl,show hB 8=128 from rfl,sx,CD rfl];omega
 ·rw[hw,show wB 16=2 from rfl,show hB 16=32768 from rfl,sx2];split<;>omega
 ·rw[hw,show wB 24=3 from rfl,show hB 24=8388608 from rfl,sx3];split<;>omega
theorem qY{w:Nat}(hw:Cb (w:Int))(m:Nat)(t:LB):inR (w:Int) (oK (wB (w:Int)) m t):=by
 intro x hx;rw[oK,iR]at hx;obtain⟨k,_,rfl⟩:=hx;have h:=Aqt hw t (k*wB (w:Int));have hh:=dI (w:Int);rw[lS F0 F0];exact h
theorem nK(c L:Nat):∀(k:Nat) (x y:LX),k*(L*c)<=x.length->Ia c (x++y) (List.replicate k (L:Int))=Ia c x (List.replicate k (L:Int))
 |0,x,y,_=>rfl
 |k+1,x,y,h=>by
  rw[H9,SA]at h;rw[VB,Ia,Ia,O1,aM F0,W! F0,nK c L k _ y TW]
theorem vO(c:Nat):∀(l m:LI) (x:LX),(∀z∈l,0<=z)->Ia c x (l++m)=Ia c x l++Ia c (x.drop (l.sum.toNat*c)) m
 |[],m,x,_=>by simp[Ia]
 |z::l,m,x,h=>by
  have hz:=h z TR;have hl:0<=l.sum:=zm λy hy=>h y (RK _ hy);rw[VC,Ia,Ia,vO c l m _ (λy hy=>h y (RK _ hy)),VC,Yi,RV,show(z+l.sum).toNat=z.toNat+l.sum.toNat by omega,H9]
theorem uB(k L:Nat):∀z∈List.replicate k (L:Int),0<=z:=λz hz=>by rw[(List.mem_replicate.1 hz).2];omega
theorem Q6(k L c:Nat):(List.replicate k (L:Int)).sum.toNat*c=k*(L*c):=by rw[qb,O1,RT]
theorem Aax(c L k:Nat)(x:LX)(h:x.length=(k+1)*(L*c)):Ia c x (List.replicate (k+1) (L:Int))=Ia c x (List.replicate k (L:Int))++[x.drop (k*(L*c))]:=by
 rw[List.replicate_succ',vO c _ _ _ (uB k L),Q6,Ia,Ia,O1,TM (by rw[Q!,h,H9];omega)]
theorem Y9{p:Prop}(h:p:=by rw[H9,SA];omega):p:=h
structure EncOk (c w r:Nat) (p:LB):Prop where
 ch:1<=c/\c<=6
 bits:Cb (w:Int)
 rate:1<=r/\r<=1048576
 pass:p.length<=64
def qG(c w:Nat):Nat:=c*wB (w:Int)
def nE(c w:Nat)(t:LB):Nat:=t.length/qG c w
def XE(c w:Nat)(t:LB):LX:=oK (wB (w:Int)) (nE c w t*c) t
def RE(c w:Nat)(t:LB):LB:=t.drop (nE c w t*qG c w)
def kE(c w r:Nat)(t:LB):Nat:=nE c w t/Al r
def SE(c w r:Nat)(t:LB):LX:=(XE c w t).drop (kE c w r t*(Al r*c))
def FE(c w r:Nat)(p t:LB):List LB:=(Ia c (XE c w t) (List.replicate (kE c w r t) (Al r:Int))).map (LG (w:Int) c (Qw p))
def Tk(c r n:Nat):Prop:=n*c<=4000/\ (n=0\/ (n-1)/Al r+1<=1000)
instance(c r n:Nat):Decidable (Tk c r n):=by unfold Tk;exact inferInstance
theorem Tk.mono{c r n m:Nat}(h:Tk c r n)(hm:m<=n):Tk c r m:=by
 obtain⟨h1,h2⟩:=h;have h3:=J? c hm;have h4:(m-1)/Al r<= (n-1)/Al r:=oJ F0;refine⟨F0,?_⟩;omega
section
variable {c w r:Nat} {p:LB} (h:EncOk c w r p) (t:LB)
include h
theorem rF:1<=qG c w/\qG c w<=18:=by
 have h1:=E7 (w:Int);have h2:=h.ch;have h3:=XD (show 0<c by omega) (show 0<wB (w:Int) by omega);have h4:c*wB (w:Int)<=6*3:=S! h2.2 h1.2;unfold qG;omega
theorem rO:GN (c:Int) (w:Int)=some (qG c w:Int):=by
 have h2:=h.ch;have hw3:w=8\/w=16\/w=24:=by have:=h.bits;unfold Cb at this;omega
 rcases hw3 with rfl|rfl|rfl
 ·show some (Ci (Br (c:Int) (8:Int)) 8)=_;rw[Fg,show(c:Int)*8=((c*8:Nat):Int) by omega,show(8:Int)=((8:Nat):Int)from rfl,WA,qG,show wB ((8:Nat):Int)=1 from rfl];congr 2;omega
 ·show some (Ci (Br (c:Int) (16:Int)) 8)=_;rw[Fg,show(c:Int)*16=((c*16:Nat):Int) by omega,show(8:Int)=((8:Nat):Int)from rfl,WA,qG,show wB ((16:Nat):Int)=2 from rfl];congr 2;omega
 ·show some (Ci (Br (c:Int) (24:Int)) 8)=_;rw[Fg,show(c:Int)*24=((c*24:Nat):Int) by omega,show(8:Int)=((8:Nat):Int)from rfl,WA,qG,show wB ((24:Nat):Int)=3 from rfl];congr 2;omega
theorem H0:t.length=nE c w t*qG c w+(RE c w t).length/\ (RE c w t).length<qG c w:=by
 have hs:=rF h;have h1:=Y2 t.length (qG c w);have h2:=RW t.length (show 0<qG c w by omega);rw[Q2]at h1;have e:(RE c w t).length=t.length-nE c w t*qG c w:=by rw[RE,Q!]
 have e2:nE c w t*qG c w=t.length/qG c w*qG c w:=rfl;omega
omit h in
theorem lN:(XE c w t).length=nE c w t*c:=B5 _ _ _
theorem yu:inR (w:Int) (XE c w t):=qY h.bits _ _
theorem Y0:nE c w t=kE c w r t*Al r+nE c w t %Al r/\nE c w t %Al r<Al r:=by
 have _:=h;have hp:=Iw r;have h1:=Y2 (nE c w t) (Al r);rw[Q2]at h1;exact⟨h1.symm,RW _ F0⟩
theorem kQ:(SE c w r t).length=nE c w t %Al r*c:=by
 have h1:=(Y0 h t).1;rw[SE,Q!,lN]
 conv=>lhs;rw[h1]
 rw[H9,<-RT,aK]
omit h in
theorem wA:(FE c w r p t).length=kE c w r t:=by rw[FE,iL,fM,T_]
theorem yE(b:UInt8)(hl:(RE c w t).length+1<qG c w):nE c w (t++[b])=nE c w t/\XE c w (t++[b])=XE c w t/\RE c w (t++[b])=RE c w t++[b]:=by
 have h1:=H0 h t;have hs:=rF h;have hn:nE c w (t++[b])=nE c w t:=by
  rw[nE,D!,WM];exact XN F0 Y9
 refine⟨hn,?_,?_⟩
 ·rw[XE,hn,XE];exact rK h.bits (by
   have e:nE c w t*c*wB (w:Int)=nE c w t*qG c w:=by rw[qG,RT]
   rw[e];omega)
 ·rw[RE,hn,RE,W! F0]
theorem yD(b:UInt8)(hl:¬(RE c w t).length+1<qG c w):(RE c w t).length+1=qG c w/\nE c w (t++[b])=nE c w t+1/\XE c w (t++[b])=XE c w t++oK (wB (w:Int)) c (RE c w t++[b])/\RE c w (t++[b])=[]:=by
 have h1:=H0 h t;have hs:=rF h;have hn:nE c w (t++[b])=nE c w t+1:=by
  rw[nE,D!,WM];exact XN Y9 (by rw[H9,H9,SA];omega)
 have e:nE c w t*c*wB (w:Int)=nE c w t*qG c w:=by rw[qG,RT]
 refine⟨F0,hn,?_,?_⟩
 ·rw[XE,hn,H9,SA,Anj h.bits,rK h.bits (by rw[e];omega),e,W! F0];rfl
 ·rw[RE,hn,XQ];rw[D!,WM,H9,SA];omega
theorem qg:kE c w r t*(Al r*c)<= (XE c w t).length:=by
 have h1:=(Y0 h t).1;rw[lN]
 conv=>rhs;rw[h1]
 rw[H9,<-RT];omega
theorem As0(hl:(RE c w t).length+1<qG c w):kE c w r (t++[b])=kE c w r t/\SE c w r (t++[b])=SE c w r t/\FE c w r p (t++[b])=FE c w r p t:=by
 obtain⟨h1,h2,h3⟩:=yE h t b hl;have hk:kE c w r (t++[b])=kE c w r t:=by rw[kE,h1,kE]
 exact⟨hk,by rw[SE,hk,h2,SE],by rw[FE,hk,h2,FE]⟩
theorem Atw(hl:¬(RE c w t).length+1<qG c w):
  ((SE c w r t++oK (wB (w:Int)) c (RE c w t++[b])).length<Al r*c->kE c w r (t++[b])=kE c w r t/\SE c w r (t++[b])=SE c w r t++oK (wB (w:Int)) c (RE c w t++[b])/\FE c w r p (t++[b])=FE c w r p t)/\
  (¬(SE c w r t++oK (wB (w:Int)) c (RE c w t++[b])).length<Al r*c-> (SE c w r t++oK (wB (w:Int)) c (RE c w t++[b])).length=Al r*c/\kE c w r (t++[b])=kE c w r t+1/\SE c w r (t++[b])=[]/\FE c w r p (t++[b])=FE c w r p t++[LG (w:Int) c (Qw p) (SE c w r t++oK (wB (w:Int)) c (RE c w t++[b]))]):=by
 obtain⟨_,h1,h2,h3⟩:=yD h t b hl;obtain⟨d1,d2⟩:=Y0 h t;have hsl:=kQ h t;have hc:=h.ch;have hp:=Iw r;have hdk:=qg h t;have hlen:(SE c w r t++oK (wB (w:Int)) c (RE c w t++[b])).length=(nE c w t %Al r+1)*c:=by rw[D!,hsl,B5,H9,SA]
 rw[hlen];constructor
 ·intro hlt;have hlt2:nE c w t %Al r+1<Al r:=Nat.lt_of_mul_lt_mul_right hlt;have hk:kE c w r (t++[b])=kE c w r t:=by
   rw[kE,h1];exact XN F0 Y9
  refine⟨hk,?_,?_⟩
  ·rw[SE,hk,h2,W! hdk,SE]
  ·rw[FE,hk,h2,nK c (Al r) _ _ _ hdk,FE]
 ·intro hge;have Ayc:Al r<=nE c w t %Al r+1:=by
   refine Nat.le_of_not_lt λhh=>hge ?_;exact ny hh hc.1
  have heq:nE c w t %Al r+1=Al r:=F0
  have hk:kE c w r (t++[b])=kE c w r t+1:=by
   rw[kE,h1];exact XN Y9 (by rw[H9,H9,SA];omega)
  have hXl:(XE c w (t++[b])).length=(kE c w r t+1)*(Al r*c):=by
   rw[lN,h1,<-RT];congr 1;rw[H9,SA];omega
  refine⟨by rw[heq],hk,?_,?_⟩
  ·rw[SE,hk,<-hXl,VM]
  ·rw[FE,hk,Aax c (Al r) _ _ hXl,WN,h2,nK c (Al r) _ _ _ hdk,W! hdk,FE];rfl
theorem jr(hR:Tk c r (nE c w t)):∀f∈FE c w r p t,5<=f.length/\f.length<= (81*(Al r*c)+7)/8+4:=by
 intro f hf;obtain⟨y,hy,rfl⟩:=List.mem_map.1 hf;have hx:(XE c w t).take (kE c w r t*(Al r*c))++(XE c w t).drop (kE c w r t*(Al r*c))=XE c w t:=X6 _ _;have hdk:=qg h t;have hpr:=nK c (Al r) (kE c w r t) ((XE c w t).take (kE c w r t*(Al r*c))) ((XE c w t).drop (kE c w r t*(Al r*c))) VZ;rw[hx]at hpr;rw[hpr]at hy;have hp:=Iw r;obtain⟨k,hk,hk2⟩:=oL hy;have hl1:∀z∈List.replicate (kE c w r t) (Al r:Int),1<=z:=λz hz=>by rw[(List.mem_replicate.1 hz).2];omega
 have hlx:((XE c w t).take (kE c w r t*(Al r*c))).length=(List.replicate (kE c w r t) (Al r:Int)).sum.toNat*c:=by rw[Q6,JW];omega
 have hg:=K6 c h.ch.1 _ _ hl1 hlx k (by rw[fM]at hk;exact hk) hk;rw[hk2,List.getElem_replicate,O1]at hg;obtain⟨a1,a2,_,_⟩:=qH c h.ch.1 _ _ hl1 hlx y hy;have hle:y.length<=4000:=by
  have:=hR.1;have h2:((XE c w t).take (kE c w r t*(Al r*c))).length<= (XE c w t).length:=by rw[JW];omega
  rw[lN]at h2;omega
 have h5:=H! (w:Int) c (Qw p) y a1 hle;have he:=aT c (Rg (w:Int) c (Qw p) y) y.length;refine⟨h5.1,?_⟩;rw[LG,D!,El,O!,Yz,<-hg];omega
omit h in
theorem Aoz(b:List LB)(f a M:Int)(hM:Ae (Ci (Ae (Br (Br 81 f) a) 7) 8) 4=M)(hb:b.length<=100000)(hm:∀y∈b,5<=y.length/\ (y.length:Int)<=M):∀(j i q:Nat),i+j=b.length->j<q->Ka b f a q (i:Int)=some true
 |j,i,0,_,h=>absurd h (T6 _)
 |0,i,q+1,hi,_=>by
  rw[Ka,Rl,B! F2];rfl
 |j+1,i,q+1,hi,hq=>by
  have ih:=Aoz b f a M hM hb hm j (i+1) q F0 F0;have hy:=hm b[i] (S6 _);have hi1:Ae (i:Int) 1=((i+1:Nat):Int):=by rw[Ag];omega
  rw[Ka,Rl,CD F2,Cj,Aa,AJ,Ab9,hM,B! (by simp[Af,Au,Ac];omega),Aas,Aaz,hi1];exact ih
theorem wD:CA (c:Int) (w:Int) (r:Int) p=some ((Al r:Int),true):=by
 have hp:=h.pass;rw[CA,aI h.rate.1 h.rate.2,Aa];simp only;rw[vF h.bits h.ch.1 h.ch.2,Aa];simp[Ax,KO,Ac];omega
theorem xC(hR:Tk c r (nE c w t))(p' m' n':LB)(u:Bool)(v k o:Int):Vf (c:Int) k o p' m' (SE c w r t) (FE c w r p t) n' u v (Al r:Int)=some (nE c w t:Int):=by
 have hc:=h.ch;obtain⟨d1,d2⟩:=Y0 h t;have hsl:=kQ h t;have hlt:=OG h.rate.2;have hn:nE c w t<=4000:=by
  have:=hR.1;have:nE c w t*1<=nE c w t*c:=X8 _ hc.1;omega
 have e1:Br (Ac (FE c w r p t)) (Al r:Int)=((kE c w r t*Al r:Nat):Int):=by
  rw[Ac,wA,Fg U7 U7,<-TX]
 have e2:Ci (Ac (SE c w r t)) (c:Int)=((nE c w t %Al r:Nat):Int):=by
  rw[Ac,hsl,WA (by
   have:nE c w t %Al r*c<=nE c w t*c:=J? _ (VV _ _);have:=hR.1;omega),oD _ F0]
 rw[Vf,Bq RL,Aa,e1,e2,Ag];congr 1;omega
theorem Aey(hR:Tk c r (nE c w t)):Nj (c:Int) (w:Int) (r:Int) p (RE c w t) (SE c w r t) (FE c w r p t) [] false 0=some 0:=by
 have hc:=h.ch;have hw:=h.bits;obtain⟨d1,d2⟩:=Y0 h t;have hsl:=kQ h t;have htl:=H0 h t;have hlt:=OG h.rate.2;have hp:=Iw r;have hfl:=wA (c:=c) (w:=w) (r:=r) (p:=p) t;have hn4:=hR.1;have hmod:nE c w t %Al r*c<=nE c w t*c:=J? _ (VV _ _);have hn:nE c w t<=4000:=by
  have:nE c w t*1<=nE c w t*c:=X8 _ hc.1;omega
 have hfr:kE c w r t+(if 0<nE c w t %Al r then 1 else 0)<=1000:=by
  rcases hR.2 with h0|h0
  ·have:kE c w r t=0:=by rw[kE,h0];exact eU _
   rw[h0,Nat.zero_mod,this];decide
  ·generalize hq:Al r=L at*
   have hk:kE c w r t=nE c w t/L:=by rw[kE,hq]
   by_cases hz:0<nE c w t %L
   ·rw[CD hz];have:(nE c w t-1)/L=kE c w r t:=XN F0 Y9;omega
   ·rw[B! hz];by_cases hk0:kE c w r t=0
    ·omega
    ·obtain⟨k',hk'⟩:∃k',kE c w r t=k'+1:=⟨kE c w r t-1,F0⟩;rw[hk',H9,SA]at d1;have:(nE c w t-1)/L=k':=XN F0 Y9;omega
 have hcnt:=xC h t hR p (RE c w t) [] false 0 (w:Int) (r:Int);have hin:inR (w:Int) (SE c w r t):=λv hv=>yu h t v (a_ hv);have hwc:Tn (w:Int) (SE c w r t)=some 0:=by rw[eX hw _ F0,Amc hw F0 hin]
 have hroom:∀k:Int,k<=1000->Uq (c:Int) (w:Int) (r:Int) p (RE c w t) (SE c w r t) (FE c w r p t) [] false 0 k (nE c w t:Int)=some true:=by
  intro k hk;rw[Uq,Fg U7 U7,<-TX];simp[KO];omega
 have hLc:Al r*c<=1100000*6:=S! F0 hc.2;have hM:Ae (Ci (Ae (Br (Br 81 (Al r:Int)) (c:Int)) 7) 8) 4=(((81*(Al r*c)+7)/8+4:Nat):Int):=by
  have e1:Br 81 (Al r:Int)=((81*Al r:Nat):Int):=by rw[Fg];omega
  have e2:Br ((81*Al r:Nat):Int) (c:Int)=((81*(Al r*c):Nat):Int):=by
   rw[Fg (by rw[<-TX,RT];omega) (by rw[<-TX,RT];omega),<-TX,RT]
  rw[e1,e2,Ag (a:=((81*(Al r*c):Nat):Int)) (b:=7) F0 F0,show((81*(Al r*c):Nat):Int)+7=((81*(Al r*c)+7:Nat):Int) by omega,show(8:Int)=((8:Nat):Int)from rfl,WA,Ag];omega
 have hloop:=Aoz (FE c w r p t) (Al r:Int) (c:Int) _ hM F0 (λy hy=>by
  have:=jr h t hR y hy;omega) (FE c w r p t).length 0 As F0 F8
 have Auw:CT (c:Int) (w:Int) (r:Int) p (RE c w t) (SE c w r t) (FE c w r p t) [] false 0 (Al r:Int)=some true:=by
  have Awa:Ci (Ac (SE c w r t)) (c:Int)=((nE c w t %Al r:Nat):Int):=by
   rw[Ac,hsl,WA,oD _ F0]
  have Awb:Hl (Ac (SE c w r t)) (c:Int)=0:=by rw[Ac,hsl,PX,V3];rfl
  have hkk:kE c w r t<=1000:=by split at hfr<;>omega
  rw[CT,DJ,B! F3,rO h,Aa,B! (by rw[Dq,Ac];simp;omega),Bq RL,Aa,Awb,B! F3,Aa,Awa,B! (by simp[Dq,Au,Ac,hfl];omega),AO,AW,hwc,Aa,B! F3];by_cases hz:0<nE c w t %Al r
  ·rw[CD hz]at hfr;have hpos:=XD hz (show 0<c by omega);rw[CD PO,AQ,Ri,hcnt,Aa,Ac,hfl,Ag,hroom _ F0,Aa,B! F3,BJ,Rh,AL];exact hloop
  ·have h0:nE c w t %Al r=0:=F0
   rw[h0,Yv]at hsl;rw[B! (by rw[Au,Ac];simp only[E3];omega),AQ,Ri,hcnt,Aa,Ac,hfl,hroom _ F0,Aa,B! F3,BJ,Rh,AL];exact hloop
 rw[Nj,wD h,Aa];simp only;rw[B! F3,B! F3,B! F3,Auw,Aa,B! F3]
end
theorem Ar6(a:List LB)(ha:∀y∈a,y.length<=17179869184)(w:List LB)(hw:w.length=a.length)(ha2:a.length<=100000)(b f g:Int)(h:LB)(k:Bool)(m:Int)(n:LB)(o:LX)(p:LB):∀(j i q:Nat),i+j=a.length->j<q->Qb w a b f g h k m n o p q (i:Int) a=some (b,f,g,h,n,o,a,p,k,m)
 |j,i,0,_,h=>absurd h (T6 _)
 |0,i,q+1,hi,_=>by
  have hc:PM w a=a:=by rw[PM,hw,US,XQ F0,R2]
  rw[Qb,DA,hc,B! F2];rfl
 |j+1,i,q+1,hi,hq=>by
  have ih:=Ar6 a ha w hw ha2 b f g h k m n o p j (i+1) q F0 F0;have hc:PM w a=a:=by rw[PM,hw,US,XQ F0,R2]
  have hi1:Ae (i:Int) 1=((i+1:Nat):Int):=by rw[Ag];omega
  have hy:=ha a[i] (S6 _);rw[Qb,DA,hc,CD F2,Cj,Aa,Aa,Bm,Bi (by simpa using hy),Aa,Aa,Aa,RI,Uh _ F0,Aa,List.set_getElem_self,hi1];exact ih
theorem P0{a:List LB}(ha:∀y∈a,y.length<=17179869184)(ha2:a.length<=100000)(b f g:Int)(h:LB){x:LB}{s:LX}{z:LB}(hx:x.length<=17179869184)(hs:s.length<=17179869184)(hz:z.length<=17179869184)(k:Bool)(m:Int):HZ b f g h x s a z k m=some (b,f,g,h,x,s,a,z,k,m):=by
 have hl:=Ar6 a ha (List.replicate a.length []) (by rw[T_]) ha2 b f g h k m x s z a.length 0 As F0 F8;have hc:PM (List.replicate a.length []) a=a:=by rw[PM,T_,US,XQ (by rw[T_];omega),R2]
 rw[HZ,QB,Bm,Bi (by simpa using hx),Aa,Aa,Dd,Bi (by simpa using hs),Aa,Aa,Bm,Bi (by simpa using hz),Aa,Aa,Ajv,QM,pW V! V!,Aa,Bq Y8,Aa];simp only[RI,Ac,O1,hc];exact hl
section
variable {c w r:Nat} {p:LB} (h:EncOk c w r p)
include h
theorem Ad1(t:LB)(hR:Tk c r (nE c w t)):Qz (c:Int) (w:Int) (r:Int) p (RE c w t) (SE c w r t) (FE c w r p t) [] false 0=some ((c:Int),(w:Int),(r:Int),p,RE c w t,SE c w r t,FE c w r p t,[],false,0,(Al r:Int),0):=by
 have h1:=H0 h t;have hs:=rF h;have hsl:=kQ h t;have hfl:=wA (c:=c) (w:=w) (r:=r) (p:=p) t;have hn4:=hR.1;have hmod:nE c w t %Al r*c<=nE c w t*c:=J? _ (VV _ _);have hn:nE c w t<=4000:=by
  have:nE c w t*1<=nE c w t*c:=X8 _ h.ch.1;omega
 have hk:kE c w r t<=nE c w t:=RS _ _;have hlt:=OG h.rate.2;have hLc:Al r*c<=1100000*6:=S! F0 h.ch.2;have htw:=P0 (a:=FE c w r p t) (λy hy=>by have:=jr h t hR y hy;omega) F0 (c:Int) (w:Int) (r:Int) p (x:=RE c w t) (s:=SE c w r t) (z:=[]) F0 F0 CH false 0;rw[Qz,KY,Aey h t hR,Aa,B! F3,aI h.rate.1 h.rate.2,Aa];simp only;rw[B! F3,B! F3,Ti,Ry,htw,Aa]
abbrev Au3:=Int×Int×Int×LB×LB×LX×(List LB)×LB×Bool×Int×Int
def cP(c w r:Nat)(p t:LB):Au3:=if Tk c r (nE c w t)then((c:Int),(w:Int),(r:Int),p,RE c w t,SE c w r t,FE c w r p t,[],false,0,0)else((c:Int),(w:Int),(r:Int),p,[],[],[],[],false,18,18)
theorem As6(t b:LB)(hb:b.length<=1000000):∀(j u q:Nat) (T:LB),u+j=b.length->j<q->T=t++b.take u->Tk c r (nE c w T)->Ip (qG c w:Int) b (c:Int) (w:Int) (r:Int) p false 0 (Al r:Int) [] q (u:Int) (RE c w T) (SE c w r T) (FE c w r p T)=some (cP c w r p (t++b))
 |j,u,0,T,_,h,_,_=>absurd h (T6 _)
 |0,u,q+1,T,hu,_,hT,hR=>by
  rw[TM F0]at hT;rw[Ip,Zr,B! F2,MP,Ah8,cP,<-hT,CD hR]
 |j+1,u,q+1,T,hu,hq,hT,hR=>by
  have hc:=h.ch;have hs:=rF h;have hu1:Ae (u:Int) 1=((u+1:Nat):Int):=by rw[Ag];omega
  have hT':T++[b[u]' F0]=t++b.take (u+1):=by rw[hT,Ns F0,RD]
  have hpre:(T++[b[u]' F0]).length<= (t++b).length:=by rw[hT',D!,D!,JW];omega
  have hmono:nE c w (T++[b[u]' F0])<=nE c w (t++b):=oJ hpre;have hgd:Aj b (u:Int)=some (b[u]' F0):=Cj;generalize b[u]' F0=d at hT' hpre hmono hgd⊢;have ih:=As6 t b hb j (u+1) q (T++[d]) F0 F0 hT';have htl:=H0 h T;have hsl:=kQ h T;have hfl:=wA (c:=c) (w:=w) (r:=r) (p:=p) T;have hn4:=hR.1;have hmod:nE c w T %Al r*c<=nE c w T*c:=J? _ (VV _ _);have hn:nE c w T<=4000:=by
   have:nE c w T*1<=nE c w T*c:=X8 _ hc.1;omega
  have hk:kE c w r T<=nE c w T:=RS _ _;have hlt:=OG h.rate.2;rw[Ip,Zr,CD F2,hgd,Aa,Bi F7,Aa];by_cases hlt1:(RE c w T).length+1<qG c w
  ·obtain⟨m1,m2,m3⟩:=yE h T d hlt1;obtain⟨g1,g2,g3⟩:=As0 h T (b:=d) hlt1;rw[m1,m3,g2,g3]at ih;rw[CD (by rw[Af,Ac,D!,WM];simp;omega),Nn,Zc,hu1];exact ih hR
  ·obtain⟨m0,m1,m2,m3⟩:=yD h T d hlt1;obtain⟨g1,g2⟩:=Atw h T (b:=d) hlt1;have hcnt:=xC h T hR p (RE c w T++[d]) [] false 0 (w:Int) (r:Int);have hroom:Uq (c:Int) (w:Int) (r:Int) p (RE c w T++[d]) (SE c w r T) (FE c w r p T) [] false 0 (Ae (Ac (FE c w r p T)) 1) (Ae (nE c w T:Int) 1)=some (decide ((kE c w r T:Int)+1<=1000)&&decide ((((nE c w T+1)*c:Nat):Int)<=4000)):=by
    have hle:(nE c w T+1)*c<=4001*6:=S! F0 hc.2;rw[Uq,Ac,hfl,Ag,Ag,show(nE c w T:Int)+1=((nE c w T+1:Nat):Int) by omega,Fg U7 U7,<-TX,KO,KO]
   rw[B! (by rw[Af,Ac,D!,WM];simp;omega),hcnt,Aa,hroom,Aa];by_cases hok:kE c w r T+1<=1000/\ (nE c w T+1)*c<=4000
   ·have hR':Tk c r (nE c w (T++[d])):=by rw[m1];exact⟨hok.2, .inr (by rw[o?];exact hok.1)⟩
    have ih:=ih hR';have Awc:=Baf (RE c w T++[d]) h.bits (m:=c) (by rw[D!,WM,m0];rfl) F0;have hLc:Al r*c<=1100000*6:=S! F0 hc.2;have hmul:Br (Al r:Int) (c:Int)=((Al r*c:Nat):Int):=by rw[Fg U7 U7,<-TX]
    rw[B! (by rw[UI (show(kE c w r T:Int)+1<=1000 by omega),UI (show(((nE c w T+1)*c:Nat):Int)<=4000 by omega)];decide),LN,Ah9,Awc,Aa];simp only;rw[B! F3,Bi (by rw[B5];omega),Aa,hmul];by_cases hfull:(SE c w r T++oK (wB (w:Int)) c (RE c w T++[d])).length<Al r*c
    ·obtain⟨k1,k2,k3⟩:=g1 hfull;rw[m3,k2,k3]at ih;rw[CD (by rw[Af,Ac];simp only[E3];omega),Ix,Ze,B! F3,Nn,Zc,hu1];exact ih
    ·obtain⟨k0,k1,k2,k3⟩:=g2 hfull;rw[m3,k2,k3]at ih;have hXl:Al r*c<=4000:=by
      have e:=hR'.1;have hlen:(XE c w (T++[d])).length=nE c w (T++[d])*c:=lN (T++[d]);have hdk:=qg (r:=r) h (T++[d]);rw[k1,H9,SA]at hdk;omega
     have hin:inR (w:Int) (SE c w r T++oK (wB (w:Int)) c (RE c w T++[d])):=by
      intro v hv;rw[e?]at hv;rcases hv with hv|hv
      ·exact yu h T v (a_ hv)
      ·exact qY h.bits _ _ v hv
     have hLp:=XD (Iw r) hc.1;have henc:=Ati (t:=Qw p) (x:=SE c w r T++oK (wB (w:Int)) c (RE c w T++[d])) h.bits (Tz p) hc.1 hc.2 F0 F0 (by rw[k0];exact V3 _ _) hin;rw[B! (by rw[Af,Ac];simp only[E3];omega),nN p h.pass,Aa];simp only;rw[B! F3,henc,Aa];simp only;rw[B! F3,Bi F7,Aa,Ahn,Ahz,Ix,Ze,B! F3,Nn,Zc,hu1];exact ih
   ·have hno:¬Tk c r (nE c w (t++b)):=by
     intro hh;have:=hh.mono hmono;rw[m1]at this;obtain⟨z1,z2⟩:=this;apply hok;rw[o?]at z2;have hkE:kE c w r T=nE c w T/Al r:=rfl;omega
    rw[CD (by
     rw[S4,Bool.and_eq_false_iff,W5,W5];omega),Ix,Ze,CD F3,Ul,Aa,cP,B! hno]
theorem Alr(t b:LB)(hb:b.length<=1000000)(hR:Tk c r (nE c w t)):Ey (c:Int) (w:Int) (r:Int) p (RE c w t) (SE c w r t) (FE c w r p t) [] false 0 b=some (cP c w r p (t++b)):=by
 have hl:=As6 h t b hb b.length 0 As t F0 F8 CH hR;rw[Ey,DC,Ad1 h t hR,Aa];simp only;rw[B! F3,rO h,Aa,Ahs];exact hl
theorem su:FF (c:Int) (w:Int) (r:Int) p=some ((c:Int),(w:Int),(r:Int),p,RE c w [],SE c w r [],FE c w r p [],[],false,0,0):=by
 have h0:nE c w []=0:=eU _;have hk:kE c w r []=0:=by rw[kE,h0];exact eU _
 rw[FF,wD h,Aa];simp only;rw[B! F3,RE,SE,FE,XE,hk,h0];simp[oK,Ia]
omit h in
theorem Apg(c r:Nat):Tk c r 0:=⟨F0, .inl rfl⟩
end
theorem P5(l:List LB)(hf:l.flatten.length<=1000000)(hl:l.length<=1000000)(v:LB)(hfin:Gg l (l.flatten.length:Int)=some v):∀(j i q:Nat),i+j=l.length->j<q->Ct l q (((l.take i).flatten.length:Nat):Int) (i:Int)=some v
 |j,i,0,_,h=>absurd h (T6 _)
 |0,i,q+1,hi,_=>by
  rw[Ct,Dw,B! F2,TM F0];exact hfin
 |j+1,i,q+1,hi,hq=>by
  have ih:=P5 l hf hl v hfin j (i+1) q F0 F0;have hi1:Ae (i:Int) 1=((i+1:Nat):Int):=by rw[Ag];omega
  have hsn:(l.take (i+1)).flatten=(l.take i).flatten++l[i]:=by rw[Ns F0,gZ];simp
  have hsp:l.flatten=(l.take (i+1)).flatten++(l.drop (i+1)).flatten:=by rw[<-gZ,X6]
  have hle:((l.take i).flatten).length+(l[i]).length<=1000000:=by
   rw[hsp,D!,hsn,D!]at hf;omega
  have hadd:Ae (((l.take i).flatten.length:Nat):Int) (Ac l[i])=(((l.take (i+1)).flatten.length:Nat):Int):=by
   rw[Ac,Ag,hsn,D!];omega
  rw[Ct,Dw,CD F2,Cj,Aa,hadd,B! (by rw[Af];simp only[E3];omega),hi1];exact ih
theorem K4(l:List LB)(hf:l.flatten.length<=1000000)(hl:l.length<=1000000):∀(j i q:Nat),i+j=l.length->j<q->Cm l q (i:Int) (l.take i).flatten=some l.flatten
 |j,i,0,_,h=>absurd h (T6 _)
 |0,i,q+1,hi,_=>by
  rw[Cm,Dn,B! F2,TM F0];rfl
 |j+1,i,q+1,hi,hq=>by
  have ih:=K4 l hf hl j (i+1) q F0 F0;have hi1:Ae (i:Int) 1=((i+1:Nat):Int):=by rw[Ag];omega
  have hsn:(l.take (i+1)).flatten=(l.take i).flatten++l[i]:=by rw[Ns F0,gZ];simp
  have hsp:l.flatten=(l.take (i+1)).flatten++(l.drop (i+1)).flatten:=by rw[<-gZ,X6]
  have hle:((l.take i).flatten).length+(l[i]).length<=1000000:=by
   rw[hsp,D!,hsn,D!]at hf;omega
  rw[Cm,Dn,CD F2,Cj,Aa,Bi,Aa,hi1,<-hsn];exact ih
theorem Abz(l:List LB)(hf:l.flatten.length<=1000000)(hl:l.length<=1000000):Ep l=some l.flatten:=by
 have h3:Ge l []=some l.flatten:=by
  rw[Ge,Iz,Iy];exact K4 l hf hl l.length 0 As F0 F8
 have h11:Gg l (l.flatten.length:Int)=some l.flatten:=by
  have z:Am (0:Int) 0=0:=F3
  rw[Gg,Ja,B! (by rw[Af];simp only[E3];omega),Nf,Jb,z,Cc,Int.sub_zero];by_cases hp:0<l.flatten.length
  ·rw[CD (by rw[Au];simp only[E3];omega),show VA (0:Int) 0 0=some ()from rfl,Aa,pW,Aa,Bi (by simp only[Y_,T_];omega),Aa];rw[show VA (Ac ([]++List.replicate ((l.flatten.length:Nat):Int).toNat (0:UInt8))) 0 0=some () by rw[VA,Bq];simp[Ac],Aa];simp only[JV,Int.sub_self,iS,W8];exact h3
  ·rw[B! (by rw[Au];simp only[E3];omega)];exact h3
 have:=P5 l hf hl _ h11 l.length 0 As F0 F8;exact this
theorem Aag{p:LB}(hp:p.length<=64):NF p=some ((bC p:Int),0):=by
 rw[NF,B! PO,bC];by_cases h:p=[]
 ·rw[CD (by rw[Ax,Ac,h];rfl),CD h];rfl
 ·have:p.length≠0:=λe=>h (V_ e);rw[B! (by rw[Ax,Ac,RG];omega),B! h];rfl
theorem N4(a:List LB)(ha:a.length<=100000)(f g h:Int)(b k:LB)(m:LX)(n:LB)(o:Bool)(p:Int)(u v:LB)(hfin:Uy f g h b k m a n o p u (Tf a)=some (v,0)):∀(j i q:Nat),i+j=a.length->j<q->Qa a f g h b k m n o p u q (i:Int) (Tf (a.take i))=some (v,0)
 |j,i,0,_,h=>absurd h (T6 _)
 |0,i,q+1,hi,_=>by
  rw[Qa,CQ,B! F2,TM F0];exact hfin
 |j+1,i,q+1,hi,hq=>by
  have ih:=N4 a ha f g h b k m n o p u v hfin j (i+1) q F0 F0;have hi1:Ae (i:Int) 1=((i+1:Nat):Int):=by rw[Ag];omega
  have hll:(Tf (a.take i)).length=i:=by rw[LV,JW];omega
  have hsn:Tf (a.take i)++[Ac a[i]]=Tf (a.take (i+1)):=by rw[Ns F0,Tf,Tf,WN];rfl
  rw[Qa,CQ,CD F2,Cj,Aa,Bi F7,Aa,hsn,hi1];exact ih
theorem Ain{c w r n:Nat}{x:LX}(h:ClipOk c w r n x){p:LB}(hp:p.length<=64)(k:LB)(m:LX)(n':LB)(o:Bool)(e:Int):SW (c:Int) (w:Int) (r:Int) p k m (zQ c w r n x p) n' o e (n:Int)=some (oY c w r n x p,0):=by
 have hn:=fQ h p;have hl:=Ago h p;have hlen:=Ade (c:=c) (w:=w) (r:=r) (n:=n) (x:=x) p;have hdl:=Apx p;have hfin:Uy (c:Int) (w:Int) (r:Int) p k m (zQ c w r n x p) n' o e (b! (bC p) c w r n++U5 p) (Tf (zQ c w r n x p))=some (oY c w r n x p,0):=by
  have hh:=R9 (bC p) c w r n;have ht:=Aqc (Tf (zQ c w r n x p));have hll:=LV (zQ c w r n x p);rw[Uy,CP,Bam,CD (Aix h p),Aa];simp only;rw[B! F3,Bi V',Aa,Abz _ F0 F0,Aa,Bi (by rw[D!,D!];omega),Aa];simp[oY]
 have hlp:=N4 (zQ c w r n x p) F0 (c:Int) (w:Int) (r:Int) p k m n' o e (b! (bC p) c w r n++U5 p) _ hfin (zQ c w r n x p).length 0 As F0 F8;rw[SW,PU,Aag hp,Aa];simp only;rw[B! F3,Bcb (h.shape _ (Akl p)) h.fit,Aa];simp only;rw[B! F3];by_cases h0:p=[]
 ·have e2:U5 p=[]:=by rw[U5,CD h0]
  rw[e2,R2]at hlp;rw[B! (by simp[h0]),PR,DB];exact hlp
 ·have e2:U5 p=Xj (BO p).toNat 8:=by rw[U5,B! h0]
  rw[e2]at hlp;rw[CD (by simpa using h0),Ae1 p hp,Aa];simp only;rw[B! F3,Bi (by rw[R9,El];omega),Aa,PR,DB];exact hlp
section
variable {c w r:Nat} {p:LB} (h:EncOk c w r p) (t:LB) (hR:Tk c r (nE c w t))
include h hR
theorem C? (h1:1<=nE c w t):ClipOk c w r (nE c w t) (XE c w t):=by
 have hc:=h.ch;refine⟨hc,h.bits,h.rate,⟨h1,?_⟩,lN t,?_,yu h t⟩
 ·rw[Nat.le_div_iff_mul_le F0];exact hR.1
 ·rcases hR.2 with h0|h0
  ·omega
  ·exact h0
omit hR in
theorem Aav(h1:1<=nE c w t):zQ c w r (nE c w t) (XE c w t) p=FE c w r p t++(if SE c w r t=[]then []else [LG (w:Int) c (Qw p) (SE c w r t)]):=by
 have hc:=h.ch;have hp:=Iw r;obtain⟨d1,d2⟩:=Y0 h t;have hsl:=kQ h t;have key:YE c r (nE c w t) (XE c w t)=Ia c (XE c w t) (List.replicate (kE c w r t) (Al r:Int))++(if SE c w r t=[]then []else [SE c w r t]):=by
  by_cases hz:nE c w t %Al r=0
  ·have hS:SE c w r t=[]:=V_ (by rw[hsl,hz,Yv]);rw[CD hS,R2,YE];congr 1;rw[hz,U_]at d1;have hk1:1<=kE c w r t:=by
    rcases YR (kE c w r t)with h0|h0
    ·rw[h0,Yv]at d1;omega
    ·exact h0
   obtain⟨k',hk'⟩:∃k',kE c w r t=k'+1:=⟨kE c w r t-1,F0⟩;have hd:(nE c w t-1)/Al r=k':=by
    rw[hk',H9,SA]at d1;exact XN F0 Y9
   rw[Ap,hd,hk',List.replicate_succ'];congr 2;rw[hk',H9,SA]at d1;omega
  ·have hS:SE c w r t≠ []:=by
    intro e;have:=congrArg List.length e;rw[hsl,Y_]at this;rcases Nat.mul_eq_zero.1 this with h0|h0<;>omega
   have hd:(nE c w t-1)/Al r=kE c w r t:=XN F0 Y9;have hdk:=qg (r:=r) h t;rw[B! hS,YE,Ap,hd,vO c _ _ _ (uB _ _),Q6,Ia,Ia,O1];congr 2;rw[TM]
   ·rfl
   ·rw[Q!,lN,<-RT,<-WY];exact N! _
 rw[zQ,key,WN,FE];congr 1;split<;>rfl
theorem Abt:Gp (c:Int) (w:Int) (r:Int) p (RE c w t) (SE c w r t) (FE c w r p t) [] false 0=
  some (if RE c w t≠ []\/nE c w t=0 then((c:Int),(w:Int),(r:Int),p,[],[],[],[],false,24,24)else((c:Int),(w:Int),(r:Int),p,[],[],[],oY c w r (nE c w t) (XE c w t) p,true,0,0)):=by
 have hc:=h.ch;have hsl:=kQ h t;have hfl:=wA (c:=c) (w:=w) (r:=r) (p:=p) t;have hn4:=hR.1;have hmod:nE c w t %Al r*c<=nE c w t*c:=J? _ (VV _ _);have hn:nE c w t<=4000:=by
  have:nE c w t*1<=nE c w t*c:=X8 _ hc.1;omega
 have hk:kE c w r t<=nE c w t:=RS _ _;rw[Gp,JG,Ad1 h t hR,Aa];simp only;rw[B! F3,xC h t hR,Aa];by_cases hbad:RE c w t≠ []\/nE c w t=0
 ·have hcond:((Ef (Ac (RE c w t)) 0)||(geq (nE c w t:Int) 0))=true:=by
   rcases hbad with h0|h0
   ·have:RE c w t≠ []:=h0;have hl:0<(RE c w t).length:=List.length_pos_iff.2 this;rw[Au,Ac,SU];left;simpa using hl
   ·rw[h0];simp[Ax]
  rw[CD hbad,CD hcond,Ul,Aa]
 ·have hR0:RE c w t=[]:=by
   by_cases h0:RE c w t=[]
   ·exact h0
   ·exact absurd (.inl h0) hbad
  have hn1:1<=nE c w t:=by
   rcases YR (nE c w t)with h0|h0
   ·exact absurd (.inr h0) hbad
   ·exact h0
  have hcl:=C? h t hR hn1;have hfr:=Aav h t hn1;have hcond:¬(((Ef (Ac (RE c w t)) 0)||(geq (nE c w t:Int) 0))=true):=by rw[hR0];simp[Au,Ax,Ac];omega
  rw[B! hbad,B! hcond];by_cases hS:SE c w r t=[]
  ·rw[CD hS,R2]at hfr;have hf:=Ain hcl h.pass (RE c w t) (SE c w r t) [] false 0;rw[hfr]at hf;rw[B! (by rw[hS];decide),Wz,GO,hf,Aa];simp only;rw[B! F3]
  ·rw[B! hS]at hfr;have hl:0<(SE c w r t).length:=List.length_pos_iff.2 hS;have hin:inR (w:Int) (SE c w r t):=λv hv=>yu h t v (a_ hv);have henc:=Ati (t:=Qw p) (x:=SE c w r t) h.bits (Tz p) hc.1 hc.2 F0 F0 (by rw[hsl];exact V3 _ _) hin;have hf:=Ain hcl h.pass (RE c w t) [] [] false 0;rw[hfr]at hf;rw[CD (by rw[Au,Ac];simpa using hl),nN p h.pass,Aa];simp only;rw[B! F3,henc,Aa];simp only;rw[B! F3,Bi F7,Aa,Ads,Adp,B! F3,Wz,GO,hf,Aa];simp only;rw[B! F3]
end
structure Brst (b x:LB):Prop where
 len:x.length=b.length
 win:∃k W:Nat,0<W/\W<2^32/\Ff b^^^Ff x=2^k*W
theorem Brst.ne{b x:LB}(h:Brst b x):b≠x:=by
 obtain⟨_,k,W,h1,h2,h3⟩:=h;intro e;rw[e,Nat.xor_self]at h3;have:=XD (Nat.two_pow_pos k) h1;omega
inductive Pl (S D A:Int) (G:Nat->Int) (l:LI) (a:Int):UInt8->Int->Int->Prop
 |t:a<S->Pl S D A G l a 1 0 0
 |h:S<=a->a<S+22->Pl S D A G l a 2 0 0
 |d:S+22<=a->a<D->Pl S D A G l a 3 0 0
 |s:S+22<=a->D<=a->a<A->Pl S D A G l a 4 0 0
 |f (i:Nat):S+22<=a->D<=a->A<=a->i<l.length->A+(l.take i).sum<=a->a<A+(l.take (i+1)).sum->Pl S D A G l a 5 i (G i)
 |b:S+22<=a->D<=a->A<=a->A+l.sum<=a->Pl S D A G l a 6 0 0
theorem ClipOk.enc{c w r n:Nat}{x:LX}(h:ClipOk c w r n x){p:LB}(hp:p.length<=64):EncOk c w r p:=⟨h.ch,h.bits,h.rate,hp⟩
theorem Bh.len{o s p:LB}{f c w r n:Int}{g:LI}{a:Int}{x:LB}{e:Int}(h:Bh o s p f c w r n g a x e):p.length<=s.length/\g.length<=1000/\x.length<=13000000:=by
 cases h with
 |wt W hl hb=>exact⟨hl,W.sz.hg,by have:=W.sz.hx;omega⟩
 |er h0 hc hx hb=>exact⟨CH,CH,F0⟩
structure Ue where
 m:LB
 s:LX
 fr:List LB
 X:LB
 u:Bool
 v:Int
def gU(X:LB)(u:Bool)(v k:Int):Prop:=(X=[]/\u=false/\ (v=18\/v=24)/\k=v)\/ (u=true/\v=0/\k=36)
theorem gU.drop{X:LB}{v k:Int}(h:gU X u v k)(t:Nat):gU (X.drop t) u v k:=by
 rcases h with⟨h1,h2⟩|h
 ·exact .inl ⟨by rw[h1];simp,h2⟩
 ·exact .inr h
theorem gU.ne{X:LB}{v k:Int}(h:gU X u v k):Bj k 0=true:=by
 rcases h with⟨_,_,h1|h1,h2⟩|⟨_,_,h2⟩
 ·rw[h2,h1];decide
 ·rw[h2,h1];decide
 ·rw[h2];decide
inductive OkE (c w r:Nat) (p:LB) (L:Nat):Ue->Prop
 |live {t:LB}:t.length+L<=600->Tk c r (nE c w t)->OkE c w r p L ⟨RE c w t,SE c w r t,FE c w r p t,[],false,0⟩
 |stop {X:LB} {u:Bool} {v k:Int}:X.length<=20000->gU X u v k->OkE c w r p L ⟨[],[],[],X,u,v⟩
section
variable {c w r:Nat} {p:LB} (h:EncOk c w r p)
include h
theorem Adc{X:LB}{v k:Int}(hX:X.length<=20000)(hs:gU X u v k):Nj (c:Int) (w:Int) (r:Int) p [] [] [] X u v=some 0:=by
 rw[Nj,wD h,Aa];simp only;rw[B! F3];rcases hs with⟨rfl,rfl,h1|h1,_⟩|⟨rfl,rfl,_⟩
 ·subst h1;rw[CD F3,B! F3]
 ·subst h1;rw[CD F3,B! F3]
 ·rw[B! F3,CD (by trivial),B!];have:tM (Ac X) 100000=true:=by rw[KO,Ac];simp;omega
  rw[this];decide
theorem Aw1{X:LB}{v k:Int}(hX:X.length<=20000)(hs:gU X u v k):Qz (c:Int) (w:Int) (r:Int) p [] [] [] X u v=some ((c:Int),(w:Int),(r:Int),p,[],[],[],X,u,v,(Al r:Int),k):=by
 have htw:=P0 (a:=[]) (λy hy=>by simp at hy) CH (c:Int) (w:Int) (r:Int) p (x:=[]) (s:=[]) (z:=X) CH CH F0 u v;rw[Qz,KY,Adc h hX hs,Aa,B! F3,aI h.rate.1 h.rate.2,Aa];simp only;rcases hs with⟨h0,h2,h1|h1,h3⟩|⟨h2,h1,h3⟩
 ·rw[h1]at htw⊢;rw[CD F3,Ti,Ry,htw,Aa,h3,h1]
 ·rw[h1]at htw⊢;rw[CD F3,Ti,Ry,htw,Aa,h3,h1]
 ·rw[h1,h2]at htw⊢;rw[B! F3,CD rfl,Ti,Ry,htw,Aa,h3]
theorem dS{X:LB}{v k:Int}(hX:X.length<=20000)(hs:gU X u v k)(b:LB):Ey (c:Int) (w:Int) (r:Int) p [] [] [] X u v b=some ((c:Int),(w:Int),(r:Int),p,[],[],[],X,u,v,k):=by
 rw[Ey,DC,Aw1 h hX hs,Aa];simp only;rw[CD hs.ne]
theorem mV{X:LB}{v k:Int}(hX:X.length<=20000)(hs:gU X u v k):Gp (c:Int) (w:Int) (r:Int) p [] [] [] X u v=some ((c:Int),(w:Int),(r:Int),p,[],[],[],X,u,v,k):=by
 rw[Gp,JG,Aw1 h hX hs,Aa];simp only;rw[CD hs.ne]
def TP(c w r:Nat)(p t:LB):Ue:=if Tk c r (nE c w t)then⟨RE c w t,SE c w r t,FE c w r p t,[],false,0⟩else⟨[],[],[],[],false,18⟩
def fiE(c w r:Nat)(p t:LB):Ue:=if Tk c r (nE c w t)then(if RE c w t≠ []\/nE c w t=0 then⟨[],[],[],[],false,24⟩else⟨[],[],[],oY c w r (nE c w t) (XE c w t) p,true,0⟩)else⟨[],[],[],[],false,18⟩
omit h in
theorem uF{t:LB}{L:Nat}(ht:t.length+L<=600):OkE c w r p L (TP c w r p t):=by
 rw[TP];split
 ·rename_i hR;exact .live ht hR
 ·exact .stop (k:=18) CH (.inl ⟨rfl,rfl, .inl rfl,rfl⟩)
theorem yB(t:LB):nE c w t*c<=t.length:=by
 have h1:=H0 h t;have h2:nE c w t*c<=nE c w t*qG c w:=by
  rw[qG];refine X8 _ ?_;have:=rF h;rw[qG]at this;rcases YR (wB (w:Int))with h0|h0
  ·rw[h0]at this;omega
  ·exact aL _ h0
 omega
theorem Akt{t:LB}(ht:t.length<=600)(hR:Tk c r (nE c w t))(h1:1<=nE c w t):(oY c w r (nE c w t) (XE c w t) p).length<=20000:=by
 have hcl:=C? h t hR h1;have e1:=Al1 hcl p;have e2:=(fQ hcl p).2;have e3:=lN (c:=c) (w:=w) t;have e4:=yB h t;omega
theorem Akk{t:LB}(ht:t.length<=600):∃(X:LB) (u:Bool) (v k:Int),fiE c w r p t=⟨[],[],[],X,u,v⟩/\X.length<=20000/\gU X u v k:=by
 rw[fiE];split
 ·rename_i hR;split
  ·exact⟨_,_,_,24,rfl,CH, .inl ⟨rfl,rfl, .inr rfl,rfl⟩⟩
  ·rename_i hb;have h1:1<=nE c w t:=by
    rcases YR (nE c w t)with h0|h0
    ·exact absurd (.inr h0) hb
    ·exact h0
   exact⟨_,_,_,36,rfl,Akt h ht hR h1, .inr ⟨rfl,rfl,rfl⟩⟩
 ·exact⟨_,_,_,18,rfl,CH, .inl ⟨rfl,rfl, .inl rfl,rfl⟩⟩
theorem ou(t b:LB)(hb:b.length<=1000000):∃e:Int,Ey (c:Int) (w:Int) (r:Int) p (TP c w r p t).m (TP c w r p t).s (TP c w r p t).fr (TP c w r p t).X (TP c w r p t).u (TP c w r p t).v b=some ((c:Int),(w:Int),(r:Int),p,(TP c w r p (t++b)).m,(TP c w r p (t++b)).s,(TP c w r p (t++b)).fr,(TP c w r p (t++b)).X,(TP c w r p (t++b)).u,(TP c w r p (t++b)).v,e):=by
 have hmono:nE c w t<=nE c w (t++b):=oJ V';by_cases hR:Tk c r (nE c w t)
 ·have h1:=Alr h t b hb hR;have e1:TP c w r p t=⟨RE c w t,SE c w r t,FE c w r p t,[],false,0⟩:=by rw[TP,CD hR]
  rw[e1];simp only;rw[h1,cP];by_cases hR2:Tk c r (nE c w (t++b))
  ·rw[CD hR2,TP,CD hR2];exact⟨_,rfl⟩
  ·rw[B! hR2,TP,B! hR2];exact⟨_,rfl⟩
 ·have hR2:¬Tk c r (nE c w (t++b)):=λhh=>hR (hh.mono hmono);have e1:TP c w r p t=⟨[],[],[],[],false,18⟩:=by rw[TP,B! hR]
  have e2:TP c w r p (t++b)=⟨[],[],[],[],false,18⟩:=by rw[TP,B! hR2]
  rw[e1,e2];exact⟨18,dS h CH (.inl ⟨rfl,rfl, .inl rfl,rfl⟩) b⟩
theorem ji(t:LB):∃e:Int,Gp (c:Int) (w:Int) (r:Int) p (TP c w r p t).m (TP c w r p t).s (TP c w r p t).fr (TP c w r p t).X (TP c w r p t).u (TP c w r p t).v=some ((c:Int),(w:Int),(r:Int),p,(fiE c w r p t).m,(fiE c w r p t).s,(fiE c w r p t).fr,(fiE c w r p t).X,(fiE c w r p t).u,(fiE c w r p t).v,e):=by
 by_cases hR:Tk c r (nE c w t)
 ·have e1:TP c w r p t=⟨RE c w t,SE c w r t,FE c w r p t,[],false,0⟩:=by rw[TP,CD hR]
  rw[e1];simp only;rw[Abt h t hR,fiE,CD hR];by_cases hb:RE c w t≠ []\/nE c w t=0
  ·rw[CD hb,CD hb];exact⟨_,rfl⟩
  ·rw[B! hb,B! hb];exact⟨_,rfl⟩
 ·have e1:TP c w r p t=⟨[],[],[],[],false,18⟩:=by rw[TP,B! hR]
  have e2:fiE c w r p t=⟨[],[],[],[],false,18⟩:=by rw[fiE,B! hR]
  rw[e1,e2];exact⟨18,mV h CH (.inl ⟨rfl,rfl, .inl rfl,rfl⟩)⟩
def W2(c w r:Nat)(p:LB)(U:Ue)(q:LB):Option (Int×Ue):=(Ey (c:Int) (w:Int) (r:Int) p U.m U.s U.fr U.X U.u U.v q).bind λ(_,_,_,_,m,s,f,x,u,v,e)=>some (e,⟨m,s,f,x,u,v⟩)
def ZD(c w r:Nat)(p:LB)(U:Ue):Option (Int×Ue):=(Gp (c:Int) (w:Int) (r:Int) p U.m U.s U.fr U.X U.u U.v).bind λ(_,_,_,_,m,s,f,x,u,v,e)=>some (e,⟨m,s,f,x,u,v⟩)
theorem Ah3{L:Nat}{U:Ue}(hU:OkE c w r p L U)(q:LB)(hq:q.length<=L):
  ∃(e:Int) (U':Ue),W2 c w r p U q=some (e,U')/\OkE c w r p (L-q.length) U'/\U'.X=U.X/\
   ∀t,t<=U.X.length->Ey (c:Int) (w:Int) (r:Int) p U.m U.s U.fr (U.X.drop t) U.u U.v q=some ((c:Int),(w:Int),(r:Int),p,U'.m,U'.s,U'.fr,U'.X.drop t,U'.u,U'.v,e):=by
 cases hU with
 |live hl hR=>
  rename_i t;obtain⟨e,h1⟩:=ou h t q F0;have e1:TP c w r p t=⟨RE c w t,SE c w r t,FE c w r p t,[],false,0⟩:=by rw[TP,CD hR]
  have hx:(TP c w r p (t++q)).X=[]:=by rw[TP];split<;>rfl
  rw[e1]at h1;simp only at h1;refine⟨e,TP c w r p (t++q),by rw[W2];simp only;rw[h1];rfl,uF V',hx,λn hn=>?_⟩;simp only[p!];rw[h1,hx,p!]
 |stop hx hs=>
  rename_i X u v k;refine⟨k,⟨[],[],[],X,u,v⟩,?_, .stop hx hs,rfl,λn hn=>?_⟩
  ·rw[W2];simp only;rw[dS h hx hs q];rfl
  ·exact dS h cB (hs.drop n) q
theorem Am0{L:Nat}{U:Ue}(hU:OkE c w r p L U):
  ∃(e:Int) (U':Ue),ZD c w r p U=some (e,U')/\OkE c w r p L U'/\ (∃y,U'.X=U.X++y)/\
   ∀t,t<=U.X.length->Gp (c:Int) (w:Int) (r:Int) p U.m U.s U.fr (U.X.drop t) U.u U.v=some ((c:Int),(w:Int),(r:Int),p,U'.m,U'.s,U'.fr,U'.X.drop t,U'.u,U'.v,e):=by
 cases hU with
 |live hl hR=>
  rename_i t;obtain⟨e,h1⟩:=ji h t;obtain⟨X,u,v,k,f1,f2,f3⟩:=Akk h (t:=t) F0;have e1:TP c w r p t=⟨RE c w t,SE c w r t,FE c w r p t,[],false,0⟩:=by rw[TP,CD hR]
  rw[e1,f1]at h1;simp only at h1;refine⟨e,⟨[],[],[],X,u,v⟩,by rw[ZD];simp only;rw[h1];rfl, .stop f2 f3,⟨X,rfl⟩,λn hn=>?_⟩;simp only[Y_]at hn;obtain rfl:n=0:=F0
  simp only[Ys];exact h1
 |stop hx hs=>
  rename_i X u v k;refine⟨k,⟨[],[],[],X,u,v⟩,?_, .stop hx hs,⟨[],(R2 _).symm⟩,λn hn=>?_⟩
  ·rw[ZD];simp only;rw[mV h hx hs];rfl
  ·exact mV h cB (hs.drop n)
theorem OkE.szs{L:Nat}{U:Ue}(hU:OkE c w r p L U):U.m.length<=20000/\U.s.length<=20000/\U.fr.length<=4000/\U.X.length<=20000/\ (∀y∈U.fr,y.length<=17179869184)/\∀t,Nj (c:Int) (w:Int) (r:Int) p U.m U.s U.fr (U.X.drop t) U.u U.v=some 0:=by
 cases hU with
 |live hl hR=>
  rename_i t;have h1:=H0 h t;have hsl:=kQ h t;have hfl:=wA (c:=c) (w:=w) (r:=r) (p:=p) t;have hs:=rF h;have hmod:nE c w t %Al r*c<=nE c w t*c:=J? _ (VV _ _);have hn:=yB h t;have hk:kE c w r t<=nE c w t:=RS _ _;have hlt:=OG h.rate.2;have hnn:nE c w t<=nE c w t*c:=aL _ h.ch.1;have hLc:Al r*c<=1100000*6:=S! F0 h.ch.2;exact⟨by simp only;omega,by simp only;omega,by simp only;omega,CH,λy hy=>by have:=jr h t hR y hy;omega,λn=>by simp only[p!];exact Aey h t hR⟩
 |stop hx hs=>
  refine⟨CH,CH,CH,hx,λy hy=>by simp at hy,λn=>?_⟩;exact Adc h cB (hs.drop n)
theorem Agw{L:Nat}{U:Ue}(hU:OkE c w r p L U)(t:Nat)(m:Nat):
  BU (c:Int) (w:Int) (r:Int) p U.m U.s U.fr (U.X.drop t) U.u U.v (m:Int)=some ((c:Int),(w:Int),(r:Int),p,U.m,U.s,U.fr,(U.X.drop t).drop (min m (U.X.drop t).length),U.u,U.v,(U.X.drop t).take (min m (U.X.drop t).length),0):=by
 obtain⟨s1,s2,s3,s4,s5,s6⟩:=hU.szs h;have hl:(U.X.drop t).length<=20000:=by rw[Q!];omega
 have htw:=P0 (a:=U.fr) s5 F0 (c:Int) (w:Int) (r:Int) p (x:=U.m) (s:=U.s) (z:=U.X.drop t) F0 F0 F0 U.u U.v;have hm:Ee (m:Int) (Ac (U.X.drop t))=((min m (U.X.drop t).length:Nat):Int):=by rw[AK,Ac];omega
 rw[BU,s6 t,Aa,B! F3,B! S0,htw,Aa];simp only;rw[hm,Dg,Aa,O1,Bm,Bi (by rw[Y_,JW];omega),Aa,Aa,Di,Aa,O1,RI]
end
section
variable {c w r:Nat} {p:LB} (h:EncOk c w r p)
include h
def Z8(c w r:Nat)(p:LB)(st:vE)(inp:LB)(U:Ue):Option (Int×Ue×LB):=
 if st.1=1 then(W2 c w r p U (inp.take (min st.2.1.toNat inp.length))).bind λz=>some (z.1,z.2,inp.drop (min st.2.1.toNat inp.length))
 else if st.1=2 then some (0,U,inp)
 else(ZD c w r p U).bind λz=>some (z.1,z.2,inp)
def V1(c w r:Nat)(p:LB):List vE->LB->Ue->Option (LI×Ue×LB)
 |[],inp,U=>some ([],U,inp)
 |st::l,inp,U=>(Z8 c w r p st inp U).bind λz=>(V1 c w r p l z.2.2 z.2.1).bind λy=>some (z.1::y.1,y.2)
theorem nU{b:List vE}(hb:b.length<=200)(hv:∀st∈b,VS st):∀(k i t q:Nat) (U:Ue) (inp:LB) (aa:List Sad),i+k=b.length->k<q->inp.length<=600->OkE c w r p inp.length U->t<=U.X.length->aa.length<=i->
  ∃(es:LI) (U':Ue) (inp':LB) (ds:List Sad) (t':Nat),V1 c w r p (b.drop i) inp U=some (es,U',inp')/\OkE c w r p inp'.length U'/\t'<=U'.X.length/\SRs (b.drop i) es ds/\U.X.take t++outs ds=U'.X.take t'/\
   Gc b q (i:Int) (c:Int) (w:Int) (r:Int) p (U.X.drop t) U.u U.v inp aa U.m U.s U.fr=some ((c:Int),(w:Int),(r:Int),p,U'.m,U'.s,U'.fr,U'.X.drop t',U'.u,U'.v,aa++ds,0)/\fX b i t U.X t' U'.X
 |k,i,t,0,U,inp,aa,_,hq,_,_,_,_=>absurd hq (T6 _)
 |0,i,t,q+1,U,inp,aa,hi,hq,hin,hU,ht,haa=>by
  refine⟨[],U,inp,[],t,by rw[gW F0];rfl,hU,ht,by rw[gW F0];exact .nil,by simp[outs],?_, .nil F0⟩;rw[Gc,Qk,B! F2,JI,Agf,Aer,Aea,R2]
 |k+1,i,t,q+1,U,inp,aa,hi,hq,hin,hU,ht,haa=>by
  have hlt:i<b.length:=F0
  obtain⟨hop,hn0,hn1⟩:=hv b[i] (S6 hlt);have hdrop:b.drop i=b[i]::b.drop (i+1):=(List.getElem_cons_drop hlt).symm;obtain⟨m,hm⟩:∃m:Nat,b[i].2.1=m:=⟨b[i].2.1.toNat,F0⟩;have hgi:Ae (i:Int) 1=((i+1:Nat):Int):=by rw[show(1:Int)=((1:Nat):Int)from rfl,Ag];omega
  rw[Gc,Qk,CD F2,Cj hlt,Aa];rcases hop with h1|h1|h1
  ·
   have hg1:geq b[i].1 1=true:=by rw[h1];rfl
   have hmin:Ee b[i].2.1 (Ac inp)=((min m inp.length:Nat):Int):=by rw[hm,AK,Ac];omega
   obtain⟨e,U1,f1,f2,f3,f4⟩:=Ah3 h hU (inp.take (min m inp.length)) VZ;have hl:(inp.take (min m inp.length)).length=min m inp.length:=by rw[JW];omega
   rw[hl]at f2;have hl2:(inp.drop (min m inp.length)).length=inp.length-min m inp.length:=Q!;rw[<-hl2]at f2;obtain⟨es,U2,xR,ds,t2,r1,r2,r3,r4,r5,r6,r7⟩:=nU hb hv k (i+1) t q U1 (inp.drop (min m inp.length)) (aa++[(e,[],())]) F0 F0 F0 f2 (by rw[f3];omega) cE;refine⟨e::es,U2,xR,(e,[],())::ds,t2,?_,r2,r3,?_,?_,?_, .other hlt (by rw[h1];decide) r7⟩
   ·rw[hdrop,V1,Z8,CD h1,hm,O1,f1,Aa,Aa];simp only;rw[r1,Aa]
   ·rw[hdrop];exact .cons ⟨rfl,λh=>by rw[h1]at h;exact absurd h F3,λ_=>rfl⟩ r4
   ·rw[<-r5,f3];simp[outs]
   ·rw[CD hg1,hmin,Dg,O1,Aa,f4 t ht,Aa];simp only;rw[HF,Ws,hmin,Di,Aa,Bi F7,Aa,Gb,Wu,hgi,O1,r6];simp
  ·
   have hg1:¬geq b[i].1 1=true:=by rw[h1];decide
   have hg2:geq b[i].1 2=true:=by rw[h1];rfl
   have hd:=Agw h hU t m;have hXl:(U.X.drop t).length=U.X.length-t:=Q!;obtain⟨es,U2,xR,ds,t2,r1,r2,r3,r4,r5,r6,r7⟩:=nU hb hv k (i+1) (t+min m (U.X.length-t)) q U inp (aa++[(0,(U.X.drop t).take (min m (U.X.drop t).length),())]) F0 F0 hin hU F0 cE;refine⟨0::es,U2,xR,(0,(U.X.drop t).take (min m (U.X.drop t).length),())::ds,t2,?_,r2,r3,?_,?_,?_, .drain hlt hm (by have:=hU.szs h;omega) ht r7⟩
   ·rw[hdrop,V1,Z8,B! (by rw[h1];decide),CD h1,Aa];simp only;rw[r1,Aa]
   ·rw[hdrop];exact .cons ⟨rfl,λ_=>⟨rfl,by simp only[JW];rw[hm];omega⟩,λh=>absurd h1 h⟩ r4
   ·rw[<-r5,hXl,iT];simp[outs]
   ·rw[B! hg1,CD hg2,hm,hd,Aa];simp only;rw[JH,Aeh,Bi F7,Aa,Gb,Wu,hgi];rw[hXl,Yi]at*
    rw[r6];simp
  ·
   have hg1:¬geq b[i].1 1=true:=by rw[h1];decide
   have hg2:¬geq b[i].1 2=true:=by rw[h1];decide
   have hg3:geq b[i].1 3=true:=by rw[h1];rfl
   obtain⟨e,U1,f1,f2,⟨y,f3⟩,f4⟩:=Am0 h hU;obtain⟨es,U2,xR,ds,t2,r1,r2,r3,r4,r5,r6,r7⟩:=nU hb hv k (i+1) t q U1 inp (aa++[(e,[],())]) F0 F0 hin f2 (by rw[f3,D!];omega) cE;refine⟨e::es,U2,xR,(e,[],())::ds,t2,?_,r2,r3,?_,?_,?_, .other hlt (by rw[h1];decide) r7⟩
   ·rw[hdrop,V1,Z8,B! (by rw[h1];decide),B! (by rw[h1];decide),f1,Aa,Aa];simp only;rw[r1,Aa]
   ·rw[hdrop];exact .cons ⟨rfl,λh=>by rw[h1]at h;exact absurd h F3,λ_=>rfl⟩ r4
   ·rw[<-r5,f3,aM ht];simp[outs]
   ·rw[B! hg1,B! hg2,CD hg3,f4 t ht,Aa];simp only;rw[IE,Adq,Bi F7,Aa,Gb,Wu,hgi,r6];simp
theorem An0{inp:LB}{l:List vE}(hin:inp.length<=600)(hl:l.length<=200)(hv:∀st∈l,VS3 st):
  ∃(es:LI) (U:Ue) (inp':LB) (ds:List Sad) (t:Nat),V1 c w r p l inp (TP c w r p [])=some (es,U,inp')/\OkE c w r p inp'.length U/\t<=U.X.length/\SRs l es ds/\outs ds=U.X.take t/\
   Vc (c:Int) (w:Int) (r:Int) p inp l=some ((c:Int),(w:Int),(r:Int),p,U.m,U.s,U.fr,U.X.drop t,U.u,U.v,ds,0)/\fX l 0 0 [] t U.X:=by
 have e0:nE c w []=0:=by rw[nE];exact eU _
 have hR:Tk c r (nE c w []):=by rw[e0];exact Apg c r
 have e1:TP c w r p []=⟨RE c w [],SE c w r [],FE c w r p [],[],false,0⟩:=by rw[TP,CD hR]
 obtain⟨es,U,inp',ds,t,h1,h2,h3,h4,h5,h6,h7⟩:=nU h hl (λst h=>(hv st h).1) l.length 0 0 As (TP c w r p []) inp [] F0 F8 hin (uF (by simpa using hin)) (bZ _) CH;rw[Ys]at h1 h4;refine⟨es,U,inp',ds,t,h1,h2,h3,h4,by simpa using h5,?_,by rw[e1]at h7;exact h7⟩;rw[Vc,MM,mJ hl hv,Aa,B! F3,su h,Aa];simp only;rw[B! F3];rw[e1]at h6;exact h6
theorem mY:∀{l:List vE} {inp X:LB} {u:Bool} {v k:Int} {es:LI} {U':Ue} {inp':LB},X.length<=20000->gU X u v k-> (∀st∈l,VS st)->V1 c w r p l inp ⟨[],[],[],X,u,v⟩=some (es,U',inp')->
  U'=⟨[],[],[],X,u,v⟩
 |[],inp,X,u,v,k,es,U',inp',hx,hk,hv,hh=>by
  cases hh;rfl
 |st::l,inp,X,u,v,k,es,U',inp',hx,hk,hv,hh=>by
  rw[V1]at hh;obtain⟨⟨e,U1,i1⟩,h1,hh⟩:=Tl hh;obtain⟨⟨es1,U2,i2⟩,h2,hh⟩:=Tl hh;simp only[DV,G_]at hh;obtain⟨-,rfl, -⟩:=hh;have hv':∀st∈l,VS st:=λx hx=>hv x (RK _ hx);rw[Z8]at h1;split at h1
  ·rw[W2]at h1;simp only at h1;rw[dS h hx hk]at h1;cases h1;exact mY hx hk hv' h2
  ·split at h1
   ·cases h1;exact mY hx hk hv' h2
   ·rw[ZD]at h1;simp only at h1;rw[mV h hx hk]at h1;cases h1;exact mY hx hk hv' h2
theorem xN{inp:LB}(hin:inp.length<=600):∀{l:List vE} {n:Nat} {es:LI} {U':Ue} {inp':LB},n<=inp.length-> (∀st∈l,VS st)->
  V1 c w r p l (inp.drop n) (TP c w r p (inp.take n))=some (es,U',inp')->
  U'=if(WK inp.length l n).2=true then fiE c w r p (inp.take (WK inp.length l n).1)else TP c w r p (inp.take (WK inp.length l n).1)
 |[],n,es,U',inp',hn,hv,hh=>by
  cases hh;rfl
 |st::l,n,es,U',inp',hn,hv,hh=>by
  rw[V1]at hh;obtain⟨⟨e1,U1,i1⟩,h1,hh⟩:=Tl hh;obtain⟨⟨es1,U2,i2⟩,h2,hh⟩:=Tl hh;simp only[DV,G_]at hh;obtain⟨-,rfl, -⟩:=hh;have hv':∀st∈l,VS st:=λx hx=>hv x (RK _ hx);have hop:=(hv st (.head _)).1;rw[Z8]at h1;by_cases h3:st.1=1
  ·rw[CD h3]at h1;rw[show WK inp.length (st::l) n=WK inp.length l (n+min st.2.1.toNat (inp.length-n)) by rw[WK,B! (by rw[h3];decide),CD h3]];have hl:(inp.drop n).length=inp.length-n:=Q!;have e5:inp.take n++(inp.drop n).take (min st.2.1.toNat (inp.length-n))=inp.take (n+min st.2.1.toNat (inp.length-n)):=by rw[iT]
   obtain⟨e,d1⟩:=ou h (inp.take n) ((inp.drop n).take (min st.2.1.toNat (inp.length-n))) VZ;rw[e5]at d1;rw[hl,W2]at h1;rw[d1,Aa,Aa]at h1;simp only[DV,G_]at h1;obtain⟨-,rfl,rfl⟩:=h1;simp only[Yi]at h2;exact xN hin F0 hv' h2
  ·rw[B! h3]at h1;by_cases h4:st.1=2
   ·rw[CD h4]at h1;rw[show WK inp.length (st::l) n=WK inp.length l n by rw[WK,B! (by rw[h4];decide),B! h3]];cases h1;exact xN hin hn hv' h2
   ·rw[B! h4]at h1;have h5:st.1=3:=by rcases hop with h|h|h;exact absurd h h3;exact absurd h h4;exact h
    rw[show WK inp.length (st::l) n=(n,true) by rw[WK,CD h5],CD rfl];obtain⟨e,q1⟩:=ji h (inp.take n);rw[ZD]at h1;rw[q1,Aa,Aa]at h1;simp only[DV,G_]at h1;obtain⟨-,rfl,rfl⟩:=h1;obtain⟨X,u,v,k,g1,g2,g3⟩:=Akk h (t:=inp.take n) VZ;rw[g1]at h2⊢;exact mY h g2 g3 hv' h2
end
def jB(F D M:Nat):List vE:=(List.replicate M [((1:UInt8),(F:Int),()),((2:UInt8),(D:Int),())]).flatten
def RJ(F D M:Nat):List vE:=jB F D M++[((3:UInt8),(0:Int),()),((2:UInt8),(100000:Int),())]
theorem Aow(a f:Int)(m:Nat)(hm:m<=99):Kk ([((1:UInt8),a,()),((2:UInt8),f,())]:List vE) (m:Int)=some (List.replicate m [((1:UInt8),a,()),((2:UInt8),f,())]).flatten:=by
 iterate 100 (rcases m with _|m; · kernel_rfl)
 omega
theorem rL(F D M:Nat):jB F D (M+1)=((1:UInt8),(F:Int),())::((2:UInt8),(D:Int),())::jB F D M:=by simp[jB,VB]
theorem aR(F D:Nat):∀M:Nat,(jB F D M).length=2*M
 |0=>rfl
 |M+1=>by rw[rL,R8,R8,aR F D M];omega
theorem Aks(F D M:Nat):(RJ F D M).length=2*M+2:=by rw[RJ,D!,aR];rfl
theorem Acj(F D:Nat)(hF:F<=100000)(hD:D<=100000):∀(M:Nat),∀st∈jB F D M,VS3 st
 |0,st,h=>by simp[jB]at h
 |M+1,st,h=>by
  rw[rL,Y!,Y!]at h;rcases h with rfl|rfl|h
  ·exact⟨⟨.inl rfl,by simp only;omega,by simp only;omega⟩,λh=>absurd h CH⟩
  ·exact⟨⟨.inr (.inl rfl),by simp only;omega,by simp only;omega⟩,λh=>absurd h CH⟩
  ·exact Acj F D hF hD M st h
theorem Ajm(F D M:Nat)(hF:F<=100000)(hD:D<=100000):∀st∈RJ F D M,VS3 st:=by
 intro st h;rw[RJ,e?,Y!,hH]at h;rcases h with h|rfl|rfl
 ·exact Acj F D hF hD M st h
 ·exact⟨⟨.inr (.inr rfl),F3,F3⟩,λ_=>rfl⟩
 ·exact⟨⟨.inr (.inl rfl),F3,F3⟩,λh=>absurd h F3⟩
theorem Q3(F D M:Nat):(RJ F D M)[(RJ F D M).length-1]? =some ((2:UInt8),(100000:Int),()):=by
 rw[Aks,RJ,TJ (by rw[aR];omega),aR,show 2*M+2-1-2*M=1 by omega];rfl
theorem Aim(L F D:Nat):∀(M n:Nat),n<=L->WK L (jB F D M++[((3:UInt8),(0:Int),()),((2:UInt8),(100000:Int),())]) n=(min L (n+M*F),true)
 |0,n,hn=>by
  rw[show jB F D 0=[]from rfl,RI,WK,CD rfl,Yv];congr 1;omega
 |M+1,n,hn=>by
  rw[rL,VC,VC,WK,B! CH,CD rfl,WK,B! CH,B! CH,Aim L F D M _ (by simp only;omega)];simp only[O1];congr 1;rw[H9,SA];omega
theorem Ab4(n:Nat)(hn:n<=600)(F D:Int):Xu (n:Int) F D=some ([],2)\/Xu (n:Int) F D=some ([],4)\/
  ∃f d m:Nat,1<=f/\f<=100000/\d<=100000/\m<=99/\n<=m*f/\Xu (n:Int) F D=some (RJ f d m,0):=by
 rw[Xu];by_cases hb:((((((Cw (n:Int) 0)||(Ef (n:Int) 100000))||(Cw F 1))||(Ef F 100000))||(Cw D 0))||(Ef D 100000))=true
 ·left;rw[CD hb]
 ·right;rw[B! hb];simp only[SU,not_or,Af,Au,E3]at hb;obtain⟨f,rfl⟩:∃f:Nat,F=f:=⟨F.toNat,F0⟩;obtain⟨d,rfl⟩:∃d:Nat,D=d:=⟨D.toNat,F0⟩;have e1:Am (Ae (n:Int) (f:Int)) 1=((n+f-1:Nat):Int):=by rw[Ag,Cc];omega
  have e2:Ci (Am (Ae (n:Int) (f:Int)) 1) (f:Int)=(((n+f-1)/f:Nat):Int):=by rw[e1,WA]
  have hq:(n+f-1)/f<=n+f-1:=RS _ _;have e3:∀k:Nat,k<=200000->Ae (Br 2 (k:Int)) 2=((2*k+2:Nat):Int):=by
   intro k hk;have e4:Br 2 (k:Int)=((2*k:Nat):Int):=by rw[show(2:Int)=((2:Nat):Int)from rfl,Fg];omega
   rw[e4,Ag];omega
  rw[Bq RL,Aa,e2,e3 _ F0];have hmul:n<= (n+f-1)/f*f:=by
   have:=Y2 (n+f-1) f;have h2:=RW (n+f-1) (show f>0 by omega);rw[Q2]at this;omega
  generalize(n+f-1)/f=m at hq hmul⊢;by_cases h4:Ef ((2*m+2:Nat):Int) 200=true
  ·left;rw[CD h4]
  ·right;rw[B! h4];rw[Au]at h4;simp only[E3]at h4;have hl:(jB f d m).length=2*m:=aR f d m;refine⟨f,d,m,F0,F0,F0,F0,hmul,?_⟩;rw[Aow _ _ m F0,Aa];change (Da (jB f d m) _).bind _=_;rw[Bi F7,Aa];rfl
theorem Alc(hal:Um=some true)(p m:LB)(F D:Int):Mb p m F D=some true:=by
 rw[Mb,Adu,hal,Aa];by_cases hb:(((Ef (Ac p) 64)||(Ef (Ac m) 600))||(!true))=true
 ·rw[CD hb]
 rw[B! hb];simp only[SU,not_or,Au,Ac,E3]at hb;obtain⟨⟨hp,hm⟩, -⟩:=hb;have hp:p.length<=64:=F0
 have hm:m.length<=600:=F0
 rcases Ab4 m.length hm F D with h0|h0|⟨f,d,M,f1,f2,f3,f4,f5,h0⟩
 ·rw[Ac,h0,Aa];rfl
 ·rw[Ac,h0,Aa];rfl
 rw[Ac,h0,Aa];simp only;rw[B! F3];have hl:=Aks f d M;have hv:=Ajm f d M f2 f3;have hv1:∀st∈RJ f d M,VS st:=λst hs=>(hv st hs).1;have hfn:WK m.length (RJ f d M) 0=(m.length,true):=by
  rw[RJ,Aim _ _ _ _ _ (bZ _),SF F0]
 obtain⟨es,U,inp',ds,t,r1,r2,r3,r4,r5,r6,r7⟩:=Aj5 hp (show m.length<=12100 by omega) (show(RJ f d M).length<=200 by omega) hv;have hsz:=r2.szs;have ht:t=U.X.length:=r7.2 F0 _ (Q3 f d M) F3;have hlen:=r4.len;have hol:(outs ds).length<=12000:=by rw[r5,JW];omega
 have hrun:R6 p (RJ f d M) (m.drop 0) ⟨m.take 0,[],[],0,0,0,0,0,[],0,false,0⟩=some (es,U,inp'):=r1;have hend:=P3 hp (show m.length<=12100 by omega) (bZ _) (by simpa using Bh.new hp) hv1 hrun;rw[hfn]at hend;simp only[US]at hend;obtain⟨p2,g2,c2,w2,r2',n2,l2,a2,x2,e2,d1,_,d3⟩:=(Bh.new hp).feed hp CH m F0 F7;rw[RI]at d3;have hfd:=d3.fd F0;rcases hend with⟨k1,_⟩|⟨-,q,g,c,w,r,m',l,a,X,e,k',k2,k3⟩
 ·exact absurd k1 F3
 have h9:=k2.fd F0;rw[hfd]at h9;simp only[DV,G_,Z0]at h9;obtain⟨rfl,rfl,rfl,rfl,rfl,rfl,rfl,rfl,rfl,rfl, -⟩:=h9;have h:EncOk 1 8 8000 p:=⟨F3, .inl rfl,F3,hp⟩;obtain⟨es',V,xR,ds',t',s1,s2,s3,s4,s5,s6,s7⟩:=An0 h hm (show(RJ f d M).length<=200 by omega) hv;obtain⟨z1,z2,z3,z4,_,_⟩:=s2.szs h;have ht':t'=V.X.length:=s7.2 F0 _ (Q3 f d M) F3;have hlen':=s4.len;have hol':(outs ds').length<=20000:=by rw[s5,JW];omega
 have hend':=xN h hm (bZ _) hv1 (l:=RJ f d M) (n:=0) (es:=es') (U':=V) (inp':=xR) (by simpa using s1);rw[hfn]at hend';simp only[US,U3]at hend';have e0:nE 1 8 []=0:=by rw[nE];exact eU _
 have hR:Tk 1 8000 (nE 1 8 []):=by rw[e0];exact Apg 1 8000
 have e1:TP 1 8 8000 p []=⟨RE 1 8 [],SE 1 8 8000 [],FE 1 8 8000 p [],[],false,0⟩:=by rw[TP,CD hR]
 obtain⟨e3,y1⟩:=ou h [] m F0;obtain⟨e4,y2⟩:=ji h m;rw[e1,RI]at y1;simp only at y1;have hne:=su h;rw[r6,Aa];simp only;rw[OS,B! PO,Aa];simp only;rw[d1,Aa];simp only;rw[k3,Aa];simp only;rw[Qg,Aa];simp only;rw[show Vc 1 8 8000 p m (RJ f d M)=_ from s6,Aa];simp only;rw[Aa];simp only;rw[show FF 1 8 8000 p=_ from hne,Aa];simp only;rw[y1,Aa];simp only;rw[y2,Aa];simp only;rw[<-hend',B! (by simp[Ao,Au,Ac,hlen.2,hlen'.2];omega),mJ F0 hv,Aa,B! F3,Aeu,Aev,ht,ht',VM,VM,
  CD (by simp[Ax,Ac]),Alh F0 F0,Aa,r5,ht,US,CD (by simp[Ax,Ac]),Alh F0 F0,Aa,s5,ht',US]
 simp
theorem law_ScriptEven(p m:LB)(F D:Int):Mb p m F D=some true:=Alc Ana p m F D
end Go.Pl
