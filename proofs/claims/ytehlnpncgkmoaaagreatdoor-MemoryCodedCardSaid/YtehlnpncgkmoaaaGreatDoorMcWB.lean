/- A part of a proof (see the text that ends in Proof). No conditions. -/
import Derived.Test.YtehlnpncgkmoaaaGreatDoorMcWA
set_option linter.unusedVariables false
set_option linter.unusedSimpArgs false
namespace Go.Pl
open Go Go.Lv
theorem Bb1{p:Prop}(h:p:=by rw[Ajz,Avd];omega):p:=h
end Go.Pl
namespace Go.Pl
open Go Go.Lv
variable{x:LX}{b:UInt8}
structure EncOk (c w r:Nat) (p:LB):Prop where
 ch:1<=c/\c<=6
 bits:Bw (w:Int)
 rate:1<=r/\r<=1048576
 pass:p.length<=64
def lI(c w:Nat):Nat:=c*wB (w:Int)
def nE(c w:Nat)(t:LB):Nat:=t.length/lI c w
def XE(c w:Nat)(t:LB):LX:=dP (wB (w:Int)) (nE c w t*c) t
def RE(c w:Nat)(t:LB):LB:=t.drop (nE c w t*lI c w)
def kE(c w r:Nat)(t:LB):Nat:=nE c w t/Ak r
def SE(c w r:Nat)(t:LB):LX:=(XE c w t).drop (kE c w r t*(Ak r*c))
def FE(c w r:Nat)(p t:LB):List LB:=(Gb c (XE c w t) (List.replicate (kE c w r t) (Ak r:Int))).map (BE (w:Int) c (Ox p))
def Nc(c r n:Nat):Prop:=n*c<=4000/\ (n=0\/ (n-1)/Ak r+1<=1000)
instance(c r n:Nat):Decidable (Nc c r n):=by unfold Nc;exact inferInstance
theorem Nc.mono{c r n m:Nat}(h:Nc c r n)(hm:m<=n):Nc c r m:=by
 obtain⟨h1,h2⟩:=h;have h3:=Ado c hm;have h4:(m-1)/Ak r<= (n-1)/Ak r:=Nat.div_le_div_right F0;refine⟨F0,?_⟩;omega
section
variable {c w r:Nat} {p:LB} (h:EncOk c w r p) (t:LB)
include h
theorem gX:1<=lI c w/\lI c w<=18:=by
 have h1:=S3 (w:Int);have h2:=h.ch;have h3:=Ba7 (show 0<c by omega) (show 0<wB (w:Int) by omega);have h4:c*wB (w:Int)<=6*3:=Awg h2.2 h1.2;unfold lI;omega
theorem Agy:BK (c:Int) (w:Int)=some (lI c w:Int):=by
 have h2:=h.ch;have hw3:w=8\/w=16\/w=24:=by have:=h.bits;unfold Bw at this;omega
 rcases hw3 with rfl|rfl|rfl
 ·show some (Bf (Az (c:Int) (8:Int)) 8)=_;rw[Fj,show(c:Int)*8=((c*8:Nat):Int) by omega,show(8:Int)=((8:Nat):Int)from rfl,UG,lI,show wB ((8:Nat):Int)=1 from rfl];congr 2;omega
 ·show some (Bf (Az (c:Int) (16:Int)) 8)=_;rw[Fj,show(c:Int)*16=((c*16:Nat):Int) by omega,show(8:Int)=((8:Nat):Int)from rfl,UG,lI,show wB ((16:Nat):Int)=2 from rfl];congr 2;omega
 ·show some (Bf (Az (c:Int) (24:Int)) 8)=_;rw[Fj,show(c:Int)*24=((c*24:Nat):Int) by omega,show(8:Int)=((8:Nat):Int)from rfl,UG,lI,show wB ((24:Nat):Int)=3 from rfl];congr 2;omega
theorem vV:t.length=nE c w t*lI c w+(RE c w t).length/\ (RE c w t).length<lI c w:=by
 have hs:=gX h;have h1:=Ba2 t.length (lI c w);have h2:=Axq t.length (show 0<lI c w by omega);rw[Ak8]at h1;have e:(RE c w t).length=t.length-nE c w t*lI c w:=by rw[RE,Apl]
 have e2:nE c w t*lI c w=t.length/lI c w*lI c w:=rfl;omega
omit h in
theorem gS:(XE c w t).length=nE c w t*c:=qK _ _ _
theorem qy:inR (w:Int) (XE c w t):=Agk h.bits _ _
theorem vR:nE c w t=kE c w r t*Ak r+nE c w t %Ak r/\nE c w t %Ak r<Ak r:=by
 have _:=h;have hp:=Hw r;have h1:=Ba2 (nE c w t) (Ak r);rw[Ak8]at h1;exact⟨h1.symm,Axq _ F0⟩
theorem YQ:(SE c w r t).length=nE c w t %Ak r*c:=by
 have h1:=(vR h t).1;rw[SE,Apl,gS]
 conv=>lhs;rw[h1]
 rw[Ajz,<-At1,Ayu]
omit h in
theorem nI:(FE c w r p t).length=kE c w r t:=by rw[FE,List.length_map,QQ,Au7]
theorem Atq(b:UInt8)(hl:(RE c w t).length+1<lI c w):nE c w (t++[b])=nE c w t/\XE c w (t++[b])=XE c w t/\RE c w (t++[b])=RE c w t++[b]:=by
 have h1:=vV h t;have hs:=gX h;have hn:nE c w (t++[b])=nE c w t:=by
  rw[nE,Ac2,Aw2];exact Azb F0 Bb1
 refine⟨hn,?_,?_⟩
 ·rw[XE,hn,XE];exact Agu h.bits (by
   have e:nE c w t*c*wB (w:Int)=nE c w t*lI c w:=by rw[lI,At1]
   rw[e];omega)
 ·rw[RE,hn,RE,Aye F0]
theorem Ato(b:UInt8)(hl:¬(RE c w t).length+1<lI c w):(RE c w t).length+1=lI c w/\nE c w (t++[b])=nE c w t+1/\XE c w (t++[b])=XE c w t++dP (wB (w:Int)) c (RE c w t++[b])/\RE c w (t++[b])=[]:=by
 have h1:=vV h t;have hs:=gX h;have hn:nE c w (t++[b])=nE c w t+1:=by
  rw[nE,Ac2,Aw2];exact Azb Bb1 (by rw[Ajz,Ajz,Avd];omega)
 have e:nE c w t*c*wB (w:Int)=nE c w t*lI c w:=by rw[lI,At1]
 refine⟨F0,hn,?_,?_⟩
 ·rw[XE,hn,Ajz,Avd,Aqz h.bits,Agu h.bits (by rw[e];omega),e,Aye F0];rfl
 ·rw[RE,hn,Ayi];rw[Ac2,Aw2,Ajz,Avd];omega
theorem ig:kE c w r t*(Ak r*c)<= (XE c w t).length:=by
 have h1:=(vR h t).1;rw[gS]
 conv=>rhs;rw[h1]
 rw[Ajz,<-At1];omega
theorem Awr(hl:(RE c w t).length+1<lI c w):kE c w r (t++[b])=kE c w r t/\SE c w r (t++[b])=SE c w r t/\FE c w r p (t++[b])=FE c w r p t:=by
 obtain⟨h1,h2,h3⟩:=Atq h t b hl;have hk:kE c w r (t++[b])=kE c w r t:=by rw[kE,h1,kE]
 exact⟨hk,by rw[SE,hk,h2,SE],by rw[FE,hk,h2,FE]⟩
theorem Axo(hl:¬(RE c w t).length+1<lI c w):
  ((SE c w r t++dP (wB (w:Int)) c (RE c w t++[b])).length<Ak r*c->kE c w r (t++[b])=kE c w r t/\SE c w r (t++[b])=SE c w r t++dP (wB (w:Int)) c (RE c w t++[b])/\FE c w r p (t++[b])=FE c w r p t)/\
  (¬(SE c w r t++dP (wB (w:Int)) c (RE c w t++[b])).length<Ak r*c-> (SE c w r t++dP (wB (w:Int)) c (RE c w t++[b])).length=Ak r*c/\kE c w r (t++[b])=kE c w r t+1/\SE c w r (t++[b])=[]/\FE c w r p (t++[b])=FE c w r p t++[BE (w:Int) c (Ox p) (SE c w r t++dP (wB (w:Int)) c (RE c w t++[b]))]):=by
 obtain⟨_,h1,h2,h3⟩:=Ato h t b hl;obtain⟨d1,d2⟩:=vR h t;have hsl:=YQ h t;have hc:=h.ch;have hp:=Hw r;have hdk:=ig h t;have hlen:(SE c w r t++dP (wB (w:Int)) c (RE c w t++[b])).length=(nE c w t %Ak r+1)*c:=by rw[Ac2,hsl,qK,Ajz,Avd]
 rw[hlen];constructor
 ·intro hlt;have hlt2:nE c w t %Ak r+1<Ak r:=Nat.lt_of_mul_lt_mul_right hlt;have hk:kE c w r (t++[b])=kE c w r t:=by
   rw[kE,h1];exact Azb F0 Bb1
  refine⟨hk,?_,?_⟩
  ·rw[SE,hk,h2,Aye hdk,SE]
  ·rw[FE,hk,h2,jW c (Ak r) _ _ _ hdk,FE]
 ·intro hge;have Bcd:Ak r<=nE c w t %Ak r+1:=by
   refine Nat.le_of_not_lt λhh=>hge ?_;exact Bar hh hc.1
  have heq:nE c w t %Ak r+1=Ak r:=F0
  have hk:kE c w r (t++[b])=kE c w r t+1:=by
   rw[kE,h1];exact Azb Bb1 (by rw[Ajz,Ajz,Avd];omega)
  have hXl:(XE c w (t++[b])).length=(kE c w r t+1)*(Ak r*c):=by
   rw[gS,h1,<-At1];congr 1;rw[Ajz,Avd];omega
  refine⟨by rw[heq],hk,?_,?_⟩
  ·rw[SE,hk,<-hXl,Azs]
  ·rw[FE,hk,Aeb c (Ak r) _ _ hXl,Azd,h2,jW c (Ak r) _ _ _ hdk,Aye hdk,FE];rfl
theorem ql(hR:Nc c r (nE c w t)):∀f∈FE c w r p t,5<=f.length/\f.length<= (81*(Ak r*c)+7)/8+4:=by
 intro f hf;obtain⟨y,hy,rfl⟩:=List.mem_map.1 hf;have hx:(XE c w t).take (kE c w r t*(Ak r*c))++(XE c w t).drop (kE c w r t*(Ak r*c))=XE c w t:=Ayr _ _;have hdk:=ig h t;have hpr:=jW c (Ak r) (kE c w r t) ((XE c w t).take (kE c w r t*(Ak r*c))) ((XE c w t).drop (kE c w r t*(Ak r*c))) Bch;rw[hx]at hpr;rw[hpr]at hy;have hp:=Hw r;obtain⟨k,hk,hk2⟩:=List.getElem_of_mem hy;have hl1:∀z∈List.replicate (kE c w r t) (Ak r:Int),1<=z:=λz hz=>by rw[(List.mem_replicate.1 hz).2];omega
 have hlx:((XE c w t).take (kE c w r t*(Ak r*c))).length=(List.replicate (kE c w r t) (Ak r:Int)).sum.toNat*c:=by rw[N5,Ajc];omega
 have hg:=nO c h.ch.1 _ _ hl1 hlx k (by rw[QQ]at hk;exact hk) hk;rw[hk2,List.getElem_replicate,Ak3]at hg;obtain⟨a1,a2,_,_⟩:=XT c h.ch.1 _ _ hl1 hlx y hy;have hle:y.length<=4000:=by
  have:=hR.1;have h2:((XE c w t).take (kE c w r t*(Ak r*c))).length<= (XE c w t).length:=by rw[Ajc];omega
  rw[gS]at h2;omega
 have h5:=Aa3 (w:Int) c (Ox p) y a1 hle;have he:=UX c (Nf (w:Int) c (Ox p) y) y.length;refine⟨h5.1,?_⟩;rw[BE,Ac2,Di,Aa9,Ua,<-hg];omega
omit h in
theorem X5(b:List LB)(f a M:Int)(hM:Ad (Bf (Ad (Az (Az 81 f) a) 7) 8) 4=M)(hb:b.length<=100000)(hm:∀y∈b,5<=y.length/\ (y.length:Int)<=M):∀(j i q:Nat),i+j=b.length->j<q->Ht b f a q (i:Int)=some true
 |j,i,0,_,h=>absurd h (Aw9 _)
 |0,i,q+1,hi,_=>by
  rw[Ht,Nk,Abw F3];rfl
 |j+1,i,q+1,hi,hq=>by
  have ih:=X5 b f a M hM hb hm j (i+1) q F0 F0;have hy:=hm b[i] (Awc _);have hi1:Ad (i:Int) 1=((i+1:Nat):Int):=by rw[Ag];omega
  rw[Ht,Nk,Acu F3,Cr,Aa,Vj,MJ,hM,Abw (by simp[Af,Ba,Ac];omega),LY,MC,hi1];exact ih
theorem tP:Wz (c:Int) (w:Int) (r:Int) p=some ((Ak r:Int),true):=by
 have hp:=h.pass;rw[Wz,jB h.rate.1 h.rate.2,Aa];simp only;rw[Anq h.bits h.ch.1 h.ch.2,Aa];simp[Bl,bO,Ac];omega
theorem uL(hR:Nc c r (nE c w t))(p' m' n':LB)(u:Bool)(v k o:Int):Qx (c:Int) k o p' m' (SE c w r t) (FE c w r p t) n' u v (Ak r:Int)=some (nE c w t:Int):=by
 have hc:=h.ch;obtain⟨d1,d2⟩:=vR h t;have hsl:=YQ h t;have hlt:=IQ h.rate.2;have hn:nE c w t<=4000:=by
  have:=hR.1;have:nE c w t*1<=nE c w t*c:=Aw7 _ hc.1;omega
 have e1:Az (Ac (FE c w r p t)) (Ak r:Int)=((kE c w r t*Ak r:Nat):Int):=by
  rw[Ac,nI,Fj Bby Bby,<-Ap8]
 have e2:Bf (Ac (SE c w r t)) (c:Int)=((nE c w t %Ak r:Nat):Int):=by
  rw[Ac,hsl,UG (by
   have:nE c w t %Ak r*c<=nE c w t*c:=Ado _ (Baz _ _);have:=hR.1;omega),Nat.mul_div_cancel _ F0]
 rw[Qx,Bq Bbt,Aa,e1,e2,Ag];congr 1;omega
theorem tN(hR:Nc c r (nE c w t)):Jb (c:Int) (w:Int) (r:Int) p (RE c w t) (SE c w r t) (FE c w r p t) [] false 0=some 0:=by
 have hc:=h.ch;have hw:=h.bits;obtain⟨d1,d2⟩:=vR h t;have hsl:=YQ h t;have htl:=vV h t;have hlt:=IQ h.rate.2;have hp:=Hw r;have hfl:=nI (c:=c) (w:=w) (r:=r) (p:=p) t;have hn4:=hR.1;have hmod:nE c w t %Ak r*c<=nE c w t*c:=Ado _ (Baz _ _);have hn:nE c w t<=4000:=by
  have:nE c w t*1<=nE c w t*c:=Aw7 _ hc.1;omega
 have hfr:kE c w r t+(if 0<nE c w t %Ak r then 1 else 0)<=1000:=by
  rcases hR.2 with h0|h0
  ·have:kE c w r t=0:=by rw[kE,h0];exact Nat.zero_div _
   rw[h0,Nat.zero_mod,this];decide
  ·generalize hq:Ak r=L at*
   have hk:kE c w r t=nE c w t/L:=by rw[kE,hq]
   by_cases hz:0<nE c w t %L
   ·rw[Acu hz];have:(nE c w t-1)/L=kE c w r t:=Azb F0 Bb1;omega
   ·rw[Abw hz];by_cases hk0:kE c w r t=0
    ·omega
    ·obtain⟨k',hk'⟩:∃k',kE c w r t=k'+1:=⟨kE c w r t-1,F0⟩;rw[hk',Ajz,Avd]at d1;have:(nE c w t-1)/L=k':=Azb F0 Bb1;omega
 have hcnt:=uL h t hR p (RE c w t) [] false 0 (w:Int) (r:Int);have hin:inR (w:Int) (SE c w r t):=λv hv=>qy h t v (Azg hv);have hwc:Mn (w:Int) (SE c w r t)=some 0:=by rw[ZN hw _ F0,X2 hw F0 hin]
 have hroom:∀k:Int,k<=1000->Qm (c:Int) (w:Int) (r:Int) p (RE c w t) (SE c w r t) (FE c w r p t) [] false 0 k (nE c w t:Int)=some true:=by
  intro k hk;rw[Qm,Fj Bby Bby,<-Ap8];simp[bO];omega
 have hLc:Ak r*c<=1100000*6:=Awg F0 hc.2;have hM:Ad (Bf (Ad (Az (Az 81 (Ak r:Int)) (c:Int)) 7) 8) 4=(((81*(Ak r*c)+7)/8+4:Nat):Int):=by
  have e1:Az 81 (Ak r:Int)=((81*Ak r:Nat):Int):=by rw[Fj];omega
  have e2:Az ((81*Ak r:Nat):Int) (c:Int)=((81*(Ak r*c):Nat):Int):=by
   rw[Fj (by rw[<-Ap8,At1];omega) (by rw[<-Ap8,At1];omega),<-Ap8,At1]
  rw[e1,e2,Ag (a:=((81*(Ak r*c):Nat):Int)) (b:=7) F0 F0,show((81*(Ak r*c):Nat):Int)+7=((81*(Ak r*c)+7:Nat):Int) by omega,show(8:Int)=((8:Nat):Int)from rfl,UG,Ag];omega
 have hloop:=X5 (FE c w r p t) (Ak r:Int) (c:Int) _ hM F0 (λy hy=>by
  have:=ql h t hR y hy;omega) (FE c w r p t).length 0 Ap F0 F9
 have Ayo:Xo (c:Int) (w:Int) (r:Int) p (RE c w t) (SE c w r t) (FE c w r p t) [] false 0 (Ak r:Int)=some true:=by
  have Az6:Bf (Ac (SE c w r t)) (c:Int)=((nE c w t %Ak r:Nat):Int):=by
   rw[Ac,hsl,UG,Nat.mul_div_cancel _ F0]
  have Az7:Fi (Ac (SE c w r t)) (c:Int)=0:=by rw[Ac,hsl,KF,Ayc];rfl
  have hkk:kE c w r t<=1000:=by split at hfr<;>omega
  rw[Xo,Yg,Abw F5,Agy h,Aa,Abw (by rw[Cz,Ac];simp;omega),Bq Bbt,Aa,Az7,Abw F5,Aa,Az6,Abw (by simp[Cz,Ba,Ac,hfl];omega),Vn,Vv,hwc,Aa,Abw F5];by_cases hz:0<nE c w t %Ak r
  ·rw[Acu hz]at hfr;have hpos:=Ba7 hz (show 0<c by omega);rw[Acu Bbq,Vq,Ni,hcnt,Aa,Ac,hfl,Ag,hroom _ F0,Aa,Abw F5,Wh,Ng,Vk];exact hloop
  ·have h0:nE c w t %Ak r=0:=F0
   rw[h0,Bbf]at hsl;rw[Abw (by rw[Ba,Ac];simp only[Adp];omega),Vq,Ni,hcnt,Aa,Ac,hfl,hroom _ F0,Aa,Abw F5,Wh,Ng,Vk];exact hloop
 rw[Jb,tP h,Aa];simp only;rw[Abw F5,Abw F5,Abw F5,Ayo,Aa,Abw F5]
end
theorem lX(a:List LB)(ha:∀y∈a,y.length<=17179869184)(w:List LB)(hw:w.length=a.length)(ha2:a.length<=100000)(b f g:Int)(h:LB)(k:Bool)(m:Int)(n:LB)(o:LX)(p:LB):∀(j i q:Nat),i+j=a.length->j<q->Mj w a b f g h k m n o p q (i:Int) a=some (b,f,g,h,n,o,a,p,k,m)
 |j,i,0,_,h=>absurd h (Aw9 _)
 |0,i,q+1,hi,_=>by
  have hc:XH w a=a:=by rw[XH,hw,Ay7,Ayi F0,Ar5]
  rw[Mj,Xw,hc,Abw F3];rfl
 |j+1,i,q+1,hi,hq=>by
  have ih:=lX a ha w hw ha2 b f g h k m n o p j (i+1) q F0 F0;have hc:XH w a=a:=by rw[XH,hw,Ay7,Ayi F0,Ar5]
  have hi1:Ad (i:Int) 1=((i+1:Nat):Int):=by rw[Ag];omega
  have hy:=ha a[i] (Awc _);rw[Mj,Xw,hc,Acu F3,Cr,Aa,Aa,Bb,By (by simpa using hy),Aa,Aa,Aa,Awd,To _ F0,Aa,List.set_getElem_self,hi1];exact ih
theorem L4{a:List LB}(ha:∀y∈a,y.length<=17179869184)(ha2:a.length<=100000)(b f g:Int)(h:LB){x:LB}{s:LX}{z:LB}(hx:x.length<=17179869184)(hs:s.length<=17179869184)(hz:z.length<=17179869184)(k:Bool)(m:Int):CW b f g h x s a z k m=some (b,f,g,h,x,s,a,z,k,m):=by
 have hl:=lX a ha (List.replicate a.length []) (by rw[Au7]) ha2 b f g h k m x s z a.length 0 Ap F0 F9;have hc:XH (List.replicate a.length []) a=a:=by rw[XH,Au7,Ay7,Ayi (by rw[Au7];omega),Ar5]
 rw[CW,KI,Bb,By (by simpa using hx),Aa,Aa,Ci,By (by simpa using hs),Aa,Aa,Bb,By (by simpa using hz),Aa,Aa,bL,KT,M4 Bbz Bbz,Aa,Bq Bce,Aa];simp only[Awd,Ac,Ak3,hc];exact hl
section
variable {c w r:Nat} {p:LB} (h:EncOk c w r p)
include h
theorem R7(t:LB)(hR:Nc c r (nE c w t)):My (c:Int) (w:Int) (r:Int) p (RE c w t) (SE c w r t) (FE c w r p t) [] false 0=some ((c:Int),(w:Int),(r:Int),p,RE c w t,SE c w r t,FE c w r p t,[],false,0,(Ak r:Int),0):=by
 have h1:=vV h t;have hs:=gX h;have hsl:=YQ h t;have hfl:=nI (c:=c) (w:=w) (r:=r) (p:=p) t;have hn4:=hR.1;have hmod:nE c w t %Ak r*c<=nE c w t*c:=Ado _ (Baz _ _);have hn:nE c w t<=4000:=by
  have:nE c w t*1<=nE c w t*c:=Aw7 _ h.ch.1;omega
 have hk:kE c w r t<=nE c w t:=Atp _ _;have hlt:=IQ h.rate.2;have hLc:Ak r*c<=1100000*6:=Awg F0 h.ch.2;have htw:=L4 (a:=FE c w r p t) (λy hy=>by have:=ql h t hR y hy;omega) F0 (c:Int) (w:Int) (r:Int) p (x:=RE c w t) (s:=SE c w r t) (z:=[]) F0 F0 Bbn false 0;rw[My,FL,tN h t hR,Aa,Abw F5,jB h.rate.1 h.rate.2,Aa];simp only;rw[Abw F5,Abw F5,Pe,Nz,htw,Aa]
abbrev Ayz:=Int×Int×Int×LB×LB×LX×(List LB)×LB×Bool×Int×Int
def Aei(c w r:Nat)(p t:LB):Ayz:=if Nc c r (nE c w t)then((c:Int),(w:Int),(r:Int),p,RE c w t,SE c w r t,FE c w r p t,[],false,0,0)else((c:Int),(w:Int),(r:Int),p,[],[],[],[],false,18,18)
theorem mQ(t b:LB)(hb:b.length<=1000000):∀(j u q:Nat) (T:LB),u+j=b.length->j<q->T=t++b.take u->Nc c r (nE c w T)->Gj (lI c w:Int) b (c:Int) (w:Int) (r:Int) p false 0 (Ak r:Int) [] q (u:Int) (RE c w T) (SE c w r T) (FE c w r p T)=some (Aei c w r p (t++b))
 |j,u,0,T,_,h,_,_=>absurd h (Aw9 _)
 |0,u,q+1,T,hu,_,hT,hR=>by
  rw[Apn F0]at hT;rw[Gj,Up,Abw F3,GV,VB,Aei,<-hT,Acu hR]
 |j+1,u,q+1,T,hu,hq,hT,hR=>by
  have hc:=h.ch;have hs:=gX h;have hu1:Ad (u:Int) 1=((u+1:Nat):Int):=by rw[Ag];omega
  have hT':T++[b[u]' F0]=t++b.take (u+1):=by rw[hT,Mf F0,Atj]
  have hpre:(T++[b[u]' F0]).length<= (t++b).length:=by rw[hT',Ac2,Ac2,Ajc];omega
  have hmono:nE c w (T++[b[u]' F0])<=nE c w (t++b):=Nat.div_le_div_right hpre;have hgd:Aj b (u:Int)=some (b[u]' F0):=Cr;generalize b[u]' F0=d at hT' hpre hmono hgd⊢;have ih:=mQ t b hb j (u+1) q (T++[d]) F0 F0 hT';have htl:=vV h T;have hsl:=YQ h T;have hfl:=nI (c:=c) (w:=w) (r:=r) (p:=p) T;have hn4:=hR.1;have hmod:nE c w T %Ak r*c<=nE c w T*c:=Ado _ (Baz _ _);have hn:nE c w T<=4000:=by
   have:nE c w T*1<=nE c w T*c:=Aw7 _ hc.1;omega
  have hk:kE c w r T<=nE c w T:=Atp _ _;have hlt:=IQ h.rate.2;rw[Gj,Up,Acu F3,hgd,Aa,By F6,Aa];by_cases hlt1:(RE c w T).length+1<lI c w
  ·obtain⟨m1,m2,m3⟩:=Atq h T d hlt1;obtain⟨g1,g2,g3⟩:=Awr h T (b:=d) hlt1;rw[m1,m3,g2,g3]at ih;rw[Acu (by rw[Af,Ac,Ac2,Aw2];simp;omega),Ky,Uc,hu1];exact ih hR
  ·obtain⟨m0,m1,m2,m3⟩:=Ato h T d hlt1;obtain⟨g1,g2⟩:=Axo h T (b:=d) hlt1;have hcnt:=uL h T hR p (RE c w T++[d]) [] false 0 (w:Int) (r:Int);have hroom:Qm (c:Int) (w:Int) (r:Int) p (RE c w T++[d]) (SE c w r T) (FE c w r p T) [] false 0 (Ad (Ac (FE c w r p T)) 1) (Ad (nE c w T:Int) 1)=some (decide ((kE c w r T:Int)+1<=1000)&&decide ((((nE c w T+1)*c:Nat):Int)<=4000)):=by
    have hle:(nE c w T+1)*c<=4001*6:=Awg F0 hc.2;rw[Qm,Ac,hfl,Ag,Ag,show(nE c w T:Int)+1=((nE c w T+1:Nat):Int) by omega,Fj Bby Bby,<-Ap8,bO,bO]
   rw[Abw (by rw[Af,Ac,Ac2,Aw2];simp;omega),hcnt,Aa,hroom,Aa];by_cases hok:kE c w r T+1<=1000/\ (nE c w T+1)*c<=4000
   ·have hR':Nc c r (nE c w (T++[d])):=by rw[m1];exact⟨hok.2, .inr (by rw[Nat.add_sub_cancel];exact hok.1)⟩
    have ih:=ih hR';have Az8:=Z2 (RE c w T++[d]) h.bits (m:=c) (by rw[Ac2,Aw2,m0];rfl) F0;have hLc:Ak r*c<=1100000*6:=Awg F0 hc.2;have hmul:Az (Ak r:Int) (c:Int)=((Ak r*c:Nat):Int):=by rw[Fj Bby Bby,<-Ap8]
    rw[Abw (by rw[decide_eq_true (show(kE c w r T:Int)+1<=1000 by omega),decide_eq_true (show(((nE c w T+1)*c:Nat):Int)<=4000 by omega)];decide),FT,VD,Az8,Aa];simp only;rw[Abw F5,By (by rw[qK];omega),Aa,hmul];by_cases hfull:(SE c w r T++dP (wB (w:Int)) c (RE c w T++[d])).length<Ak r*c
    ·obtain⟨k1,k2,k3⟩:=g1 hfull;rw[m3,k2,k3]at ih;rw[Acu (by rw[Af,Ac];simp only[Adp];omega),Gq,Ug,Abw F5,Ky,Uc,hu1];exact ih
    ·obtain⟨k0,k1,k2,k3⟩:=g2 hfull;rw[m3,k2,k3]at ih;have hXl:Ak r*c<=4000:=by
      have e:=hR'.1;have hlen:(XE c w (T++[d])).length=nE c w (T++[d])*c:=gS (T++[d]);have hdk:=ig (r:=r) h (T++[d]);rw[k1,Ajz,Avd]at hdk;omega
     have hin:inR (w:Int) (SE c w r T++dP (wB (w:Int)) c (RE c w T++[d])):=by
      intro v hv;rw[List.mem_append]at hv;rcases hv with hv|hv
      ·exact qy h T v (Azg hv)
      ·exact Agk h.bits _ _ v hv
     have hLp:=Ba7 (Hw r) hc.1;have henc:=rB (t:=Ox p) (x:=SE c w r T++dP (wB (w:Int)) c (RE c w T++[d])) h.bits (nJ p) hc.1 hc.2 F0 F0 (by rw[k0];exact Ayc _ _) hin;rw[Abw (by rw[Af,Ac];simp only[Adp];omega),W7 p h.pass,Aa];simp only;rw[Abw F5,henc,Aa];simp only;rw[Abw F5,By F6,Aa,VN,WR,Gq,Ug,Abw F5,Ky,Uc,hu1];exact ih
   ·have hno:¬Nc c r (nE c w (t++b)):=by
     intro hh;have:=hh.mono hmono;rw[m1]at this;obtain⟨z1,z2⟩:=this;apply hok;rw[Nat.add_sub_cancel]at z2;have hkE:kE c w r T=nE c w T/Ak r:=rfl;omega
    rw[Acu (by
     rw[Atz,Bool.and_eq_false_iff,Ayv,Ayv];omega),Gq,Ug,Acu F5,Qh,Aa,Aei,Abw hno]
theorem P0(t b:LB)(hb:b.length<=1000000)(hR:Nc c r (nE c w t)):Dg (c:Int) (w:Int) (r:Int) p (RE c w t) (SE c w r t) (FE c w r p t) [] false 0 b=some (Aei c w r p (t++b)):=by
 have hl:=mQ h t b hb b.length 0 Ap t F0 F9 Bbn hR;rw[Dg,Xy,R7 h t hR,Aa];simp only;rw[Abw F5,Agy h,Aa,WH];exact hl
theorem rz:AD (c:Int) (w:Int) (r:Int) p=some ((c:Int),(w:Int),(r:Int),p,RE c w [],SE c w r [],FE c w r p [],[],false,0,0):=by
 have h0:nE c w []=0:=Nat.zero_div _;have hk:kE c w r []=0:=by rw[kE,h0];exact Nat.zero_div _
 rw[AD,tP h,Aa];simp only;rw[Abw F5,RE,SE,FE,XE,hk,h0];simp[dP,Gb]
omit h in
theorem X9(c r:Nat):Nc c r 0:=⟨F0, .inl rfl⟩
end
theorem M0(l:List LB)(hf:l.flatten.length<=1000000)(hl:l.length<=1000000)(v:LB)(hfin:Er l (l.flatten.length:Int)=some v):∀(j i q:Nat),i+j=l.length->j<q->Cb l q (((l.take i).flatten.length:Nat):Int) (i:Int)=some v
 |j,i,0,_,h=>absurd h (Aw9 _)
 |0,i,q+1,hi,_=>by
  rw[Cb,Cw,Abw F3,Apn F0];exact hfin
 |j+1,i,q+1,hi,hq=>by
  have ih:=M0 l hf hl v hfin j (i+1) q F0 F0;have hi1:Ad (i:Int) 1=((i+1:Nat):Int):=by rw[Ag];omega
  have hsn:(l.take (i+1)).flatten=(l.take i).flatten++l[i]:=by rw[Mf F0,Bas];simp
  have hsp:l.flatten=(l.take (i+1)).flatten++(l.drop (i+1)).flatten:=by rw[<-Bas,Ayr]
  have hle:((l.take i).flatten).length+(l[i]).length<=1000000:=by
   rw[hsp,Ac2,hsn,Ac2]at hf;omega
  have hadd:Ad (((l.take i).flatten.length:Nat):Int) (Ac l[i])=(((l.take (i+1)).flatten.length:Nat):Int):=by
   rw[Ac,Ag,hsn,Ac2];omega
  rw[Cb,Cw,Acu F3,Cr,Aa,hadd,Abw (by rw[Af];simp only[Adp];omega),hi1];exact ih
theorem G8(l:List LB)(hf:l.flatten.length<=1000000)(hl:l.length<=1000000):∀(j i q:Nat),i+j=l.length->j<q->Bt l q (i:Int) (l.take i).flatten=some l.flatten
 |j,i,0,_,h=>absurd h (Aw9 _)
 |0,i,q+1,hi,_=>by
  rw[Bt,Cq,Abw F3,Apn F0];rfl
 |j+1,i,q+1,hi,hq=>by
  have ih:=G8 l hf hl j (i+1) q F0 F0;have hi1:Ad (i:Int) 1=((i+1:Nat):Int):=by rw[Ag];omega
  have hsn:(l.take (i+1)).flatten=(l.take i).flatten++l[i]:=by rw[Mf F0,Bas];simp
  have hsp:l.flatten=(l.take (i+1)).flatten++(l.drop (i+1)).flatten:=by rw[<-Bas,Ayr]
  have hle:((l.take i).flatten).length+(l[i]).length<=1000000:=by
   rw[hsp,Ac2,hsn,Ac2]at hf;omega
  rw[Bt,Cq,Acu F3,Cr,Aa,By,Aa,hi1,<-hsn];exact ih
theorem Ae7(l:List LB)(hf:l.flatten.length<=1000000)(hl:l.length<=1000000):Dm l=some l.flatten:=by
 have h3:Ep l []=some l.flatten:=by
  rw[Ep,Gv,Gt];exact G8 l hf hl l.length 0 Ap F0 F9
 have h11:Er l (l.flatten.length:Int)=some l.flatten:=by
  have z:Ah (0:Int) 0=0:=F5
  rw[Er,Gw,Abw (by rw[Af];simp only[Adp];omega),Kt,Gx,z,Ca,Int.sub_zero];by_cases hp:0<l.flatten.length
  ·rw[Acu (by rw[Ba];simp only[Adp];omega),show jS (0:Int) 0 0=some ()from rfl,Aa,M4,Aa,By (by simp only[Ba1,Au7];omega),Aa];rw[show jS (Ac ([]++List.replicate ((l.flatten.length:Nat):Int).toNat (0:UInt8))) 0 0=some () by rw[jS,Bq];simp[Ac],Aa];simp only[ZI,Int.sub_self,Int.toNat_zero,Ban];exact h3
  ·rw[Abw (by rw[Ba];simp only[Adp];omega)];exact h3
 have:=M0 l hf hl _ h11 l.length 0 Ap F0 F9;exact this
theorem Adv{p:LB}(hp:p.length<=64):HL p=some ((VJ p:Int),0):=by
 rw[HL,Abw Bbq,VJ];by_cases h:p=[]
 ·rw[Acu (by rw[Bl,Ac,h];rfl),Acu h];rfl
 ·have:p.length≠0:=λe=>h (Auh e);rw[Abw (by rw[Bl,Ac,Bad];omega),Abw h];rfl
theorem J2(a:List LB)(ha:a.length<=100000)(f g h:Int)(b k:LB)(m:LX)(n:LB)(o:Bool)(p:Int)(u v:LB)(hfin:Qs f g h b k m a n o p u (Pc a)=some (v,0)):∀(j i q:Nat),i+j=a.length->j<q->Mi a f g h b k m n o p u q (i:Int) (Pc (a.take i))=some (v,0)
 |j,i,0,_,h=>absurd h (Aw9 _)
 |0,i,q+1,hi,_=>by
  rw[Mi,Xm,Abw F3,Apn F0];exact hfin
 |j+1,i,q+1,hi,hq=>by
  have ih:=J2 a ha f g h b k m n o p u v hfin j (i+1) q F0 F0;have hi1:Ad (i:Int) 1=((i+1:Nat):Int):=by rw[Ag];omega
  have hll:(Pc (a.take i)).length=i:=by rw[FW,Ajc];omega
  have hsn:Pc (a.take i)++[Ac a[i]]=Pc (a.take (i+1)):=by rw[Mf F0,Pc,Pc,Azd];rfl
  rw[Mi,Xm,Acu F3,Cr,Aa,By F6,Aa,hsn,hi1];exact ih
theorem Abs{c w r n:Nat}(h:ClipOk c w r n x){p:LB}(hp:p.length<=64)(k:LB)(m:LX)(n':LB)(o:Bool)(e:Int):ND (c:Int) (w:Int) (r:Int) p k m (tF c w r n x p) n' o e (n:Int)=some (lN c w r n x p,0):=by
 have hn:=Af5 h p;have hl:=Aj7 h p;have hlen:=S0 (c:=c) (w:=w) (r:=r) (n:=n) (x:=x) p;have hdl:=Ac8 p;have hfin:Qs (c:Int) (w:Int) (r:Int) p k m (tF c w r n x p) n' o e (Abo (VJ p) c w r n++Q1 p) (Pc (tF c w r n x p))=some (lN c w r n x p,0):=by
  have hh:=O5 (VJ p) c w r n;have ht:=Ab1 (Pc (tF c w r n x p));have hll:=FW (tF c w r n x p);rw[Qs,Xl,Adc,Acu (Ame h p),Aa];simp only;rw[Abw F5,By Bb3,Aa,Ae7 _ F0 F0,Aa,By (by rw[Ac2,Ac2];omega),Aa];simp[lN]
 have hlp:=J2 (tF c w r n x p) F0 (c:Int) (w:Int) (r:Int) p k m n' o e (Abo (VJ p) c w r n++Q1 p) _ hfin (tF c w r n x p).length 0 Ap F0 F9;rw[ND,KE,Adv hp,Aa];simp only;rw[Abw F5,tq (h.shape _ (Anx p)) h.fit,Aa];simp only;rw[Abw F5];by_cases h0:p=[]
 ·have e2:Q1 p=[]:=by rw[Q1,Acu h0]
  rw[e2,Ar5]at hlp;rw[Abw (by simp[h0]),KB,Xx];exact hlp
 ·have e2:Q1 p=Wu (RC p).toNat 8:=by rw[Q1,Abw h0]
  rw[e2]at hlp;rw[Acu (by simpa using h0),Ai2 p hp,Aa];simp only;rw[Abw F5,By (by rw[O5,Di];omega),Aa,KB,Xx];exact hlp
section
variable {c w r:Nat} {p:LB} (h:EncOk c w r p) (t:LB) (hR:Nc c r (nE c w t))
include h hR
theorem Acb(h1:1<=nE c w t):ClipOk c w r (nE c w t) (XE c w t):=by
 have hc:=h.ch;refine⟨hc,h.bits,h.rate,⟨h1,?_⟩,gS t,?_,qy h t⟩
 ·rw[Nat.le_div_iff_mul_le F0];exact hR.1
 ·rcases hR.2 with h0|h0
  ·omega
  ·exact h0
omit hR in
theorem Ad8(h1:1<=nE c w t):tF c w r (nE c w t) (XE c w t) p=FE c w r p t++(if SE c w r t=[]then []else [BE (w:Int) c (Ox p) (SE c w r t)]):=by
 have hc:=h.ch;have hp:=Hw r;obtain⟨d1,d2⟩:=vR h t;have hsl:=YQ h t;have key:rE c r (nE c w t) (XE c w t)=Gb c (XE c w t) (List.replicate (kE c w r t) (Ak r:Int))++(if SE c w r t=[]then []else [SE c w r t]):=by
  by_cases hz:nE c w t %Ak r=0
  ·have hS:SE c w r t=[]:=Auh (by rw[hsl,hz,Bbf]);rw[Acu hS,Ar5,rE];congr 1;rw[hz,Ayq]at d1;have hk1:1<=kE c w r t:=by
    rcases Bag (kE c w r t)with h0|h0
    ·rw[h0,Bbf]at d1;omega
    ·exact h0
   obtain⟨k',hk'⟩:∃k',kE c w r t=k'+1:=⟨kE c w r t-1,F0⟩;have hd:(nE c w t-1)/Ak r=k':=by
    rw[hk',Ajz,Avd]at d1;exact Azb F0 Bb1
   rw[Cv,hd,hk',List.replicate_succ'];congr 2;rw[hk',Ajz,Avd]at d1;omega
  ·have hS:SE c w r t≠ []:=by
    intro e;have:=congrArg List.length e;rw[hsl,Ba1]at this;rcases Nat.mul_eq_zero.1 this with h0|h0<;>omega
   have hd:(nE c w t-1)/Ak r=kE c w r t:=Azb F0 Bb1;have hdk:=ig (r:=r) h t;rw[Abw hS,rE,Cv,hd,sZ c _ _ _ (Alu _ _),N5,Gb,Gb,Ak3];congr 2;rw[Apn]
   ·rfl
   ·rw[Apl,gS,<-At1,<-Ba4];exact Aqm _
 rw[tF,key,Azd,FE];congr 1;split<;>rfl
theorem M6:Dk (c:Int) (w:Int) (r:Int) p (RE c w t) (SE c w r t) (FE c w r p t) [] false 0=
  some (if RE c w t≠ []\/nE c w t=0 then((c:Int),(w:Int),(r:Int),p,[],[],[],[],false,24,24)else((c:Int),(w:Int),(r:Int),p,[],[],[],lN c w r (nE c w t) (XE c w t) p,true,0,0)):=by
 have hc:=h.ch;have hsl:=YQ h t;have hfl:=nI (c:=c) (w:=w) (r:=r) (p:=p) t;have hn4:=hR.1;have hmod:nE c w t %Ak r*c<=nE c w t*c:=Ado _ (Baz _ _);have hn:nE c w t<=4000:=by
  have:nE c w t*1<=nE c w t*c:=Aw7 _ hc.1;omega
 have hk:kE c w r t<=nE c w t:=Atp _ _;rw[Dk,DS,R7 h t hR,Aa];simp only;rw[Abw F5,uL h t hR,Aa];by_cases hbad:RE c w t≠ []\/nE c w t=0
 ·have hcond:((Eg (Ac (RE c w t)) 0)||(geq (nE c w t:Int) 0))=true:=by
   rcases hbad with h0|h0
   ·have:RE c w t≠ []:=h0;have hl:0<(RE c w t).length:=List.length_pos_iff.2 this;rw[Ba,Ac,Awo];left;simpa using hl
   ·rw[h0];simp[Bl]
  rw[Acu hbad,Acu hcond,Qh,Aa]
 ·have hR0:RE c w t=[]:=by
   by_cases h0:RE c w t=[]
   ·exact h0
   ·exact absurd (.inl h0) hbad
  have hn1:1<=nE c w t:=by
   rcases Bag (nE c w t)with h0|h0
   ·exact absurd (.inr h0) hbad
   ·exact h0
  have hcl:=Acb h t hR hn1;have hfr:=Ad8 h t hn1;have hcond:¬(((Eg (Ac (RE c w t)) 0)||(geq (nE c w t:Int) 0))=true):=by rw[hR0];simp[Ba,Bl,Ac];omega
  rw[Abw hbad,Abw hcond];by_cases hS:SE c w r t=[]
  ·rw[Acu hS,Ar5]at hfr;have hf:=Abs hcl h.pass (RE c w t) (SE c w r t) [] false 0;rw[hfr]at hf;rw[Abw (by rw[hS];decide),So,BL,hf,Aa];simp only;rw[Abw F5]
  ·rw[Abw hS]at hfr;have hl:0<(SE c w r t).length:=List.length_pos_iff.2 hS;have hin:inR (w:Int) (SE c w r t):=λv hv=>qy h t v (Azg hv);have henc:=rB (t:=Ox p) (x:=SE c w r t) h.bits (nJ p) hc.1 hc.2 F0 F0 (by rw[hsl];exact Ayc _ _) hin;have hf:=Abs hcl h.pass (RE c w t) [] [] false 0;rw[hfr]at hf;rw[Acu (by rw[Ba,Ac];simpa using hl),W7 p h.pass,Aa];simp only;rw[Abw F5,henc,Aa];simp only;rw[Abw F5,By F6,Aa,RZ,RO,Abw F5,So,BL,hf,Aa];simp only;rw[Abw F5]
end
structure Brst (b x:LB):Prop where
 len:x.length=b.length
 win:∃k W:Nat,0<W/\W<2^32/\Hx b^^^Hx x=2^k*W
theorem Brst.ne{b x:LB}(h:Brst b x):b≠x:=by
 obtain⟨_,k,W,h1,h2,h3⟩:=h;intro e;rw[e,Nat.xor_self]at h3;have:=Ba7 (Nat.two_pow_pos k) h1;omega
inductive Pl (S D A:Int) (G:Nat->Int) (l:LI) (a:Int):UInt8->Int->Int->Prop
 |t:a<S->Pl S D A G l a 1 0 0
 |h:S<=a->a<S+22->Pl S D A G l a 2 0 0
 |d:S+22<=a->a<D->Pl S D A G l a 3 0 0
 |s:S+22<=a->D<=a->a<A->Pl S D A G l a 4 0 0
 |f (i:Nat):S+22<=a->D<=a->A<=a->i<l.length->A+(l.take i).sum<=a->a<A+(l.take (i+1)).sum->Pl S D A G l a 5 i (G i)
 |b:S+22<=a->D<=a->A<=a->A+l.sum<=a->Pl S D A G l a 6 0 0
theorem ClipOk.enc{c w r n:Nat}(h:ClipOk c w r n x){p:LB}(hp:p.length<=64):EncOk c w r p:=⟨h.ch,h.bits,h.rate,hp⟩
theorem Bh.len{o s p:LB}{f c w r n:Int}{g:LI}{a:Int}{x:LB}{e:Int}(h:Bh o s p f c w r n g a x e):p.length<=s.length/\g.length<=1000/\x.length<=13000000:=by
 cases h with
 |wt W hl hb=>exact⟨hl,W.sz.hg,by have:=W.sz.hx;omega⟩
 |er h0 hc hx hb=>exact⟨Bbn,Bbn,F0⟩
theorem Bcj{p:Prop}(h:p:=by simp[Ay,Ba,Ac];omega):p:=h
end Go.Pl
namespace Go.Pl
open Go Go.Lv
theorem Adh(C W R:Int)(p:LB):Gh C W R p=some 2\/ (∃c w r:Nat,C=(c:Int)/\W=(w:Int)/\R=(r:Int)/\EncOk c w r p/\Gh C W R p=some 0):=by
 have key:∀(m h:Int),Fw R=some (m,h)-> (h≠0\/Dx C W=some 2\/64<p.length)-> (∃k,Dx C W=some k)->Gh C W R p=some 2:=by
  intro m h h1 h2 ⟨k,hk⟩;rw[Gh,h1,Aa];simp only;rw[hk,Aa,Acu];rcases h2 with h2|h2|h2
  ·have:Bc h 0=true:=by rw[Ay];simpa using h2
   rw[this];simp
  ·rw[hk]at h2;have:=Bap h2;subst this;simp[Ay]
  ·have:Eg (Ac p) 64=true:=by rw[Ba,Ac];simp;omega
   rw[this];simp
 have hlong:∃m h,Fw R=some (m,h)/\ (h≠0↔ ¬(1<=R/\R<=1048576)):=by
  by_cases hR:1<=R/\R<=1048576
  ·obtain⟨r,rfl⟩:=Alg (show 0<=R by omega);exact⟨_,0,Adt F0 F0,by simp;omega⟩
  ·rw[Fw,Acu Bbu];exact⟨0,2,rfl,by simp;omega⟩
 have Az9:(Dx C W=some 2)\/ (1<=C/\C<=6/\Bw W/\Dx C W=some 0):=by
  rw[Dx];by_cases hC:((Cg C 1)||(Eg C 6))=true
  ·rw[Acu hC];exact .inl rfl
  ·rw[Abw hC];simp only[Awo,not_or,Ba,Af,Adp]at hC;by_cases hb:Bw W
   ·have hh:=eL W;rw[wC hb,Aa,Abw Bbs];exact .inr ⟨F0,F0,hb,rfl⟩
   ·rw[(Anc hb).1,Aa,Acu F5];exact .inl rfl
 obtain⟨m,hh,hl1,hl2⟩:=hlong;rcases Az9 with h1|⟨h1,h2,h3,h4⟩
 ·exact .inl (key m hh hl1 (.inr (.inl h1)) ⟨2,h1⟩)
 ·by_cases hR:1<=R/\R<=1048576
  ·by_cases hp:64<p.length
   ·exact .inl (key m hh hl1 (.inr (.inr hp)) ⟨0,h4⟩)
   ·have hh0:hh=0:=by
     refine Ay4 λhn=>?_;exact(hl2.1 hn) hR
    obtain⟨c,rfl⟩:=Alg (show 0<=C by omega);obtain⟨r,rfl⟩:=Alg (show 0<=R by omega);have hw:∃w:Nat,W=(w:Int):=by
     rcases h3 with rfl|rfl|rfl
     ·exact⟨8,rfl⟩
     ·exact⟨16,rfl⟩
     ·exact⟨24,rfl⟩
    obtain⟨w,rfl⟩:=hw;refine .inr ⟨c,w,r,rfl,rfl,rfl,⟨F0,h3,F0,F0⟩,?_⟩;rw[Gh,hl1,Aa];simp only;rw[h4,Aa,hh0,Abw Bcj]
  ·exact .inl (key m hh hl1 (.inl (hl2.2 hR)) ⟨0,h4⟩)
theorem Bck{p:Prop}(h:p:=by simp only[Apl];omega):p:=h
end Go.Pl
namespace Go.Pl
open Go Go.Lv
variable{u:Bool}{v k:Int}
structure Ue where
 m:LB
 s:LX
 fr:List LB
 X:LB
 u:Bool
 v:Int
def iF(X:LB)(u:Bool)(v k:Int):Prop:=(X=[]/\u=false/\ (v=18\/v=24)/\k=v)\/ (u=true/\v=0/\k=36)
theorem iF.drop{X:LB}(h:iF X u v k)(t:Nat):iF (X.drop t) u v k:=by
 rcases h with⟨h1,h2⟩|h
 ·exact .inl ⟨by rw[h1];simp,h2⟩
 ·exact .inr h
theorem iF.ne{X:LB}(h:iF X u v k):Bc k 0=true:=by
 rcases h with⟨_,_,h1|h1,h2⟩|⟨_,_,h2⟩
 ·rw[h2,h1];decide
 ·rw[h2,h1];decide
 ·rw[h2];decide
inductive OkE (c w r:Nat) (p:LB) (L:Nat):Ue->Prop
 |live {t:LB}:t.length+L<=600->Nc c r (nE c w t)->OkE c w r p L ⟨RE c w t,SE c w r t,FE c w r p t,[],false,0⟩
 |stop {X:LB} {u:Bool} {v k:Int}:X.length<=20000->iF X u v k->OkE c w r p L ⟨[],[],[],X,u,v⟩
section
variable {c w r:Nat} {p:LB} (h:EncOk c w r p)
include h
theorem jG{X:LB}(hX:X.length<=20000)(hs:iF X u v k):Jb (c:Int) (w:Int) (r:Int) p [] [] [] X u v=some 0:=by
 rw[Jb,tP h,Aa];simp only;rw[Abw F5];rcases hs with⟨rfl,rfl,h1|h1,_⟩|⟨rfl,rfl,_⟩
 ·subst h1;rw[Acu F5,Abw F5]
 ·subst h1;rw[Acu F5,Abw F5]
 ·rw[Abw F5,Acu (by trivial),Abw];have:xU (Ac X) 100000=true:=by rw[bO,Ac];simp;omega
  rw[this];decide
theorem wN{X:LB}(hX:X.length<=20000)(hs:iF X u v k):My (c:Int) (w:Int) (r:Int) p [] [] [] X u v=some ((c:Int),(w:Int),(r:Int),p,[],[],[],X,u,v,(Ak r:Int),k):=by
 have htw:=L4 (a:=[]) (λy hy=>by simp at hy) Bbn (c:Int) (w:Int) (r:Int) p (x:=[]) (s:=[]) (z:=X) Bbn Bbn F0 u v;rw[My,FL,jG h hX hs,Aa,Abw F5,jB h.rate.1 h.rate.2,Aa];simp only;rcases hs with⟨h0,h2,h1|h1,h3⟩|⟨h2,h1,h3⟩
 ·rw[h1]at htw⊢;rw[Acu F5,Pe,Nz,htw,Aa,h3,h1]
 ·rw[h1]at htw⊢;rw[Acu F5,Pe,Nz,htw,Aa,h3,h1]
 ·rw[h1,h2]at htw⊢;rw[Abw F5,Acu rfl,Pe,Nz,htw,Aa,h3]
theorem nD{X:LB}(hX:X.length<=20000)(hs:iF X u v k)(b:LB):Dg (c:Int) (w:Int) (r:Int) p [] [] [] X u v b=some ((c:Int),(w:Int),(r:Int),p,[],[],[],X,u,v,k):=by
 rw[Dg,Xy,wN h hX hs,Aa];simp only;rw[Acu hs.ne]
theorem tI{X:LB}(hX:X.length<=20000)(hs:iF X u v k):Dk (c:Int) (w:Int) (r:Int) p [] [] [] X u v=some ((c:Int),(w:Int),(r:Int),p,[],[],[],X,u,v,k):=by
 rw[Dk,DS,wN h hX hs,Aa];simp only;rw[Acu hs.ne]
def TH(c w r:Nat)(p t:LB):Ue:=if Nc c r (nE c w t)then⟨RE c w t,SE c w r t,FE c w r p t,[],false,0⟩else⟨[],[],[],[],false,18⟩
def fiE(c w r:Nat)(p t:LB):Ue:=if Nc c r (nE c w t)then(if RE c w t≠ []\/nE c w t=0 then⟨[],[],[],[],false,24⟩else⟨[],[],[],lN c w r (nE c w t) (XE c w t) p,true,0⟩)else⟨[],[],[],[],false,18⟩
omit h in
theorem Aly{t:LB}{L:Nat}(ht:t.length+L<=600):OkE c w r p L (TH c w r p t):=by
 rw[TH];split
 ·rename_i hR;exact .live ht hR
 ·exact .stop (k:=18) Bbn (.inl ⟨rfl,rfl, .inl rfl,rfl⟩)
theorem Ank(t:LB):nE c w t*c<=t.length:=by
 have h1:=vV h t;have h2:nE c w t*c<=nE c w t*lI c w:=by
  rw[lI];refine Aw7 _ ?_;have:=gX h;rw[lI]at this;rcases Bag (wB (w:Int))with h0|h0
  ·rw[h0]at this;omega
  ·exact Azf _ h0
 omega
theorem An9{t:LB}(ht:t.length<=600)(hR:Nc c r (nE c w t))(h1:1<=nE c w t):(lN c w r (nE c w t) (XE c w t) p).length<=20000:=by
 have hcl:=Acb h t hR h1;have e1:=Ac3 hcl p;have e2:=(Af5 hcl p).2;have e3:=gS (c:=c) (w:=w) t;have e4:=Ank h t;omega
theorem Aac{t:LB}(ht:t.length<=600):∃(X:LB) (u:Bool) (v k:Int),fiE c w r p t=⟨[],[],[],X,u,v⟩/\X.length<=20000/\iF X u v k:=by
 rw[fiE];split
 ·rename_i hR;split
  ·exact⟨_,_,_,24,rfl,Bbn, .inl ⟨rfl,rfl, .inr rfl,rfl⟩⟩
  ·rename_i hb;have h1:1<=nE c w t:=by
    rcases Bag (nE c w t)with h0|h0
    ·exact absurd (.inr h0) hb
    ·exact h0
   exact⟨_,_,_,36,rfl,An9 h ht hR h1, .inr ⟨rfl,rfl,rfl⟩⟩
 ·exact⟨_,_,_,18,rfl,Bbn, .inl ⟨rfl,rfl, .inl rfl,rfl⟩⟩
theorem Apo(t b:LB)(hb:b.length<=1000000):∃e:Int,Dg (c:Int) (w:Int) (r:Int) p (TH c w r p t).m (TH c w r p t).s (TH c w r p t).fr (TH c w r p t).X (TH c w r p t).u (TH c w r p t).v b=some ((c:Int),(w:Int),(r:Int),p,(TH c w r p (t++b)).m,(TH c w r p (t++b)).s,(TH c w r p (t++b)).fr,(TH c w r p (t++b)).X,(TH c w r p (t++b)).u,(TH c w r p (t++b)).v,e):=by
 have hmono:nE c w t<=nE c w (t++b):=Nat.div_le_div_right Bb3;by_cases hR:Nc c r (nE c w t)
 ·have h1:=P0 h t b hb hR;have e1:TH c w r p t=⟨RE c w t,SE c w r t,FE c w r p t,[],false,0⟩:=by rw[TH,Acu hR]
  rw[e1];simp only;rw[h1,Aei];by_cases hR2:Nc c r (nE c w (t++b))
  ·rw[Acu hR2,TH,Acu hR2];exact⟨_,rfl⟩
  ·rw[Abw hR2,TH,Abw hR2];exact⟨_,rfl⟩
 ·have hR2:¬Nc c r (nE c w (t++b)):=λhh=>hR (hh.mono hmono);have e1:TH c w r p t=⟨[],[],[],[],false,18⟩:=by rw[TH,Abw hR]
  have e2:TH c w r p (t++b)=⟨[],[],[],[],false,18⟩:=by rw[TH,Abw hR2]
  rw[e1,e2];exact⟨18,nD h Bbn (.inl ⟨rfl,rfl, .inl rfl,rfl⟩) b⟩
theorem Avj(t:LB):∃e:Int,Dk (c:Int) (w:Int) (r:Int) p (TH c w r p t).m (TH c w r p t).s (TH c w r p t).fr (TH c w r p t).X (TH c w r p t).u (TH c w r p t).v=some ((c:Int),(w:Int),(r:Int),p,(fiE c w r p t).m,(fiE c w r p t).s,(fiE c w r p t).fr,(fiE c w r p t).X,(fiE c w r p t).u,(fiE c w r p t).v,e):=by
 by_cases hR:Nc c r (nE c w t)
 ·have e1:TH c w r p t=⟨RE c w t,SE c w r t,FE c w r p t,[],false,0⟩:=by rw[TH,Acu hR]
  rw[e1];simp only;rw[M6 h t hR,fiE,Acu hR];by_cases hb:RE c w t≠ []\/nE c w t=0
  ·rw[Acu hb,Acu hb];exact⟨_,rfl⟩
  ·rw[Abw hb,Abw hb];exact⟨_,rfl⟩
 ·have e1:TH c w r p t=⟨[],[],[],[],false,18⟩:=by rw[TH,Abw hR]
  have e2:fiE c w r p t=⟨[],[],[],[],false,18⟩:=by rw[fiE,Abw hR]
  rw[e1,e2];exact⟨18,tI h Bbn (.inl ⟨rfl,rfl, .inl rfl,rfl⟩)⟩
def Afw(c w r:Nat)(p:LB)(U:Ue)(q:LB):Option (Int×Ue):=(Dg (c:Int) (w:Int) (r:Int) p U.m U.s U.fr U.X U.u U.v q).bind λ(_,_,_,_,m,s,f,x,u,v,e)=>some (e,⟨m,s,f,x,u,v⟩)
def Asb(c w r:Nat)(p:LB)(U:Ue):Option (Int×Ue):=(Dk (c:Int) (w:Int) (r:Int) p U.m U.s U.fr U.X U.u U.v).bind λ(_,_,_,_,m,s,f,x,u,v,e)=>some (e,⟨m,s,f,x,u,v⟩)
theorem All{L:Nat}{U:Ue}(hU:OkE c w r p L U)(q:LB)(hq:q.length<=L):
  ∃(e:Int) (U':Ue),Afw c w r p U q=some (e,U')/\OkE c w r p (L-q.length) U'/\U'.X=U.X/\
   ∀t,t<=U.X.length->Dg (c:Int) (w:Int) (r:Int) p U.m U.s U.fr (U.X.drop t) U.u U.v q=some ((c:Int),(w:Int),(r:Int),p,U'.m,U'.s,U'.fr,U'.X.drop t,U'.u,U'.v,e):=by
 cases hU with
 |live hl hR=>
  rename_i t;obtain⟨e,h1⟩:=Apo h t q F0;have e1:TH c w r p t=⟨RE c w t,SE c w r t,FE c w r p t,[],false,0⟩:=by rw[TH,Acu hR]
  have hx:(TH c w r p (t++q)).X=[]:=by rw[TH];split<;>rfl
  rw[e1]at h1;simp only at h1;refine⟨e,TH c w r p (t++q),by rw[Afw];simp only;rw[h1];rfl,Aly Bb3,hx,λn hn=>?_⟩;simp only[List.drop_nil];rw[h1,hx,List.drop_nil]
 |stop hx hs=>
  rename_i X u v k;refine⟨k,⟨[],[],[],X,u,v⟩,?_, .stop hx hs,rfl,λn hn=>?_⟩
  ·rw[Afw];simp only;rw[nD h hx hs q];rfl
  ·exact nD h Bck (hs.drop n) q
theorem Aqd{L:Nat}{U:Ue}(hU:OkE c w r p L U):
  ∃(e:Int) (U':Ue),Asb c w r p U=some (e,U')/\OkE c w r p L U'/\ (∃y,U'.X=U.X++y)/\
   ∀t,t<=U.X.length->Dk (c:Int) (w:Int) (r:Int) p U.m U.s U.fr (U.X.drop t) U.u U.v=some ((c:Int),(w:Int),(r:Int),p,U'.m,U'.s,U'.fr,U'.X.drop t,U'.u,U'.v,e):=by
 cases hU with
 |live hl hR=>
  rename_i t;obtain⟨e,h1⟩:=Avj h t;obtain⟨X,u,v,k,f1,f2,f3⟩:=Aac h (t:=t) F0;have e1:TH c w r p t=⟨RE c w t,SE c w r t,FE c w r p t,[],false,0⟩:=by rw[TH,Acu hR]
  rw[e1,f1]at h1;simp only at h1;refine⟨e,⟨[],[],[],X,u,v⟩,by rw[Asb];simp only;rw[h1];rfl, .stop f2 f3,⟨X,rfl⟩,λn hn=>?_⟩;simp only[Ba1]at hn;obtain rfl:n=0:=F0
  simp only[List.drop_zero];exact h1
 |stop hx hs=>
  rename_i X u v k;refine⟨k,⟨[],[],[],X,u,v⟩,?_, .stop hx hs,⟨[],(Ar5 _).symm⟩,λn hn=>?_⟩
  ·rw[Asb];simp only;rw[tI h hx hs];rfl
  ·exact tI h Bck (hs.drop n)
theorem OkE.szs{L:Nat}{U:Ue}(hU:OkE c w r p L U):U.m.length<=20000/\U.s.length<=20000/\U.fr.length<=4000/\U.X.length<=20000/\ (∀y∈U.fr,y.length<=17179869184)/\∀t,Jb (c:Int) (w:Int) (r:Int) p U.m U.s U.fr (U.X.drop t) U.u U.v=some 0:=by
 cases hU with
 |live hl hR=>
  rename_i t;have h1:=vV h t;have hsl:=YQ h t;have hfl:=nI (c:=c) (w:=w) (r:=r) (p:=p) t;have hs:=gX h;have hmod:nE c w t %Ak r*c<=nE c w t*c:=Ado _ (Baz _ _);have hn:=Ank h t;have hk:kE c w r t<=nE c w t:=Atp _ _;have hlt:=IQ h.rate.2;have hnn:nE c w t<=nE c w t*c:=Azf _ h.ch.1;have hLc:Ak r*c<=1100000*6:=Awg F0 h.ch.2;exact⟨by simp only;omega,by simp only;omega,by simp only;omega,Bbn,λy hy=>by have:=ql h t hR y hy;omega,λn=>by simp only[List.drop_nil];exact tN h t hR⟩
 |stop hx hs=>
  refine⟨Bbn,Bbn,Bbn,hx,λy hy=>by simp at hy,λn=>?_⟩;exact jG h Bck (hs.drop n)
theorem Ake{L:Nat}{U:Ue}(hU:OkE c w r p L U)(t:Nat)(m:Nat):
  Rb (c:Int) (w:Int) (r:Int) p U.m U.s U.fr (U.X.drop t) U.u U.v (m:Int)=some ((c:Int),(w:Int),(r:Int),p,U.m,U.s,U.fr,(U.X.drop t).drop (min m (U.X.drop t).length),U.u,U.v,(U.X.drop t).take (min m (U.X.drop t).length),0):=by
 obtain⟨s1,s2,s3,s4,s5,s6⟩:=hU.szs h;have hl:(U.X.drop t).length<=20000:=by rw[Apl];omega
 have htw:=L4 (a:=U.fr) s5 F0 (c:Int) (w:Int) (r:Int) p (x:=U.m) (s:=U.s) (z:=U.X.drop t) F0 F0 F0 U.u U.v;have hm:Dt (m:Int) (Ac (U.X.drop t))=((min m (U.X.drop t).length:Nat):Int):=by rw[Yd,Ac];omega
 rw[Rb,s6 t,Aa,Abw F5,Abw Bbw,htw,Aa];simp only;rw[hm,Qa,Aa,Ak3,Bb,By (by rw[Ba1,Ajc];omega),Aa,Aa,AM,Aa,Ak3,Awd]
end
theorem Bcm{p:Prop}(h:p:=by rw[Ac2];simp;omega):p:=h
end Go.Pl
namespace Go.Pl
open Go Go.Lv
section
variable {c w r:Nat} {p:LB} (h:EncOk c w r p)
include h
def Ags(c w r:Nat)(p:LB)(st:ru)(inp:LB)(U:Ue):Option (Int×Ue×LB):=
 if st.1=1 then(Afw c w r p U (inp.take (min st.2.1.toNat inp.length))).bind λz=>some (z.1,z.2,inp.drop (min st.2.1.toNat inp.length))
 else if st.1=2 then some (0,U,inp)
 else(Asb c w r p U).bind λz=>some (z.1,z.2,inp)
def Akm(c w r:Nat)(p:LB):List ru->LB->Ue->Option (LI×Ue×LB)
 |[],inp,U=>some ([],U,inp)
 |st::l,inp,U=>(Ags c w r p st inp U).bind λz=>(Akm c w r p l z.2.2 z.2.1).bind λy=>some (z.1::y.1,y.2)
theorem kG{b:List ru}(hb:b.length<=200)(hv:∀st∈b,VS st):∀(k i t q:Nat) (U:Ue) (inp:LB) (aa:List Sad),i+k=b.length->k<q->inp.length<=600->OkE c w r p inp.length U->t<=U.X.length->aa.length<=i->
  ∃(es:LI) (U':Ue) (inp':LB) (ds:List Sad) (t':Nat),Akm c w r p (b.drop i) inp U=some (es,U',inp')/\OkE c w r p inp'.length U'/\t'<=U'.X.length/\SRs (b.drop i) es ds/\U.X.take t++outs ds=U'.X.take t'/\
   En b q (i:Int) (c:Int) (w:Int) (r:Int) p (U.X.drop t) U.u U.v inp aa U.m U.s U.fr=some ((c:Int),(w:Int),(r:Int),p,U'.m,U'.s,U'.fr,U'.X.drop t',U'.u,U'.v,aa++ds,0)/\lL b i t U.X t' U'.X
 |k,i,t,0,U,inp,aa,_,hq,_,_,_,_=>absurd hq (Aw9 _)
 |0,i,t,q+1,U,inp,aa,hi,hq,hin,hU,ht,haa=>by
  refine⟨[],U,inp,[],t,by rw[List.drop_eq_nil_of_le F0];rfl,hU,ht,by rw[List.drop_eq_nil_of_le F0];exact .nil,by simp[outs],?_, .nil F0⟩;rw[En,Mo,Abw F3,DU,TA,SW,SD,Ar5]
 |k+1,i,t,q+1,U,inp,aa,hi,hq,hin,hU,ht,haa=>by
  have hlt:i<b.length:=F0
  obtain⟨hop,hn0,hn1⟩:=hv b[i] (Awc hlt);have hdrop:b.drop i=b[i]::b.drop (i+1):=(List.getElem_cons_drop hlt).symm;obtain⟨m,hm⟩:∃m:Nat,b[i].2.1=m:=⟨b[i].2.1.toNat,F0⟩;have hgi:Ad (i:Int) 1=((i+1:Nat):Int):=by rw[show(1:Int)=((1:Nat):Int)from rfl,Ag];omega
  rw[En,Mo,Acu F3,Cr hlt,Aa];rcases hop with h1|h1|h1
  ·
   have hg1:geq b[i].1 1=true:=by rw[h1];rfl
   have hmin:Dt b[i].2.1 (Ac inp)=((min m inp.length:Nat):Int):=by rw[hm,Yd,Ac];omega
   obtain⟨e,U1,f1,f2,f3,f4⟩:=All h hU (inp.take (min m inp.length)) Bch;have hl:(inp.take (min m inp.length)).length=min m inp.length:=by rw[Ajc];omega
   rw[hl]at f2;have hl2:(inp.drop (min m inp.length)).length=inp.length-min m inp.length:=Apl;rw[<-hl2]at f2;obtain⟨es,U2,Ak4,ds,t2,r1,r2,r3,r4,r5,r6,r7⟩:=kG hb hv k (i+1) t q U1 (inp.drop (min m inp.length)) (aa++[(e,[],())]) F0 F0 F0 f2 (by rw[f3];omega) Bcm;refine⟨e::es,U2,Ak4,(e,[],())::ds,t2,?_,r2,r3,?_,?_,?_, .other hlt (by rw[h1];decide) r7⟩
   ·rw[hdrop,Akm,Ags,Acu h1,hm,Ak3,f1,Aa,Aa];simp only;rw[r1,Aa]
   ·rw[hdrop];exact .cons ⟨rfl,λh=>by rw[h1]at h;exact absurd h F5,λ_=>rfl⟩ r4
   ·rw[<-r5,f3];simp[outs]
   ·rw[Acu hg1,hmin,Qa,Ak3,Aa,f4 t ht,Aa];simp only;rw[CC,Sf,hmin,AM,Aa,By F6,Aa,Em,Sj,hgi,Ak3,r6];simp
  ·
   have hg1:¬geq b[i].1 1=true:=by rw[h1];decide
   have hg2:geq b[i].1 2=true:=by rw[h1];rfl
   have hd:=Ake h hU t m;have hXl:(U.X.drop t).length=U.X.length-t:=Apl;obtain⟨es,U2,Ak4,ds,t2,r1,r2,r3,r4,r5,r6,r7⟩:=kG hb hv k (i+1) (t+min m (U.X.length-t)) q U inp (aa++[(0,(U.X.drop t).take (min m (U.X.drop t).length),())]) F0 F0 hin hU F0 Bcm;refine⟨0::es,U2,Ak4,(0,(U.X.drop t).take (min m (U.X.drop t).length),())::ds,t2,?_,r2,r3,?_,?_,?_, .drain hlt hm (by have:=hU.szs h;omega) ht r7⟩
   ·rw[hdrop,Akm,Ags,Abw (by rw[h1];decide),Acu h1,Aa];simp only;rw[r1,Aa]
   ·rw[hdrop];exact .cons ⟨rfl,λ_=>⟨rfl,by simp only[Ajc];rw[hm];omega⟩,λh=>absurd h1 h⟩ r4
   ·rw[<-r5,hXl,List.take_add];simp[outs]
   ·rw[Abw hg1,Acu hg2,hm,hd,Aa];simp only;rw[DT,SO,By F6,Aa,Em,Sj,hgi];rw[hXl,List.drop_drop]at*
    rw[r6];simp
  ·
   have hg1:¬geq b[i].1 1=true:=by rw[h1];decide
   have hg2:¬geq b[i].1 2=true:=by rw[h1];decide
   have hg3:geq b[i].1 3=true:=by rw[h1];rfl
   obtain⟨e,U1,f1,f2,⟨y,f3⟩,f4⟩:=Aqd h hU;obtain⟨es,U2,Ak4,ds,t2,r1,r2,r3,r4,r5,r6,r7⟩:=kG hb hv k (i+1) t q U1 inp (aa++[(e,[],())]) F0 F0 hin f2 (by rw[f3,Ac2];omega) Bcm;refine⟨e::es,U2,Ak4,(e,[],())::ds,t2,?_,r2,r3,?_,?_,?_, .other hlt (by rw[h1];decide) r7⟩
   ·rw[hdrop,Akm,Ags,Abw (by rw[h1];decide),Abw (by rw[h1];decide),f1,Aa,Aa];simp only;rw[r1,Aa]
   ·rw[hdrop];exact .cons ⟨rfl,λh=>by rw[h1]at h;exact absurd h F5,λ_=>rfl⟩ r4
   ·rw[<-r5,f3,Baj ht];simp[outs]
   ·rw[Abw hg1,Abw hg2,Acu hg3,f4 t ht,Aa];simp only;rw[CZ,RQ,By F6,Aa,Em,Sj,hgi,r6];simp
theorem Ark{inp:LB}{l:List ru}(hin:inp.length<=600)(hl:l.length<=200)(hv:∀st∈l,VS3 st):
  ∃(es:LI) (U:Ue) (inp':LB) (ds:List Sad) (t:Nat),Akm c w r p l inp (TH c w r p [])=some (es,U,inp')/\OkE c w r p inp'.length U/\t<=U.X.length/\SRs l es ds/\outs ds=U.X.take t/\
   GX (c:Int) (w:Int) (r:Int) p inp l=some ((c:Int),(w:Int),(r:Int),p,U.m,U.s,U.fr,U.X.drop t,U.u,U.v,ds,0)/\lL l 0 0 [] t U.X:=by
 have e0:nE c w []=0:=by rw[nE];exact Nat.zero_div _
 have hR:Nc c r (nE c w []):=by rw[e0];exact X9 c r
 have e1:TH c w r p []=⟨RE c w [],SE c w r [],FE c w r p [],[],false,0⟩:=by rw[TH,Acu hR]
 obtain⟨es,U,inp',ds,t,h1,h2,h3,h4,h5,h6,h7⟩:=kG h hl (λst h=>(hv st h).1) l.length 0 0 Ap (TH c w r p []) inp [] F0 F9 hin (Aly (by simpa using hin)) (Nat.zero_le _) Bbn;rw[List.drop_zero]at h1 h4;refine⟨es,U,inp',ds,t,h1,h2,h3,h4,by simpa using h5,?_,by rw[e1]at h7;exact h7⟩;rw[GX,GU,Ac9 hl hv,Aa,Abw F5,rz h,Aa];simp only;rw[Abw F5];rw[e1]at h6;exact h6
end
def cdE(m:LB)(s:LX)(fr:List LB)(X:LB):Nat:=m.length+4*s.length+X.length+fr.flatten.length
theorem T4(fr:List LB)(i:Nat)(h:i<fr.length):(fr.take (i+1)).flatten.length=(fr.take i).flatten.length+fr[i].length:=by
 rw[<-List.take_append_getElem h,Bas,Ac2];simp
theorem oQ(fr:List LB)(i:Nat):(fr.take i).flatten.length<=fr.flatten.length:=by
 have:=congrArg (λl:List LB=>l.flatten.length) (Ayr i fr);simp only[Bas,Ac2]at this;omega
theorem zH(C W R:Int)(p m:LB)(s:LX)(fr:List LB)(X:LB)(u:Bool)(v:Int)(hm:m.length<=100000)(hs:s.length<=100000)(hf:fr.length<=100000)(hfl:fr.flatten.length<=1000000)(hX:X.length<=100000):AU C W R p m s fr X u v=some (cdE m s fr X:Int):=by
 have loop:∀(j i q:Nat),i+j=fr.length->j<q->Me fr q ((m.length+4*s.length+X.length+(fr.take i).flatten.length:Nat):Int) (i:Int)=some (cdE m s fr X:Int):=by
  intro j
  induction j with
  |zero=>
   intro i q hi hq;obtain⟨q,rfl⟩:∃q',q=q'+1:=⟨q-1,F0⟩;rw[Me,Xs,Abw F3,Apn F0];rfl
  |succ j ih=>
   intro i q hi hq;obtain⟨q,rfl⟩:∃q',q=q'+1:=⟨q-1,F0⟩;have hlt:i<fr.length:=F0
   have e1:=T4 fr i hlt;have e2:=oQ fr (i+1);rw[Me,Xs,Acu F3,Cr hlt,Aa,Abv i F0,Ac,Ag,<-Ba0,show m.length+4*s.length+X.length+(fr.take i).flatten.length+fr[i].length=m.length+4*s.length+X.length+(fr.take (i+1)).flatten.length by omega];exact ih (i+1) q F0 F0
 have e0:Ad (Ad (Ac m) (Az 4 (Ac s))) (Ac X)=((m.length+4*s.length+X.length+(fr.take 0).flatten.length:Nat):Int):=by
  have e1:Az 4 (s.length:Int)=((4*s.length:Nat):Int):=by rw[show(4:Int)=((4:Nat):Int)from rfl,Fj];omega
  rw[Ac,Ac,Ac,e1,Ag (a:=(m.length:Int)) F0 F0,<-Ba0,Ag,<-Ba0];simp
 rw[AU,KR,e0];exact loop fr.length 0 Ap F0 F9
theorem Ase(fr:List LB)(K:Nat)(h:∀y∈fr,y.length<=K):fr.flatten.length<=fr.length*K:=by
 induction fr with
 |nil=>simp
 |cons y fr ih=>
  have h1:=h y (.head _);have h2:=ih λz hz=>h z (Ak6 _ hz);rw[Bac,Ac2,Am6,Ajz,Avd];omega
section
variable {c w r:Nat} {p:LB} (h:EncOk c w r p)
include h
theorem Apv{t:LB}(ht:t.length<=600)(hR:Nc c r (nE c w t)):(FE c w r p t).flatten.length<=1000000:=by
 have hn:=Ank h t;obtain⟨d1,d2⟩:=vR (r:=r) h t;have e1:=nI (c:=c) (w:=w) (r:=r) (p:=p) t;have e2:=Ase (FE c w r p t) ((81*(Ak r*c)+7)/8+4) λy hy=>(ql h t hR y hy).2;rw[e1]at e2;have e3:kE c w r t*(Ak r*c)<=600:=by
  have:kE c w r t*(Ak r*c)<=nE c w t*c:=by rw[<-At1];exact Ado _ F0
  omega
 have hk:kE c w r t<=600:=by
  have hp:=Hw r;have h1:kE c w r t*1<=kE c w r t*(Ak r*c):=Aw7 _ (Ba7 hp h.ch.1);omega
 have e4:kE c w r t*((81*(Ak r*c)+7)/8+4)<=kE c w r t*(81*(Ak r*c)+7+4):=Aw7 _ F0;have e5:kE c w r t*(81*(Ak r*c)+7+4)=81*(kE c w r t*(Ak r*c))+11*kE c w r t:=by
  generalize Ak r*c=z;rw[show 81*z+7+4=81*z+11 by omega,Nat.mul_add,Nat.mul_left_comm,Ak8 _ 11]
 omega
end
theorem Aji(hal:Pm=some true)(C W R:Int)(p b:LB):Jc C W R p b=some true:=by
 rw[Jc,Kr,hal,Aa];rcases Adh C W R p with h0|⟨c,w,r,rfl,rfl,rfl,h,h0⟩
 ·rw[h0,Aa,Acu (by simp[Ay])]
 rw[h0,Aa];by_cases hb:b.length<=600
 case neg=>rw[Acu Bcj]
 rw[Abw Bcj,rz h,Aa];simp only;have e0:nE c w []=0:=by rw[nE];exact Nat.zero_div _
 have hR0:Nc c r (nE c w []):=by rw[e0];exact X9 c r
 rw[P0 h [] b F0 hR0,Awd,Aei];by_cases hR:Nc c r (nE c w b)
 case neg=>
  rw[Abw hR,Aa];simp only;rw[Ok,jG h (k:=18) Bbn (.inl ⟨rfl,rfl, .inl rfl,rfl⟩),Aa,Abw F5,zH _ _ _ _ _ _ _ _ _ _ Bbn Bbn Bbn Bbn Bbn,Aa,Aa];simp only;rw[Adt h.rate.1 h.rate.2,Aa];simp only;rw[Abw F5,Acu F5];rfl
 rw[Acu hR,Aa];simp only;have hU:OkE c w r p 0 ⟨RE c w b,SE c w r b,FE c w r p b,[],false,0⟩:= .live F0 hR;obtain⟨z1,z2,z3,z4,z5,z6⟩:=hU.szs h;simp only at z1 z2 z3 z4 z5;have hck:=tN h b hR;have hfl:=Apv h hb hR;have hcd:=zH (c:Int) (w:Int) (r:Int) p (RE c w b) (SE c w r b) (FE c w r p b) [] false 0 F0 F0 F0 F0 Bbn;rw[Ok,hck,Aa,Abw F5,hcd,Aa,Aa];simp only;rw[Adt h.rate.1 h.rate.2,Aa];simp only;rw[Abw F5,Abw F5];have main:Gs (r:Int) p b true (cdE (RE c w b) (SE c w r b) (FE c w r p b) []:Int) (Ak r:Int) ((FE c w r p b).flatten.length:Int) (c:Int) (w:Int) (c:Int) (w:Int) (r:Int) p false 0 (RE c w b) (SE c w r b) (FE c w r p b) []=some true:=by
  have hsz:=gX h;have htl:=vV h b;have hsl:=YQ (r:=r) h b;have hlt:=IQ h.rate.2;obtain⟨d1,d2⟩:=vR (r:=r) h b;have hLc:Ak r*c<=1100000*6:=Awg F0 h.ch.2;have hmo:Ns (c:Int) (w:Int)=some (lI c w:Int):=by rw[Ns,Avq h.ch.2 h.bits];rfl
  have e1:Ah (cdE (RE c w b) (SE c w r b) (FE c w r p b) []:Int) ((FE c w r p b).flatten.length:Int)=(((RE c w b).length+4*(SE c w r b).length:Nat):Int):=by
   rw[cdE,Ca F6 F6];simp
  have e2:Az (Az 4 (c:Int)) (Ak r:Int)=((4*(Ak r*c):Nat):Int):=by
   have hc6:=h.ch.2;have e3:Az 4 (c:Int)=((4*c:Nat):Int):=by rw[show(4:Int)=((4:Nat):Int)from rfl,Fj];omega
   rw[e3,Fj (by rw[<-Ap8,show 4*c*Ak r=4*(Ak r*c) by rw[At1,Ak8 c]];omega) (by rw[<-Ap8,show 4*c*Ak r=4*(Ak r*c) by rw[At1,Ak8 c]];omega),<-Ap8,show 4*c*Ak r=4*(Ak r*c) by rw[At1,Ak8 c]]
  have e4:(SE c w r b).length<Ak r*c:=by rw[hsl];exact Bar d2 h.ch.1
  obtain⟨X,u,v,k,g1,g2,g3⟩:=Aac h (t:=b) F0;have hfin:∃e:Int,Dk (c:Int) (w:Int) (r:Int) p (RE c w b) (SE c w r b) (FE c w r p b) [] false 0=some ((c:Int),(w:Int),(r:Int),p,[],[],[],X,u,v,e)/\ (e≠0->X=[]):=by
   rw[M6 h b hR];rw[fiE,Acu hR]at g1;by_cases hbad:RE c w b≠ []\/nE c w b=0
   ·rw[Acu hbad]at g1⊢;injection g1 with _ _ _ q1 q2 q3
    subst q1;subst q2;subst q3;exact⟨24,rfl,λ_=>rfl⟩
   ·rw[Abw hbad]at g1⊢;injection g1 with _ _ _ q1 q2 q3
    subst q1;subst q2;subst q3;exact⟨0,rfl,λhh=>absurd rfl hh⟩
  obtain⟨e,hfin,hex⟩:=hfin;have Awi:=zH (c:Int) (w:Int) (r:Int) p [] [] [] X u v Bbn Bbn Bbn Bbn F0;have hcx:cdE [] [] [] X=X.length:=by simp[cdE]
  rw[hcx]at Awi;have hpk:MS (c:Int) (w:Int) (r:Int) p b ([((1:UInt8),(600:Int),()),((3:UInt8),(0:Int),())]:List ru)=some (((max (cdE (RE c w b) (SE c w r b) (FE c w r p b) []) X.length:Nat):Int),0):=by
   have hv:∀st∈([((1:UInt8),(600:Int),()),((3:UInt8),(0:Int),())]:List ru),VS3 st:=by
    intro st hs;rw[Bbj,List.mem_singleton]at hs;rcases hs with rfl|rfl
    ·exact⟨⟨.inl rfl,F5,F5⟩,λh=>absurd h F5⟩
    ·exact⟨⟨.inr (.inr rfl),F5,F5⟩,λ_=>rfl⟩
   obtain⟨es,V,Ak4,ds,t',s1,s2,s3,s4,s5,s6,s7⟩:=Ark h (inp:=b) hb (show([((1:UInt8),(600:Int),()),((3:UInt8),(0:Int),())]:List ru).length<=200 by decide) hv;have hF:Ap=(Ap-3)+1+1+1:=by have:=Ao;omega
   have hmin:Dt (600:Int) (Ac b)=(b.length:Int):=by rw[Yd,Ac];omega
   rw[MS,KX,s6,Aa];simp only;rw[Abw F5,rz h,Aa];simp only;rw[Abw F5,bE,hF,Mg,Qq,Acu F5];change (some ((1:UInt8),(600:Int),())).bind _=_;rw[Aa,Acu F5];simp only;rw[hmin,Qa,Aa,Ak3,Ay7,P0 h [] b F0 hR0,Awd,Aei,Acu hR,Aa];simp only;rw[AM,Aa,Uo,FP,hcd,Aa,Mg,Qq,Acu F5];change (some ((3:UInt8),(0:Int),())).bind _=_;rw[Aa,Abw F5,Abw F5,Acu F5,hfin,Aa];simp only;rw[Uo,FP,Awi,Aa,Mg,Qq,Abw F5,FJ,XC,oB,oB];refine congrArg (λz:Int=>some (z,(0:Int))) ?_;omega
  rw[Gs,Sg,hmo,Aa,e1,e2,Ag,Abw (by
   simp only[Cz,Af,Awo,Adp,cdE,Ba1];omega),hfin,Aa]
  simp only;rw[Ok,jG h g2 g3,Aa,Abw F5,Awi,Aa,Aa];simp only;rw[hpk,Aa];simp only;rw[Abw (by simp only[Ay,oB,Awo,Bbm];simp;omega)];by_cases he:Bc e 0=true
  ·rw[Acu he,hex (by rw[Ay]at he;simpa using he)];rfl
  ·rw[Abw he];simp[Bl,Ac]
 have loop:∀(j i q:Nat),i+j=(FE c w r p b).length->j<q->Dd (r:Int) p b true (cdE (RE c w b) (SE c w r b) (FE c w r p b) []:Int) (Ak r:Int) (c:Int) (w:Int) (c:Int) (w:Int) (r:Int) p false 0 (RE c w b) (SE c w r b) (FE c w r p b) [] q ((((FE c w r p b).take i).flatten.length:Nat):Int) (i:Int)=some true:=by
  intro j
  induction j with
  |zero=>
   intro i q hi hq;obtain⟨q,rfl⟩:∃q',q=q'+1:=⟨q-1,F0⟩;rw[Dd,Gy,Abw F3,Apn F0];exact main
  |succ j ih=>
   intro i q hi hq;obtain⟨q,rfl⟩:∃q',q=q'+1:=⟨q-1,F0⟩;have hlt:i<(FE c w r p b).length:=F0
   have e1:=T4 (FE c w r p b) i hlt;have e2:=oQ (FE c w r p b) (i+1);rw[Dd,Gy,Acu F3,Cr hlt,Aa,Aa,Abv i F0,Ac,Ag,<-Ba0,<-e1];exact ih (i+1) q F0 F0
 exact loop (FE c w r p b).length 0 Ap F0 F9
theorem Alm:Pm=some true:=by kernel_rfl
theorem law_MemoryCoded(C W R:Int)(p b:LB):Jc C W R p b=some true:=Aji Alm C W R p b
end Go.Pl
