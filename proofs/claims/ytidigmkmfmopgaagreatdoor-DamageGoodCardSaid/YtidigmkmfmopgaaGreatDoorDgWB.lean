/- A part of a proof (see the text that ends in Proof). No conditions. -/
import Derived.Test.YtidigmkmfmopgaaGreatDoorDgWA
import Derived.KernelRfl
set_option linter.unusedVariables false
set_option linter.unusedSimpArgs false
namespace Go.Pl
open Go Go.Lv
theorem fM{b:List UInt8}{i K:Nat}(h:i<K):(b.take K).getD i 0=b.getD i 0:=by
 rw[List.getD_eq_getElem?_getD,List.getD_eq_getElem?_getD,List.getElem?_take,Ab3 h]
theorem jl{b:List UInt8}{n:Int}{K:Nat}(h:Na b=(n,0))(hK:n<=K):Na (b.take K)=(n,0):=by
 obtain⟨k1,k2,k3⟩:=Ae7 h;have hl:(b.take K).length=min K b.length:=Afa;have e3:(b.take K).take 3=b.take 3:=by rw[Ayu,Apg (by omega)]
 have ep:part (b.take K) 6 4=part b 6 4:=Uz (by omega);have eq:part (b.take K) 3 7=part b 3 7:=Uz (by omega);have et:(b.take K).take n.toNat=b.take n.toNat:=by rw[Ayu,Apg (by omega)]
 unfold Na at h⊢;split at h; · simp at h
 rename_i h0;split at h; · simp at h
 split at h; · simp at h
 rename_i h1 h2;rw[Aau (by rw[e3,hl];intro h3;exact h0 λh4=>h3 ⟨by omega,h4.2⟩),Aau (by omega),ep,fM (by omega),fM (by omega),fM (by omega),Aau h2];unfold xY at h⊢;rw[fM (by omega)];generalize(aK (part b 6 4) 0).1+10+(if b.getD 5 0=16 then 10 else 0)=m at h⊢;unfold US at h⊢;split at h; · simp at h
 split at h; · simp at h
 split at h; · simp at h
 rename_i g1 g2 g3;simp only[Agt,Bf0]at h;subst h;rw[Aau g1,Aau (by omega),fM (by omega),et,eq,Aau g3]
theorem Aen{b:List UInt8}{n:Int}{K:Nat}(h:Ik b=(n,0))(hK:n<=K):Ik (b.take K)=(n,0):=by
 obtain⟨k1,k2⟩:=zY h;have hl:(b.take K).length=min K b.length:=Afa;have e8:(b.take K).take 8=b.take 8:=by rw[Ayu,Apg (by omega)]
 have e32:(b.take K).take 32=b.take 32:=by rw[Ayu,Apg (by omega)]
 have ep:part (b.take K) 12 4=part b 12 4:=Uz (by omega);have eq:part (b.take K) 16 4=part b 16 4:=Uz (by omega);have eb:BC (b.take K)=BC b:=by rw[BC,BC,ep,eq]
 unfold Ik at h⊢;rw[e8,e32,ep,eq,eb,hl];split at h; · simp at h
 rename_i h0;split at h; · simp at h
 split at h; · simp at h
 rename_i h1 h2;split at h; · simp at h
 split at h; · simp at h
 rename_i h3 h4;simp only[Agt,Bf0]at h;have et:(b.take K).take (Df (part b 12 4)+32)=b.take (Df (part b 12 4)+32):=by rw[Ayu,Apg (by omega)]
 rw[Aau (by intro h5;exact h0 λh6=>h5 ⟨by omega,h6.2⟩),Aau (by omega),Aau h2,Aau (by omega),et,Aau h4,h]
theorem As8(b:List UInt8)(n:Int):(US b n).2≠6:=by
 unfold US;split; · simp
 split; · simp
 split<;>simp
theorem Ag3{b:List UInt8}{n:Int}{K:Nat}(h:Ce b=(n,0))(hK:n<=K):Ce (b.take K)=(n,0):=by
 have hok:=aB h;unfold Ce at h⊢;split at h
 ·rw[Ab3 (by rw[jl h hK];simp),jl h hK]
 ·rename_i h6;have h6':(Na b).2=6:=by simpa using h6
  have hA:=zY h;have hp:¬(3<=b.length/\b.take 3=[73,68,51]):=by
   intro hp;unfold Na at h6';rw[Aau (λe=>e hp)]at h6';split at h6'; · simp at h6'
   split at h6'; · simp at h6'
   exact As8 _ _ h6'
  have hT:Na (b.take K)=(0,6):=by
   unfold Na;rw[Ab3];rw[Ayu,Apg (by omega),Afa];intro h;exact hp ⟨by omega,h.2⟩
  rw[Aau (by rw[hT];simp),Aen h hK]
theorem Aw7{b:List UInt8}(h:b.take 1=[84]):Ce b=(0,6):=by
 have h1:∀k (l:List UInt8),b.take (k+1)=l->l.take 1=[84]:=λk l e=>by rw[<-e,Ayu,Apg (by omega),h]
 have hT:Na b=(0,6):=by
  unfold Na;rw[Ab3];intro h3;have:=h1 2 _ h3.2;simp at this
 have hA:Ik b=(0,6):=by
  unfold Ik;rw[Ab3];intro h3;have:=h1 7 _ h3.2;simp[zA]at this
 rw[Ce,hT,Aau (by simp),hA]
theorem E7{b:List UInt8}{M:Nat}:∀(j p:Nat) (xs:List Int),Bp b j p=(xs,0)->p<=b.length->p<=4000-> (b.drop ((p:Int)+xs.sum).toNat).take 1=[84]-> (p:Int)+xs.sum<M->∀j',xs.length<j'->Bp (b.take M) j' p=(xs,0)
 |0,p,xs,h,_,_,_,_=>by simp[Bp]at h
 |j+1,p,xs,h,hp,hp4,h84,hM=>by
  intro j' hj';obtain⟨j',rfl⟩:∃k,j'=k+1:=⟨j'-1,by omega⟩;have ed:(b.take M).drop p=(b.drop p).take (M-p):=by rw[Bd5]
  rw[Bp]at h⊢;rw[ed];by_cases h6:(Ce (b.drop p)).2=6
  ·rw[Ab3 h6]at h;obtain rfl: []=xs:=(Prod.mk.inj h).1;have e:((p:Int)+([]:List Int).sum).toNat=p:=by simp
   rw[e]at h84;rw[Ab3];rw[Aw7];rw[Ayu,Apg (by simp at hM;omega),h84]
  ·rw[Aau h6]at h;by_cases h0:(Ce (b.drop p)).2≠0
   ·rw[Ab3 h0]at h;exact absurd (Prod.mk.inj h).2 h0
   ·rw[Aau h0]at h;have h0':(Ce (b.drop p)).2=0:=by simpa using h0
    have hs:Ce (b.drop p)=((Ce (b.drop p)).1,0):=Prod.ext rfl h0';obtain⟨s1,s2⟩:=aB hs;rw[Agy]at s2;generalize hz:(Ce (b.drop p)).1=z at*
    by_cases h4:4000<(p:Int)+z
    ·rw[Ab3 h4]at h;simp at h
    ·rw[Aau h4]at h;by_cases hr:(Bp b j (p+z.toNat)).2=0
     ·rw[Ab3 hr]at h;obtain⟨g1,_⟩:=Prod.mk.inj h;have hrec:Bp b j (p+z.toNat)=((Bp b j (p+z.toNat)).1,0):=Prod.ext rfl hr;have hok:=VX b j (p+z.toNat) (by omega) (by omega) hr;generalize hy:(Bp b j (p+z.toNat)).1=ys at*
      subst g1;have hsum:((p+z.toNat:Nat):Int)+ys.sum=(p:Int)+(z::ys).sum:=by rw[Awb];omega
      have ih:=E7 j (p+z.toNat) ys hrec (by omega) (by omega) (by rw[hsum];exact h84) (by rw[hsum];exact hM) j' (by simpa using hj');have hys:0<=ys.sum:=by
       have:∀l:List Int,(∀x∈l,10<=x)->0<=l.sum:=λl hl=>(rI hl).1;exact this ys hok.1
      have hst:Ce ((b.drop p).take (M-p))=(z,0):=Ag3 hs (by rw[Awb]at hM;omega);rw[hst];simp only;rw[Aau (by omega),Aau (by simp),Aau h4,ih];simp
     ·rw[Aau hr]at h;exact absurd (Prod.mk.inj h).2 hr
theorem Aea{b:List UInt8}{F M:Nat}(h:Bc b=((F:Int),0))(h84:(b.drop F).take 1=[84])(hM:F<M)(hMb:M<=b.length):Bc (b.take M)=((F:Int),0):=by
 unfold Bc A7 at h⊢;by_cases h0:(Bp b (b.length+1) 0).2=0
 ·rw[Ab3 h0]at h;have hx:=(Prod.mk.inj h).1;have hs:Bp b (b.length+1) 0=((Bp b (b.length+1) 0).1,0):=Prod.ext rfl h0;obtain⟨o1,o2,o3⟩:=VX b (b.length+1) 0 (by omega) (by omega) h0;have hl:=(rI o1).2;generalize(Bp b (b.length+1) 0).1=xs at*
  have ht:=E7 (M:=M) (b.length+1) 0 xs hs (by omega) (by omega) (by rw[hx];exact h84) (by rw[hx];omega) ((b.take M).length+1) (by rw[Afa];omega);rw[ht];simp only;rw[Ab3 trivial,hx]
 ·rw[Aau h0]at h;exact absurd (Prod.mk.inj h).2 h0
theorem Arw{ch:Nat}{bits:Int}(hb:Bu bits)(h1:1<=ch)(h6:ch<=6):Ht (ch:Int) bits=some 0:=by
 have hr:∃x y,Wf bits=some (x,y,0):=⟨_,_,Aca hb⟩;obtain⟨x,y,hr⟩:=hr;rw[Ht,hr,Aa];simp only;rw[Aau (by simp[Ag,Ae,Aq];omega)]
abbrev P6':=Int×Int×Int×List Int32×List Int×Int
def Atw(e:Int):P6':=(0,0,0,[],[],e)
theorem kv{b:List UInt8}{K:Nat}(h:(Dm b).2.2.2.2.2=0)(hK:22<=K):Dm (b.take K)=Dm b:=by
 obtain⟨g1,g2,g3,g4⟩:=RM h;have hl:(b.take K).length=min K b.length:=Afa;have ht:∀j,j<=22-> (b.take K).take j=b.take j:=λj hj=>by rw[Ayu,Apg (by omega)]
 have hp:∀a w,a+w<=22->part (b.take K) a w=part b a w:=λa w h=>Uz (by omega);have e0:f0 (b.take K)=f0 b:=by simp only[f0];rw[hp _ _ (by omega)]
 have e1:f1 (b.take K)=f1 b:=by simp only[f1];rw[hp _ _ (by omega)]
 have e2:f2 (b.take K)=f2 b:=by simp only[f2];rw[hp _ _ (by omega)]
 have e3:f3 (b.take K)=f3 b:=by simp only[f3];rw[hp _ _ (by omega)]
 have e4:f4 (b.take K)=f4 b:=by simp only[f4];rw[hp _ _ (by omega)]
 unfold Dm;rw[hl,Apg (show 4<=min K b.length by omega),Apg (show 4<=b.length by omega),ht 4 (by omega),ht 18 (by omega),hp 18 4 (by omega),e0,e1,e2,e3,e4];by_cases hm:b.take 4≠Mt.take 4
 ·rw[Ab3 hm,Ab3 hm]
 ·rw[Aau hm,Aau hm,Aau (show ¬min K b.length<22 by omega),Aau (show ¬b.length<22 by omega)]
theorem Bao{b:List UInt8}(h:(Dm b).2.2.2.2.2=0):b.take 1=[84]:=by
 obtain⟨g1,g2,_⟩:=RM h;unfold Dm at h;by_cases hm:b.take (min 4 b.length)≠Mt.take (min 4 b.length)
 ·rw[Ab3 hm]at h;simp at h
 ·have hm':b.take (min 4 b.length)=Mt.take (min 4 b.length):=by simpa using hm
  rw[Apg (by omega)]at hm';have:(b.take 4).take 1=[84]:=by rw[hm'];rfl
  rwa [Ayu,Apg (by omega)]at this
theorem Aiu(b:List UInt8)(n:Nat):(Ds b n).2≠26:=by
 unfold Ds;split; · simp
 split; · simp
 split; · simp
 split<;>simp
theorem pY{c r n:Nat}(h:Xm c r n=true):1<= (Ah (Am r) n).length/\ (Ah (Am r) n).length<=1000:=by
 simp only[Xm,Acj]at h;rw[Zw];exact⟨Nat.le_add_left _ _,h.2⟩
theorem Ar6{K:Nat}(h:1<=K/\K<=1000):Ds [] K=([],24):=ss2 h (by simp)
theorem Aic(b p:List UInt8)(hb:b.length<=100100)(hp:p.length<=64){e:Int}(he:e≠0)(h:Ba b p=some (Ph e)):∃y,Ec b p e=some y/\Ww b p=some y:=by
 have hP:Ec b p e=Ec b p e:=rfl;have hR:Ww b p=Ww b p:=rfl
 conv at hP=>rhs;rw[Ec]
 conv at hR=>rhs;rw[Ww]
 by_cases h1:100000<b.length
 ·rw[Ab3 (by rw[Aq,Ac];simp;omega)]at hP hR;exact⟨_,hP,hR⟩
 rw[Aau (by rw[Aq,Ac];simp;omega)]at hP hR;rw[Eb b (by omega),Aa]at hP;rw[So b (by omega),Aa]at hR;have hO:=h;rw[Ba,Hk,Aau (by rw[Aq,Ac];simp;omega),Aau (by rw[Aq,Ac];simp;omega),Eb b (by omega),Aa]at hO;have hfr:∀M,∀F:Nat,Bc b=((F:Int),0)-> (b.drop F).take 1=[84]->F<M->M<=b.length->Bc (b.take M)=((F:Int),0):=λM F h1 h2 h3 h4=>Aea h1 h2 h3 h4;by_cases h2:(Bc b).2=0
 ·obtain⟨p0,p1,p2⟩:=Xs h2;have hc:=Bl (l:=b) p0 p1;have Bc9:Bc b=((((Bc b).1.toNat:Nat):Int),0):=Prod.ext (by simp only;omega) h2;simp only[h2]at hO hP hR;rw[Aau (by rw[Ag];simp),hc,Aa,show b.drop (Bc b).1.toNat=Gx b from rfl,Mj _ (by simp[Gx];omega),Aa]at hO;rw[Aau (by rw[Ag];simp),hc,Aa,show b.drop (Bc b).1.toNat=Gx b from rfl]at hP hR;rw[Mj _ (by simp[Gx];omega),Aa]at hP;rw[RG _ (by simp[Gx];omega),Aa]at hR;by_cases h3:(Dm (Gx b)).2.2.2.2.2=0
  ·obtain⟨g1,g2,g3,g4⟩:=RM h3;have h84:=Bao h3;have hrt:=λK=>kv (K:=K) h3;have hhd:Gx b=b.drop (Bc b).1.toNat:=rfl;have hlen:(Gx b).length=b.length-(Bc b).1.toNat:=by simp[Gx]
   rw[hhd]at h84;generalize hF:(Bc b).1.toNat=F at*
   have hF':(Bc b).1=(F:Int):=by omega
   rw[g1,hF']at hO hP hR;simp only at hO hP hR;rw[g1]at hrt;generalize f0 (Gx b)=f at*
   generalize f1 (Gx b)=c at*
   generalize f2 (Gx b)=w at*
   generalize f3 (Gx b)=r at*
   generalize f4 (Gx b)=n at*
   have t22:Ad (F:Int) 22=((F+22:Nat):Int):=by rw[Ak];omega
   have t30:Ad ((F+22:Nat):Int) 8=((F+30:Nat):Int):=by rw[Ak];omega
   have Aub:f=1\/f=2:=by simp only[Eo,Acj]at g3;omega
   have hsub:Ap (Ac b) (F:Int)=((b.length-F:Nat):Int):=by rw[Ac,Bs];omega
   rw[Aau (by rw[Ag];simp),t22,t30]at hO;rw[Aau (by rw[Ag];simp),hsub]at hP;rw[Aau (by rw[Ag];simp),t22,t30]at hR;have Ayy:∀T:Nat,T<=b.length->Ja b (f:Int) (c:Int) (w:Int) (r:Int) (n:Int) (T:Int)=some (Ph e)->e≠26:=by
    intro T hT h5;rw[VY g3 g4 b hb T hT]at h5;by_cases h6:(Ds (b.drop T) (Ah (Am r) n).length).2≠0
    ·rw[Ab3 h6]at h5;have h7:(Ds (b.drop T) (Ah (Am r) n).length).2=e:=by simpa [Ph]using Apf h5
     rw[<-h7];exact Aiu _ _
    ·rw[Aau h6]at h5;have h7:=Apf h5;simp only[Ph,Agt]at h7;exact absurd h7.2.2.2.2.2.2.2.symm he
   by_cases Wb:((p==([]:List UInt8)) !=(geq (f:Int) (1:Int)))=true
   ·rw[Ab3 Wb]at hO;have:26=e:=by simpa [Ph]using Apf hO
    subst this;rw[Ab3 Wb]at hR;rw[Ab3 (by decide),Ab3 (by decide)]at hP;exact⟨_,hP,hR⟩
   ·rw[Aau Wb]at hO;rw[Aau Wb]at hR;have hpf:(p=[]↔f=1):=by
     rw[Ar]at Wb;have h5:(p==([]:List UInt8))=((f:Int)==1):=by simpa using Wb
     have h6:(p==([]:List UInt8))=true↔((f:Int)==1)=true:=by rw[h5]
     rw[Aug,Aug]at h6;rw[h6];omega
    by_cases h5:f=2
    ·have Agw:p≠ []:=λe=>by have:=hpf.1 e;omega
     rw[Ab3 (by simpa using Agw)]at hO;rw[Ab3 (by rw[Ar,h5];rfl)]at hR;have hmin:Fj (Ac b) ((F+30:Nat):Int)=((min b.length (F+30):Nat):Int):=by rw[HL,Ac];omega
     rw[hmin,Dg,Aa,Ae3]at hR;by_cases h6:b.length<F+30
     ·rw[Ab3 (by rw[Ae,Ac];simp;omega)]at hO;have:24=e:=by simpa [Ph]using Apf hO
      subst this;rw[Aau (by decide),Ab3 (by simp[Ar,Ae,h5];omega)]at hP;have htot:∃y,Cl (b.take (min b.length (F+30))) p=some y:=by
       rcases jB (b.take (min b.length (F+30))) p (by simp;omega) hp with⟨_,_,_,k⟩|⟨_,_,_,_,_,_,_,o⟩
       ·exact⟨_,k⟩
       ·exact⟨_,o.ref⟩
      obtain⟨⟨y1,y2,y3,y4,y5,y6,y7,y8⟩,hy⟩:=htot;rw[hy,Aa]at hR;simp only at hR;rw[Ab3 (by simp[Ae,Ac];right;omega)]at hR;exact⟨_,hP,hR⟩
     ·have hseg:((b.take (F+30)).drop (F+22)).length=8:=by simp;omega
      rw[Aau (by rw[Ae,Ac];simp;omega),Oa,Aa,show((F+30:Nat):Int).toNat=F+30 from rfl,show((F+22:Nat):Int).toNat=F+22 from rfl,YG hseg hp,Aa]at hO;simp only at hO;rw[Aau (by rw[Ag];simp)]at hO;have hft:=hfr (F+30) F Bc9 h84 (by omega) (by omega);have hT:(b.take (F+30)).length=F+30:=by simp;omega
      have hd:(b.take (F+30)).drop F=(Gx b).take 30:=by rw[hhd,Bd5];congr 1;omega
      have hcT:=Bl (l:=b.take (F+30)) (a:=(F:Int)) (by omega) (by omega);rw[Ae3,hd]at hcT;have E1:Cl (b.take (F+30)) p=Cl (b.take (F+30)) p:=rfl
      conv at E1=>rhs;rw[Cl,Ox,Aau (by rw[Aq,Ac,hT];simp;omega),So _ (by omega),hft,Aa]
      simp only at E1;rw[Aau (by rw[Ag];simp),hcT,Aa,RG _ (by simp;omega),hrt 30 (by omega),Aa]at E1;simp only at E1;have hs8:Ap (Ac (b.take (F+30))) ((F+22:Nat):Int)=8:=by rw[Ac,hT,Bs];omega
      have hcs:Bm (b.take (F+30)) ((F+22:Nat):Int) ((F+30:Nat):Int)=some ((b.take (F+30)).drop (F+22)):=by
       rw[Oa,show((F+30:Nat):Int).toNat=F+30 from rfl,show((F+22:Nat):Int).toNat=F+22 from rfl,Ayu,Nat.min_self]
      rw[Aau (by rw[Ag];simp),t22,Aau Wb,Ab3 (by rw[Ar,h5];rfl),hs8,Aau (by decide),t30,hcs,Aa,VU p hp,Aa]at E1;rw[Bdw (by omega)]at hR;generalize hsg:(b.take (F+30)).drop (F+22)=mY at*
      by_cases h7:mY=Rc (Rp p).toNat 8
      ·rw[Aau (by simp[h7])]at hO E1;have h26:=Ayy (F+30) (by omega) hO;have hK:=pY g4;rw[Af1 g3 g4 (b.take (F+30)) (by omega) (F+30) (by omega),Bfe (by omega),Ar6 hK]at E1;rw[Aau (by rw[Ar];simpa using h26),Aau (by simp[Ar,Ae];omega)]at hP;rw[E1,Ab3 (by simp),Aa,Ph]at hR;simp only at hR;rw[Aau (by simp[Ag,Ae,Ac];omega)]at hR;exact⟨_,hP,hR⟩
      ·rw[Ab3 (by simpa using h7)]at hO E1;have:26=e:=by simpa [Ph]using Apf hO
       subst this;rw[Ab3 (by decide),Ab3 (by decide)]at hP;rw[E1,Aa]at hR;simp only at hR;rw[Ab3 (by simp[Ag])]at hR;exact⟨_,hP,hR⟩
    ·have hpe:p=[]:=hpf.2 (by omega);rw[Aau (by rw[hpe];simp)]at hO;have h26:=Ayy (F+22) (by omega) hO;rw[Aau (by rw[Ar];simpa using h26),Aau (by simp[Ar];omega)]at hP;rw[Aau (by rw[Ar];simp;omega)]at hR;exact⟨_,hP,hR⟩
  ·generalize Dm (Gx b)=v at*
   obtain⟨v1,v2,v3,v4,v5,v6⟩:=v;simp only at h3 hP hR;rw[Ab3 (by rw[Ag];simpa using h3)]at hP hR;exact⟨_,hP,hR⟩
 ·generalize Bc b=v at*
  obtain⟨v,e⟩:=v;simp only at h2 hP hR;rw[Ab3 (by rw[Ag];simpa using h2)]at hP hR;exact⟨_,hP,hR⟩
theorem Akj(g:Nat):∀K:Nat,(List.replicate K (g:Int)).sum=((K*g:Nat):Int)
 |0=>by simp
 |K+1=>by
  rw[Bbk,Awb,Akj g K,Bfb];omega
theorem pW{g n:Nat}(hn:1<=n):(Ah g n).sum=(n:Int):=by
 have h:=Bbl (n-1) g;rw[Ah,Bfq,Akj];simp only[Awb,Bd3];omega
theorem Ag4:∀{l:List Int},(∀x∈l,0<=x)->0<=l.sum
 |[],_=>by simp
 |x::l,h=>by
  have h1:=h x Ays;have h2:=Ag4 (l:=l) λy hy=>h y (Am3 _ hy);rw[Awb];omega
theorem PD{l:List Int}(h:∀x∈l,0<=x)(i:Nat):0<= (l.take i).sum/\ (l.take i).sum<=l.sum:=by
 have h1:=Ag4 (l:=l.take i) λx hx=>h x (Bfk hx);have h2:=Ag4 (l:=l.drop i) λx hx=>h x (Bfl hx);have:=yx l i;omega
def Uw(c w:Nat)(fr:List Int)(k:Nat):Int:=(((fr.take k).sum.toNat*(c*wB (w:Int)):Nat):Int)
section
variable {f c w r n:Nat} (h1:Eo f c w r n=true) (h2:Xm c r n=true)
include h1 h2
theorem AS:(∀x∈Ah (Am r) n,0<=x)/\ (Ah (Am r) n).sum=(n:Int)/\n<=4000:=by
 obtain⟨hc,hw,hr,hn,_⟩:=Kz h1;have hfit:n<=4000/c:=by simp only[Xm,Acj]at h2;exact h2.1
 have hn4:n<=4000:=by have:=Auf 4000 c;omega
 refine⟨λx hx=>?_,pW hn,hn4⟩;obtain⟨m,rfl,_⟩:=Ti (Fe r) hn hx;omega
theorem vg(k:Nat)(hk:k<= (Ah (Am r) n).length):∀(j i q:Nat),i+j=k->j<q->Vq (k:Int) (f:Int) (c:Int) (w:Int) (r:Int) (n:Int) (Ah (Am r) n) q (((Ah (Am r) n).take i).sum) (i:Int)=some (Uw c w (Ah (Am r) n) k,0)
 |0,i,q+1,hi,_=>by
  obtain⟨hc,hw,hr,hn,_⟩:=Kz h1;obtain⟨g1,g2,g3⟩:=AS h1 h2;have b:=PD g1 i;obtain rfl:i=k:=by omega
  rw[Vq,LH,Aau (by rw[Ae];simp),ZL,nC,Uw];have e:((Ah (Am r) n).take i).sum=((((Ah (Am r) n).take i).sum.toNat:Nat):Int):=by omega
  rw[e,Arz (by omega) hc.2 hw];rfl
 |j+1,i,q+1,hi,hq=>by
  obtain⟨g1,g2,g3⟩:=AS h1 h2;have hK:=pY h2;have hlt:i<(Ah (Am r) n).length:=by omega
  have b1:=PD g1 i;have b2:=PD g1 (i+1);have e:=Gd hlt;have ih:=vg k hk j (i+1) q (by omega) (by omega);rw[e]at ih;rw[Vq,LH,Ab3 (by rw[Ae];simp;omega),Bn hlt,Aa,Aa,Ak,Ak];exact ih
theorem uz(k:Nat)(hk:k<= (Ah (Am r) n).length):RK (f:Int) (c:Int) (w:Int) (r:Int) (n:Int) (k:Int)=some (Uw c w (Ah (Am r) n) k,0):=by
 have hK:=pY h2;have h:=vg h1 h2 k hk k 0 Ax (by omega) (by have:=As;omega);rw[Bbi,Bd3]at h;rw[RK,XP,QW h1 h2,Aa];simp only;rw[Aau (by simp[Ag,Aq,Ac];omega)];exact h
end
abbrev D5:=Int×UInt8×Int×Int×Int
def Adq(G:Nat->List UInt8×Int)(ce:Int)(B8:Nat->Int)(L:Nat):Nat->Nat->D5
 |0,_=>(ce,6,0,B8 L,0)
 |j+1,v=>if(G v).2≠0 then(ce,5,(v:Int),B8 v,0)else Adq G ce B8 L j (v+1)
section
variable {b p:List UInt8} {f c w r n A:Nat} {l:List Int} (o:Opn b p f c w r n A l)
include o
theorem xg(ce:Int)(hce:ce≠0):∀(j v q:Nat),v+j=l.length->j<q->Vt b p l ce 6 (f:Int) (c:Int) (w:Int) (r:Int) (n:Int) (A:Int) q (v:Int)=some (Adq (Gu b p f c w r n A l) ce (Uw c w (Ah (Am r) n)) l.length j v)
 |0,v,q+1,hv,_=>by
  rw[Vt,HQ,Aau (by rw[Ae,Ac];simp;omega),IK,WN,Ac,uz o.shape o.fit l.length (by rw[<-o.len];exact Am4 _),Aa];rfl
 |j+1,v,q+1,hv,hq=>by
  have hs1:=o.some1;obtain⟨m,x,s,e,g⟩:=Qa o v (by omega);rw[Vt,HQ,Ab3 (by rw[Ae,Ac];simp;omega),Aau (by rw[Ar];simpa using hce),Amf o (by omega) g,Aa,Adq,g.eq];simp only;by_cases he:e≠0
  ·rw[Ab3 (by rw[Ag];simpa using he),Ab3 he,IK,WN,uz o.shape o.fit v (by rw[<-o.len];omega),Aa]
  ·rw[Aau (by rw[Ag];simpa using he),Aau he,Ak];exact xg ce hce j (v+1) q (by omega) (by omega)
end
theorem Ag5(C W:Nat)(fr:List Int):Uw C W fr 0=0:=by rw[Uw,Bbi,Bd3];simp
theorem Ag2(C W:Nat){fr:List Int}(hp:∀z∈fr,0<=z){A m:Nat}(hA:A<fr.length)(hm:fr[A]=(m:Int)):Uw C W fr (A+1)=Uw C W fr A+((m*C*wB (W:Int):Nat):Int):=by
 have hs:0<= (fr.take A).sum:=by
  have:∀l:List Int,(∀z∈l,0<=z)->0<=l.sum:=by
   intro l
   induction l with
   |nil=>intro _;simp
   |cons a l ih=>intro h;rw[Awb];have:=h a (by simp);have:=ih (λz hz=>h z (by simp[hz]));omega
  exact this _ λz hz=>hp z (Bfk hz)
 have e:(fr.take (A+1)).sum=(fr.take A).sum+m:=by rw[Lg hA,Bfq,Awb,Bd3,hm];omega
 rw[Uw,Uw,e];have:((fr.take A).sum+(m:Int)).toNat=(fr.take A).sum.toNat+m:=by omega
 rw[this,Ayj,Bb7 m];omega
theorem rO{bits:Int}(h:Bu bits){l:List Int32}(hl:l.length<=4000)(hr:inR bits l):Ay bits l=some 0:=by
 have hh:=NX bits;have key:∀(j i q:Nat),i+j=l.length->j<q->Az l (hB bits) q (i:Int)=some 0:=by
  intro j
  induction j with
  |zero=>
   intro i q hi hq;obtain⟨q,rfl⟩:∃k,q=k+1:=⟨q-1,by omega⟩;rw[Az,Cu,Aau (by rw[Ae,Ac];simp;omega)];rfl
  |succ j ih=>
   intro i q hi hq;obtain⟨q,rfl⟩:∃k,q=k+1:=⟨q-1,by omega⟩;have hx:=hr l[i] (Ams (by omega));rw[Az,Cu,Ab3 (by rw[Ae,Ac];simp;omega),Bn,Aa,Aa,Gg,zq,Dd (by omega) (by omega),Ak,Ae,Dy,Aau (by simp;omega),Aau (by simp;omega)];exact ih (i+1) q (by omega) (by omega)
 rw[Ay,Dq,UO h,Aa,Aau (by rw[Ar];simp;omega),Aau (by rw[Aq,Ac];simp;omega)];exact key l.length 0 Ax (by omega) (by have:=As;omega)
theorem uH(bits:Int)(a b:List Int32):Cy bits (a++b)=Cy bits a++Cy bits b:=by unfold Cy;rw[List.flatMap_append]
def Qi{α:Type}(G:Nat->List α):Nat->Nat->List α
 |0,_=>[]
 |j+1,k=>G k++Qi G j (k+1)
theorem Agk{α:Type}(G:Nat->List α):∀(i j k:Nat),Qi G (i+j) k=Qi G i k++Qi G j (k+i)
 |0,j,k=>by simp[Qi]
 |i+1,j,k=>by
  rw[show i+1+j=(i+j)+1 by omega,Qi,Qi,Agk G i j (k+1),Aej,show k+1+i=k+(i+1) by omega]
theorem B3{α:Type}(G:Nat->List α)(i k:Nat):Qi G (i+1) k=Qi G i k++G (k+i):=by
 rw[Agk G i 1 k];simp[Qi]
theorem Adm(w:Nat)(G:Nat->List UInt8×Int)(be:Int):∀(j k:Nat) (acc:List UInt8) (Ba3:List Int32),(lD G be j k acc).2=(fO (λk=>pg w (G k)) (λk=>(G k).2) be j k Ba3).2
 |0,k,acc,Ba3=>by
  rw[lD,fO];split<;>rfl
 |j+1,k,acc,Ba3=>by
  rw[lD,fO];split
  ·rfl
  ·exact Adm w G be j (k+1) _ _
theorem Ac3(X:Nat->List Int32)(E:Nat->Int)(be:Int):∀(j k:Nat) (acc:List Int32),(fO X E be j k acc).2=0->be=0/\ (∀i,k<=i->i<k+j->E i=0)/\ (fO X E be j k acc).1=acc++Qi X j k
 |0,k,acc,h=>by
  rw[fO]at h⊢;by_cases hb:be≠0
  ·rw[Ab3 hb]at h;cases h
  ·rw[Aau hb];exact⟨by simpa using hb,λi h1 h2=>by omega,by simp[Qi]⟩
 |j+1,k,acc,h=>by
  rw[fO]at h⊢;by_cases hb:E k≠0
  ·rw[Ab3 hb]at h;exact absurd h hb
  ·rw[Aau hb]at h⊢;obtain⟨h1,h2,h3⟩:=Ac3 X E be j (k+1) _ h;refine⟨h1,λi i1 i2=>?_,?_⟩
   ·by_cases hi:i=k
    ·subst hi;simpa using hb
    ·exact h2 i (by omega) (by omega)
   ·rw[h3,Qi,Aej]
theorem zf(G:Nat->List UInt8×Int):∀(j k:Nat) (acc:List UInt8),(∀i,k<=i->i<k+j-> (G i).2=0)->lD G 0 j k acc=(acc++Qi (λi=>(G i).1) j k,0)
 |0,k,acc,h=>by
  rw[lD,Aau (by simp),Qi];simp
 |j+1,k,acc,h=>by
  rw[lD,Aau (by rw[h k (by omega) (by omega)];simp),zf G j (k+1) _ λi h1 h2=>h i (by omega) (by omega),Qi,Aej]
section
variable {b p:List UInt8} {f c w r n A:Nat} {l:List Int} (o:Opn b p f c w r n A l) (hE:∀i,i<l.length-> (Gu b p f c w r n A l i).2=0)
include o hE
theorem Aaa(i:Nat)(hi:i<l.length):∃m:Nat,Ao (Ah (Am r) n) (i:Int)=some (m:Int)/\1<=m/\ (Gu b p f c w r n A l i).1=Cy (w:Int) (pg w (Gu b p f c w r n A l i))/\ (pg w (Gu b p f c w r n A l i)).length=m*c/\inR (w:Int) (pg w (Gu b p f c w r n A l i)):=by
 have hw:=(Kz o.shape).2.1;obtain⟨m,x,s,e,g⟩:=Qa o i hi;have h0:=hE i hi;have hsm:=g.xW hw;have hl:=g.lens hw;rw[g.eq]at h0⊢;rw[hsm];obtain⟨h1,h2,h3,_⟩:=g.some' h0;exact⟨m,g.mom,g.pos.1,h1,h2,gK hw (by omega) h3⟩
theorem uh:∀(j k:Nat),k+j<=l.length->Cy (w:Int) (Qi (λi=>pg w (Gu b p f c w r n A l i)) j k)=Qi (λi=>(Gu b p f c w r n A l i).1) j k
 |0,k,_=>rfl
 |j+1,k,h=>by
  obtain⟨m,_,_,h1,_⟩:=Aaa o hE k (by omega);rw[Qi,Qi,uH,uh j (k+1) (by omega),<-h1]
theorem Ak3:∀(j k:Nat),k+j<=l.length->inR (w:Int) (Qi (λi=>pg w (Gu b p f c w r n A l i)) j k)
 |0,k,_=>λx hx=>by simp[Qi]at hx
 |j+1,k,h=>by
  obtain⟨m,_,_,_,_,h1⟩:=Aaa o hE k (by omega);intro x hx;rw[Qi,List.mem_append]at hx;rcases hx with hx|hx
  ·exact h1 x hx
  ·exact Ak3 j (k+1) (by omega) x hx
theorem Ajj:∀(j:Nat),j<=l.length-> (Qi (λi=>pg w (Gu b p f c w r n A l i)) j 0).length=((Ah (Am r) n).take j).sum.toNat*c
 |0,_=>by simp[Qi]
 |j+1,h=>by
  obtain⟨m,h0,_,_,h1,_⟩:=Aaa o hE j (by omega);have hlen:=o.len;have hlt:j<(Ah (Am r) n).length:=by omega
  rw[Bn hlt]at h0;have h0':=Apf h0;obtain⟨g1,g2,g3⟩:=AS o.shape o.fit;have b:=PD g1 j;rw[B3,Aci,Ajj j (by omega),Azm,h1,Gd hlt,h0'];rw[show(((Ah (Am r) n).take j).sum+(m:Int)).toNat=((Ah (Am r) n).take j).sum.toNat+m by omega,Ayj]
theorem An9:(Qi (λi=>pg w (Gu b p f c w r n A l i)) l.length 0).length=n*c:=by
 have hn:=(Kz o.shape).2.2.2.1;rw[Ajj o hE l.length (Am4 _),o.len,Ba9,pW hn];simp
theorem Amz:Jq (w:Int) (Qi (λi=>pg w (Gu b p f c w r n A l i)) l.length 0)=some (Qi (λi=>(Gu b p f c w r n A l i).1) l.length 0,0):=by
 have hw:=(Kz o.shape).2.1;have hfit:n<=4000/c:=by have:=o.fit;simp only[Xm,Acj]at this;exact this.1
 have hN:n*c<=4000:=by
  have h1:=Agu c hfit;have h2:=Bbl 4000 c;omega
 have ht:=An9 o hE;rw[ND hw (by omega) (rO hw (by omega) (Ak3 o hE l.length 0 (by omega))),uh o hE l.length 0 (by omega)]
end
def Nl(bits:Int)(ch:Nat)(t x:List Int32):List UInt32:=evl bits ch t (mx ch x) x.length
def ZK(bits:Int)(ch:Nat)(t x:List Int32):List UInt8:=Mu (Tz ch (Nl bits ch t x) x.length)
def Ry(bits:Int)(ch:Nat)(t x:List Int32):List UInt8:=ZK bits ch t x++Rc (Dn (ZK bits ch t x)).toNat 4
theorem Afh(bits:Int)(ch:Nat)(t x:List Int32)(h0:1<=x.length)(h4:x.length<=4000):1<= (ZK bits ch t x).length/\ (ZK bits ch t x).length<=40501:=by
 have h:=oJ ch (Nl bits ch t x) x.length;obtain⟨k,hk⟩:∃k,x.length=k+1:=⟨x.length-1,by omega⟩;have h1:1<= (Tz ch (Nl bits ch t x) x.length).length:=by
  rw[hk,Tz,Aci];have hn:=Aa3 ch ((Nl bits ch t x).take k);have:=fT ((Nl bits ch t x).getD k 0) hn.1 hn.2;omega
 rw[ZK,BF];omega
theorem Q0(bits:Int)(ch:Nat)(t x:List Int32)(h0:1<=x.length)(h4:x.length<=4000):5<= (Ry bits ch t x).length/\ (Ry bits ch t x).length<=40505:=by
 have:=Afh bits ch t x h0 h4;rw[Ry,Aci,Ca];omega
theorem tu(bits:Int)(ch:Nat)(t x:List Int32)(h0:1<=x.length)(h4:x.length<=4000):Nt (Ry bits ch t x)=0/\ (Ry bits ch t x).take ((Ry bits ch t x).length-4)=ZK bits ch t x:=by
 have h:=Q0 bits ch t x h0 h4;have hl:(Ry bits ch t x).length-4=(ZK bits ch t x).length:=by rw[Ry,Aci,Ca];omega
 have h1:(Ry bits ch t x).take ((Ry bits ch t x).length-4)=ZK bits ch t x:=by rw[hl,Ry,Bf7]
 have h2:(Ry bits ch t x).drop ((Ry bits ch t x).length-4)=Rc (Dn (ZK bits ch t x)).toNat 4:=by rw[hl,Ry,Bdf]
 have hlt:=(Dn (ZK bits ch t x)).toNat_lt;refine⟨?_,h1⟩;rw[Nt,Aau (by omega),Aau (by omega),h1,h2,Yz,Ack (by omega),Aau (by simp)]
theorem Ahw{bits:Int}{ch n:Nat}{t x:List Int32}(hb:Bu bits)(ht:t.length=16)(h1:1<=ch)(h6:ch<=6)(n1:1<=n)(n2:n<=4000/ch)(hx:x.length=n*ch)(hr:inR bits x):
  Hi (ch:Int) bits t (n:Int) (Ry bits ch t x)=some (x,0)/\Cm (ch:Int) bits t (n:Int) (Ry bits ch t x)=some (x,0):=by
 have hn:n*ch<=4000:=by
  have:=Agu ch n2;have h2:=Bbl 4000 ch;omega
 have hq4:=yR h1 h6;have hx1:1<=x.length:=by rw[hx];exact Bge n1 h1
 have key:Cm (ch:Int) bits t (n:Int) (Ry bits ch t x)=some (x,0):=by
  generalize 4000/ch=mm at*
  have hh:=NX bits;have vX:Dh (ch:Int) bits (n:Int)=some 0:=by
   rw[Dh,Di,Aau (by simp[Ae,Aq];omega),UO hb,Aa,Aau (by rw[Ar];simp;omega),Aa,Aau (by simp[Ag,Ae];omega),Bt (by rw[Ag];simp;omega),Aa,hq4,Aau (by rw[Aq];simp;omega)]
  have hlen:=Q0 bits ch t x hx1 (by omega);obtain⟨hs,htk⟩:=tu bits ch t x hx1 (by omega);have hpl:=Afh bits ch t x hx1 (by omega);have e4:Ap (Ac (Ry bits ch t x)) 4=(((Ry bits ch t x).length-4:Nat):Int):=by rw[Ac,Bs];omega
  have hVl:(Nl bits ch t x).length=x.length:=qW _ _ _ _ _;have hEl:=BF (Tz ch (Nl bits ch t x) x.length);have hvb:=yt ch (Nl bits ch t x) (8*(ZK bits ch t x).length) (by rw[hVl,ZK,hEl];omega) (n*ch) 0 (by omega);rw[hVl]at hvb;have hread:=Aba (N:=8*(ZK bits ch t x).length) (p:=ZK bits ch t x) rfl (by omega) h1 h6 hn;have hvb':Xp ch (ZK bits ch t x) (8*(ZK bits ch t x).length) (n*ch) 0 []=(Nl bits ch t x,(Tz ch (Nl bits ch t x) x.length).length,0):=hvb;have hz:Cg (ZK bits ch t x) (Tz ch (Nl bits ch t x) x.length).length (8*(ZK bits ch t x).length-(Tz ch (Nl bits ch t x) x.length).length)=0:=by
   apply C6;intro k _;rw[ZK,GJ,Ab5 (by omega)]
  have Bhd:¬7<8*(ZK bits ch t x).length-(Tz ch (Nl bits ch t x) x.length).length:=by rw[ZK,hEl];omega
  rw[hvb']at hread;simp only at hread;rw[Aau (by decide),Aau (by rw[hz];simp;omega)]at hread;have hm:(Nl bits ch t x).length %ch=0:=by rw[hVl,hx];exact Bdi n ch
  have Bda:=xe (v:=Nl bits ch t x) hb ht h1 h6 (by omega) hm;have hsm:xW bits ch t (Nl bits ch t x)=mx ch x:=by
   have:=Avl bits ch t (mx ch x);rw[XR]at this;exact this
  rw[hsm,Baq h1 (by rw[hx];exact Bdi n ch)]at Bda;rw[Cm,Kg,vX,Aa,Aau (by rw[Ag];simp),jJ,Aa,hs,Aau (by decide),e4,Dg,Aa,Ae3,htk,hread,Aa];simp only;rw[Hx,Hw,Aau (by decide),Bda,Aa,Ue,rO hb (by omega) hr,Aa,Aau (by decide)];rfl
 obtain⟨l,e,d1,d2,_,_⟩:=Wd (Ry bits ch t x) hb ht h1 h6 n1 n2;rw[key]at d2;cases d2;exact⟨d1,key⟩
theorem Anj{a b:Nat}(ha:a<2^32)(hb:b<2^32)(h:GD a=GD b):a=b:=by
 have key:∀s:Nat,s<2^32-> (GD s).testBit 31=decide (s %2=1)/\ (∀i,i<31-> (GD s).testBit i=((s/2).testBit i^^ (decide (s %2=1)&&(3988292384:Nat).testBit i))):=by
  intro s hs;have h31:(s/2).testBit 31=false:=Bci (by omega);rcases Bff s with e|e
  ·refine⟨?_,λi _=>?_⟩<;>rw[GD,Aau (by omega),Nat.xor_zero]
   ·rw[h31];simp[e]
   ·simp[e]
  ·refine⟨?_,λi _=>?_⟩<;>rw[GD,Ab3 e,Be7]
   ·rw[h31];simp[e];decide
   ·simp[e]
 obtain⟨a1,a2⟩:=key a ha;obtain⟨b1,b2⟩:=key b hb;rw[h,b1]at a1;have hm:a %2=b %2:=by
  have:(b %2=1)=(a %2=1):=by simpa using a1
  rcases Bff a with e|e<;>rcases Bff b with e'|e'<;>simp_all
 have hd:a/2=b/2:=by
  apply Bdl;intro i;by_cases hi:i<31
  ·have e1:=a2 i hi;have e2:=b2 i hi;rw[h,e2,hm]at e1;cases hx:(a/2).testBit i<;>cases hy:(b/2).testBit i<;>simp_all
  ·rw[Bci (show a/2<2^i from Ai7 (by omega:a/2<2^31) (Afq (by omega) (by omega))),Bci (show b/2<2^i from Ai7 (by omega:b/2<2^31) (Afq (by omega) (by omega)))]
 omega
theorem C8{s:Nat}(h:s<2^32):GD s<2^32:=by
 unfold GD;exact Bag (n:=32) (by omega) (by split<;>decide)
theorem uo:∀(k:Nat) {s:Nat},s<2^32->Mv k s<2^32
 |0,_,h=>h
 |k+1,_,h=>uo k (C8 h)
theorem D3:∀(k:Nat) {a b:Nat},a<2^32->b<2^32->Mv k a=Mv k b->a=b
 |0,_,_,_,_,h=>h
 |k+1,_,_,ha,hb,h=>Anj ha hb (D3 k (C8 ha) (C8 hb) h)
theorem Ae8{a b:Nat}(ha:a<2^32)(hb:b<2^32):a^^^b<2^32:=Bag ha hb
theorem Aqo(s:Nat)(a b:List UInt8):TL s (a++b)=TL (TL s a) b:=by rw[TL,TL,TL,List.foldl_append]
theorem Aff:∀(l:List UInt8) {s:Nat},s<2^32->TL s l<2^32
 |[],_,h=>h
 |c::l,s,h=>Aff l (uo 8 (Ae8 h (by have:=c.toNat_lt;omega)))
theorem Ads(p:List UInt8)(b0:UInt64)(a0:Int):∀(j m q:Nat),m+j<=300000->j<=64->j<q->
  Sk b0 a0 q (Ro p m j) (j:Int) (m:Int) (Tf p 0 m)=some (Tf p 0 (m+j),((m+j:Nat):Int),0)
 |0,m,q+1,_,_,_=>by
  rw[Sk,VM,Aau (by rw[Aq];simp),jS,yY];rfl
 |j+1,m,q+1,hm,hj,hq=>by
  have hroom:Sk b0 a0 (q+1) (Ro p m (j+1)) ((j+1:Nat):Int) (m:Int) (Tf p 0 m)=VJ (Sk b0 a0 q) b0 a0 (Ro p m (j+1)) ((j+1:Nat):Int) (m:Int) (room p 0 m):=by
   rw[Sk,VM,Ab3 (by rw[Aq];simp),H3 m (by omega),room];by_cases h0:m %8=0
   ·rw[Ab3 (by rw[Ar,h0];rfl),Bw (by rw[Ke];simp;omega),Aa,Ab3 h0]
   ·rw[Aau (by rw[Ar];simp;omega),Aau h0]
  have hl:Ap (Ac (room p 0 m)) 1=((m/8:Nat):Int):=by
   rw[Ac,Qv,Bs];omega
  have e2:Fj ((j+1:Nat):Int) (Ap (8:Int) ((m %8:Nat):Int))=((min (j+1) (8-m %8):Nat):Int):=by
   rw[HL,Bs];omega
  rw[hroom,VJ,gZ,H3 m (by omega),e2,hl];generalize hT:min (j+1) (8-m %8)=T;have hT1:1<=T:=by omega
  have hT8:m %8+T<=8:=by omega
  have hg:Ao (room p 0 m) ((m/8:Nat):Int)=some (UInt8.ofNat (Cg p (0+8*(m/8)) (m %8))):=by
   rw[Bn (by rw[Qv];omega),rZ]
  have z1:(GI.toZ ((m %8:Nat):Int)).toNat=m %8:=rfl;have z2:(GI.toZ ((T:Nat):Int)).toNat=T:=rfl;have hlt:=yN p (0+8*(m/8)) (m %8+T) (by omega);have hadd:=RN p (m %8) T (0+8*(m/8));rw[show 0+8*(m/8)+m %8=m by omega]at hadd;have hbyte:(Af (Ey (Ro p m (j+1)) (Ap (Ei (1:UInt64) T) (1:UInt64))):UInt8)=UInt8.ofNat (Cg p m T):=by
   rw[aH,Bbw _ (by omega),Aep p m (j+1) T (by omega) hj]
  have hnew:D0 (UInt8.ofNat (Cg p (0+8*(m/8)) (m %8))) (Ei (UInt8.ofNat (Cg p m T)) (m %8))=UInt8.ofNat (Cg p (0+8*(m/8)) (m %8+T)):=by
   rw[or8 (Rn _ _ _) (by rw[Ape];omega) (by omega),hadd,Ape (2^(m %8))]
  rw[hg,z1,z2,hbyte];simp only[Aa];rw[Bt (by rw[Dy];simp),Aa,Bt (by rw[Dy];simp;omega),Aa,hnew,Uq _ (by rw[Qv];omega),Aa,wK p 0 m T hT1 hT8,iT,wH,H3 m (by omega),e2,hT,Bt (by rw[Dy];simp),Aa,z2,Ac9 p m (j+1) T (by omega) hj,Bs,Ak];have ih:=Ads p b0 a0 (j+1-T) (m+T) q (by omega) (by omega) (by omega);rw[show m+T+(j+1-T)=m+(j+1) by omega]at ih;rw[<-ih,show((j+1:Nat):Int)-((T:Nat):Int)=((j+1-T:Nat):Int) by omega,show(m:Int)+((T:Nat):Int)=((m+T:Nat):Int) by omega]
theorem put_eq(p:List UInt8)(m j:Nat)(hm:m+j<=300000)(hj:j<=63):XH (Tf p 0 m) (m:Int) (Ro p m j) (j:Int)=some (Tf p 0 (m+j),((m+j:Nat):Int),0):=by
 have hz:Be (Ct (Ro p m j) (GI.toZ (j:Int)).toNat) 0=false:=by
  have:Ct (Ro p m j) j=0:=by
   apply UInt64.toNat_inj.1;rw[LC,Zx p m j (by omega),Bc7 (Rn p j m)];rfl
  rw[show(GI.toZ (j:Int)).toNat=j from rfl,this];rfl
 have hl:=Ke p 0 m;have htw:gI (Tf p 0 m) (m:Int)=some (Tf p 0 m,(m:Int)):=by
  rw[gI,Fv,Bw (by simp;omega),Aa,Aa];rfl
 rw[XH,pZ,BL (yM p 0 m (by omega)),Aa,Aau (by decide),Aau (by simp[Ae,Aq];omega),Ab3 (by rw[Ae];simp;omega),Bt (by rw[Dy];simp),Aa,hz,Aau (by decide),Ak,Aau (by rw[Aq];simp;omega),htw,Aa];exact Ads p _ _ j m Ax hm (by omega) (by have:=As;omega)
theorem At.cat{p:List UInt8}{a:Nat}{c d:List Bool}(h:At p a (c++d)):At p a c/\At p (a+c.length) d:=⟨h.left,h.right⟩
theorem Afu(p:List UInt8):∀(q a:Nat),At p a (List.replicate q true)->Cg p a q+1=2^q
 |0,a,_=>by rw[Cg]
 |q+1,a,h=>by
  rw[Bbk]at h;obtain⟨h0,h1⟩:=h.cons;have:=Afu p q (a+1) h1;rw[Cg,h0,Ayo,Ab3 rfl];omega
theorem B5{x:UInt64}{p:List UInt8}{m n:Nat}(hn:n<=63)(h:x.toNat=Cg p m n):x=Ro p m n:=by
 apply UInt64.toNat_inj.1;rw[h,Zx p m n (by omega)]
theorem bM{n:Nat}(h:n<2^64):(UInt64.ofNat n).toNat=n:=by rw[Ag1];exact Ack h
theorem vk{p:List UInt8}{m q:Nat}(hq:q<=48)(hm:m+48<=300000)(h:At p m (List.replicate q true++(if q=48 then []else [false]))):
  bP (Tf p 0 m) (m:Int) (q:Int)=some (Tf p 0 (m+min (q+1) 48),((m+min (q+1) 48:Nat):Int),0):=by
 have h1:=h.left;have hv:=Afu p q m h1;have Bhf:2^q<=2^48:=Afq (by omega) hq;have hval:Cg p m (min (q+1) 48)+1=2^q:=by
  by_cases h48:q=48
  ·subst h48;exact hv
  ·rw[Aau h48]at h;have h2:=h.right;rw[Au9]at h2;have h0:=h2.cons.1;rw[show min (q+1) 48=q+1 by omega,rE,h0];simpa using hv
 have hx:(Ap (Ei (1:UInt64) q) (1:UInt64)).toNat=Cg p m (min (q+1) 48):=by
  have e1:(Ei (1:UInt64) q).toNat=2^q:=by rw[XB];show 1*2^q %_=_;rw[Bgb];exact Ack (by omega)
  have hpos:0<2^q:=Bdk (by omega);rw[yH,UInt64.toNat_sub_of_le _ _ (by rw[UInt64.le_iff_toNat_le,e1];exact hpos),e1]
  show 2^q-1=_;omega
 rw[bP,BL (yM p 0 m (by omega)),Aa,Aau (by decide),jI,Aau (by simp[Ae,Aq];omega),Aa];simp only;have e2:Fj (Ad (q:Int) 1) 48=((min (q+1) 48:Nat):Int):=by rw[HL,Ak];omega
 rw[Aau (by decide),Bt (by rw[Dy];simp),Aa,e2,show(GI.toZ (q:Int)).toNat=q from rfl,B5 (by omega) hx,put_eq p m _ (by omega) (by omega),Aa]
theorem Apr{p:List UInt8}{m l:Nat}{v:UInt32}(hl:l<=24)(hm:m+81<=300000)(h:At p m (YX l v.toNat)):
  jL (Tf p 0 m) (m:Int) v (l:Int)=some (Tf p 0 (m+(YX l v.toNat).length),((m+(YX l v.toNat).length:Nat):Int),0):=by
 have hvl:=v.toNat_lt;have hz:(GI.toZ (l:Int)).toNat=l:=rfl;have hlp:2^l<=2^24:=Afq (by omega) hl;have hpos:0<2^l:=Bdk (by omega);have Beu:BY v (l:Int)=some (decide (48<=v.toNat/2^l)):=by
  rw[BY,Bt (by rw[Dy];simp),Aa,hz,Ajv,PY];rfl
 rw[jL,cM,BL (yM p 0 m (by omega)),Aa,Aau (by decide),Aau (by simp[Ae,Aq];omega),Bt (by rw[Dy];simp),Aa,Aa,Beu,Aa];rw[YX]at h⊢;by_cases h48:48<=v.toNat/2^l
 ·rw[Ab3 h48]at h⊢;obtain⟨h1,h2⟩:=h.cat;rw[Au9]at h2;have hval:=OU p 32 (m+48) v.toNat h2;rw[Ack (by omega)]at hval;have hu:=vk (p:=p) (m:=m) (q:=48) (Am4 _) (by omega) (by rw[Ab3 rfl,Aue];exact h1);rw[Ab3 (by simpa using h48),PN,cT,show(48:Int)=((48:Nat):Int)from rfl,hu,Aa];simp only;rw[Aau (by decide),Dw,B5 (x:=UInt64.ofNat v.toNat) (p:=p) (m:=m+48) (n:=32) (by omega) (by rw[bM (by omega),hval]),show(32:Int)=((32:Nat):Int)from rfl,show m+min (48+1) 48=m+48 by omega,put_eq p (m+48) 32 (by omega) (by omega),Aa,Aci,Au9,Va,Azx]
 ·rw[Aau h48]at h⊢;generalize hq:v.toNat/2^l=q at*
  obtain⟨h1,h2⟩:=h.cat;rw[Au9]at h2;obtain⟨h3,h4⟩:=h2.cons;have hval:=OU p l (m+q+1) (v.toNat %2^l) h4;rw[Nat.mod_mod]at hval;have hqa:At p m (List.replicate q true++[false]):=by
   have:List.replicate q true++(false::lA (v.toNat %2^l) l)=(List.replicate q true++[false])++lA (v.toNat %2^l) l:=by simp
   rw[this]at h;exact h.left
  have hu:=vk (p:=p) (m:=m) (q:=q) (by omega) (by omega) (by rw[Aau (by omega)];exact hqa);have hgq:(Af (Ct v l):Int)=(q:Int):=by rw[X5,PY,hq]
  have hrest:(Af (Ey v (Ap (Ei (1:UInt32) l) 1)):UInt64)=Ro p (m+q+1) l:=by
   apply B5 (by omega);have e1:(Ei (1:UInt32) l).toNat=2^l:=by rw[pJ];show 1*2^l %_=_;rw[Bgb];exact Ack (by omega)
   have e2:(Ap (Ei (1:UInt32) l) (1:UInt32)).toNat=2^l-1:=by
    rw[X8,Bfy _ _ (by rw[Bfz,e1];exact hpos),e1];rfl
   have e3:(Ey v (Ap (Ei (1:UInt32) l) 1)).toNat=v.toNat %2^l:=by
    rw[Q5,UInt32.toNat_and,e2,Bds]
   rw[Dw,bM (by rw[e3];have:=Bde v.toNat hpos;omega),e3,hval]
  rw[Aau (by simpa using h48),PN,cT,hz,hgq,hu,Aa];simp only;rw[Aau (by decide),hrest,show m+min (q+1) 48=m+q+1 by omega,put_eq p (m+q+1) l (by omega) (by omega),Aa,Aci,Au9,Akt,Va,show m+q+1+l=m+(q+(l+1)) by omega]
theorem Aq3{k l:Nat}{s t:UInt64}(h:okD k l s t)(v:UInt32):kF [] 0 (k:Int) (l:Int) s t v=
  some (Mu (Ua k l v),((Ua k l v).length:Int),((kS k (Zm s (L8 v)):Nat):Int),((lK l t k v:Nat):Int),Zm s (L8 v),lT t k v,0):=by
 obtain⟨h1,h2,h3,h4⟩:=h;have hvl:=v.toNat_lt;have hAt:At (Mu (Ua k l v)) 0 (Ua k l v):=λi hi=>by rw[Azm,GJ]
 have hlen:=fT v h1 h2;have hfull:Tf (Mu (Ua k l v)) 0 (Ua k l v).length=Mu (Ua k l v):=by
  apply Adt (by rw[Ke,BF]);intro i hi;rw[wG,Azm,GJ];by_cases hlt:i<(Ua k l v).length
  ·rw[Ab3 hlt]
  ·rw[Aau hlt,Ab5 (by omega)]
 generalize hP:Mu (Ua k l v)=P at*
 have h0:Tf P 0 0=[]:=rfl;have Bdb:∀(x:Int) (y:UInt64) (aj ai:Int),DH v (k:Int) s ai P x y=some (P,ai,((kS k (Zm s (L8 v)):Nat):Int),x,Zm s (L8 v),y,0):=by
  intro x y aj ai;rw[DH,cR,Dw,fF,Ale k h1];rw[dU,cW,WR,HV,Dw,fF];rfl
 have hp7:∀ai:Int,OY v (k:Int) (l:Int) s t 0 ai P=some (P,ai,((kS k (Zm s (L8 v)):Nat):Int),((lK l t k v:Nat):Int),Zm s (L8 v),lT t k v,0):=by
  intro ai;rw[OY,dZ,Aau (by decide),X7 k l s t h1,Aa];by_cases hv:v.toNat<2^k
  ·rw[Ab3 hv];simp only;rw[Aau (by rw[Ar];simp),Bdb _ _ 0,lK,Ab3 hv,lT,Ab3 hv]
  ·rw[Aau hv];simp only;rw[Ab3 (by rw[Ar];rfl),Dw,fF,Ale l h2 _ (λx=>DH v (k:Int) s ai P x (Zm t (UInt64.ofNat (kT k v).toNat))),Bdb _ _ 0,lK,Aau hv,lT,Aau hv];rfl
 rw[kF,dO,show Ky [] 0=some 0 from rfl,Aa,Aau (by decide),Atk ⟨h1,h2,h3,h4⟩,Aa,Aau (by decide),cS,dN,X7 k l s t h1,Aa];have hput:=put_eq P 0 1 (by omega) (by omega);rw[h0,Azm,show((0:Nat):Int)=0 from rfl,show((1:Nat):Int)=1 from rfl]at hput;by_cases hv:v.toNat<2^k
 ·have hc:Ua k l v=false::lA v.toNat k:=by rw[Ua,Ab3 hv]
  rw[hc]at hAt hfull;obtain⟨b0,b1⟩:=hAt.cons;have hval:=OU P k 1 v.toNat b1;rw[Ack hv]at hval;have hz:(Af (0:Int):UInt64)=Ro P 0 1:=B5 (by omega) (by rw[xN,b0];rfl);rw[Ab3 hv];simp only;rw[hz,hput,Aa];simp only;rw[Ab3 (by decide),Dw,B5 (x:=UInt64.ofNat v.toNat) (p:=P) (m:=1) (n:=k) (by omega) (by rw[bM (by omega),hval]),show(1:Int)=((1:Nat):Int)from rfl,put_eq P 1 k (by omega) (by omega),Aa];simp only;rw[Akt,Va,Be5 k 1]at hfull;rw[hfull,hp7,hc,Akt,Va,Be5 k 1]
 ·have hc:Ua k l v=true::YX l (v.toNat-2^k):=by rw[Ua,Aau hv]
  rw[hc]at hAt hfull;obtain⟨b0,b1⟩:=hAt.cons;have hsub:=Nat.sub_le v.toNat (2^k);have hlv:(kT k v).toNat=v.toNat-2^k:=by rw[kT,aZ (by omega)]
  have hz:(Af (1:Int):UInt64)=Ro P 0 1:=B5 (by omega) (by rw[xN,b0];rfl);have hr:=Apr (p:=P) (m:=1) (l:=l) (v:=kT k v) h2 (by omega) (by rw[hlv];exact b1);rw[hlv,show((1:Nat):Int)=1 from rfl]at hr;rw[Aau hv];simp only;rw[hz,hput,Aa];simp only;rw[Aau (by decide),Ab3 (by decide),hr,Aa];simp only;rw[Akt,Be5 _ 1]at hfull;rw[hfull,hp7,hc,Akt,Be5 _ 1]
section
variable (ch:Nat) (x:List Int32)
theorem aW{at' i:Nat}(ha:at' %ch=0)(hi:i<ch)(h:at'+i<x.length):(mx ch x).getD (at'+i) 0=mxV (λi=>x.getD (at'+i) 0) ch i:=by
 have hb:(at'+i) %ch=i:=by rw[Nat.add_mod,ha,Azm,Nat.mod_mod,Ack hi]
 rw[Ast h,hb,show at'+i-i=at' by omega]
theorem Afo(bk:Int->List Int32->Option (List Int32×Int))(at':Nat)(h1:1<=ch)(h6:ch<=6)(hm:at' %ch=0)(hl:at'+ch<=x.length)(hl2:x.length<=4000):∀(j i q:Nat),i+j=ch-1->j<q->
  FM bk (ch:Int) (at':Int) q (i:Int) (jK (λk=>decide (k<at'+i)) (mx ch x) x)=bk ((at'+ch:Nat):Int) (jK (λk=>decide (k<at'+ch)) (mx ch x) x)
 |j,i,0,_,h=>absurd h (Bc8 _)
 |0,i,q+1,hi,_=>by
  have hlen:=XR ch x;have e1:Ap (Ad (at':Int) (ch:Int)-(at':Int)) 1=((ch-1:Nat):Int):=by rw[Ak,Bs];omega
  have e2:Ad (at':Int) (ch:Int)-(at':Int)=(ch:Int):=by rw[Ak];omega
  have e4:Ad (at':Int) (ch:Int)=((at'+ch:Nat):Int):=by rw[Ak];omega
  rw[FM,aN,e1,Aau (by rw[Ae];simp;omega),nY,qI,e1,e2];obtain rfl:i=ch-1:=by omega
  by_cases h2:1<ch
  ·have e3:Ap ((ch-1:Nat):Int) 1=((ch-2:Nat):Int):=by rw[Bs];omega
   have hv:Ap (x.getD (at'+(ch-1)) 0) (Db ((mx ch x).getD (at'+(ch-2)) 0) 2)=(mx ch x).getD (at'+(ch-1)) 0:=by
    rw[aW ch x hm (by omega) (by omega),aW ch x hm (by omega) (by omega),mxV,mxV,Ab3 (by omega),Aau (by omega),Ab3 h2,aF,show ch-2+1=ch-1 by omega]
   rw[Ab3 (by rw[Aq];simp;omega),tA (by omega),Aa,e3,tA (by omega),Aa,
    show(at':Int)+((ch-1:Nat):Int)=((at'+(ch-1):Nat):Int) by omega,show(at':Int)+((ch-2:Nat):Int)=((at'+(ch-2):Nat):Int) by omega,
    DW (by omega),Aa,DW (by omega),Aa,Aa,Aau (by simp),Ab3 (by simp;omega),hv,gW (by omega),Aa,bH,oL,e4]
   congr 1;apply Xv;intro k _;rw[Ajf];simp;omega
  ·obtain rfl:ch=1:=by omega
   have hlast:x.getD at' 0=(mx 1 x).getD at' 0:=by
    have:=aW 1 x (i:=0) hm (by omega) (by omega);rw[Bcz]at this;rw[this,mxV,Aau (by omega),Aau (by omega)];rfl
   rw[Aau (by rw[Aq];simp),bH,oL,e4];congr 1;apply Bae (by rw[PA,PA]);intro k g1 g2;rw[We,We];by_cases hk:k<at'
   ·rw[Ab3 (by simp;omega),Ab3 (by simp;omega)]
   ·by_cases hk2:k=at'
    ·subst hk2;rw[Aau (by simp),Ab3 (by simp)];exact hlast
    ·rw[Aau (by simp;omega),Aau (by simp;omega)]
 |j+1,i,q+1,hi,hq=>by
  have hlen:=XR ch x;have e1:Ap (Ad (at':Int) (ch:Int)-(at':Int)) 1=((ch-1:Nat):Int):=by rw[Ak,Bs];omega
  have e2:Ad (at':Int) (ch:Int)-(at':Int)=(ch:Int):=by rw[Ak];omega
  have e3:Ad (i:Int) 1=((i+1:Nat):Int):=by rw[Ak];omega
  have hv:Ap (x.getD (at'+(i+1)) 0) (x.getD (at'+i) 0)=(mx ch x).getD (at'+i) 0:=by
   rw[aW ch x hm (by omega) (by omega),mxV,Ab3 (by omega),aF]
  rw[FM,aN,e1,Ab3 (by rw[Ae];simp;omega),e2,e3,tA (by omega),Aa,tA (by omega),Aa,
   show(at':Int)+((i+1:Nat):Int)=((at'+(i+1):Nat):Int) by omega,show(at':Int)+(i:Int)=((at'+i:Nat):Int) by omega,
   DW (by omega),Aa,DW (by omega),Aa,Aa,Aau (by simp),Aau (by simp),hv,gW (by omega),Aa]
  have ih:=Afo bk at' h1 h6 hm hl hl2 j (i+1) q (by omega) (by omega);rw[<-ih];congr 1;apply Xv;intro k _;rw[Ajf];simp;omega
theorem I5(h1:1<=ch)(h6:ch<=6)(hm:x.length %ch=0)(hl2:x.length<=4000):∀(j at' q:Nat),at' %ch=0->at'<=x.length->x.length-at'<=j->j<q->
  FV (ch:Int) q (at':Int) (jK (λk=>decide (k<at')) (mx ch x) x)=some (mx ch x,0)
 |j,at',0,_,_,_,h=>absurd h (Bc8 _)
 |j,at',q+1,ha,hle,hj,hq=>by
  have hlen:=XR ch x;have hl:Ac (jK (λk=>decide (k<at')) (mx ch x) x)=(x.length:Int):=by rw[Ac,PA,hlen]
  rw[FV,pK,hl];by_cases h:at'<x.length
  ·have hb:=yD ha hm h;obtain⟨j,rfl⟩:∃k,j=k+1:=⟨j-1,by omega⟩;have e4:Ad (at':Int) (ch:Int)=((at'+ch:Nat):Int):=by rw[Ak];omega
   have hi:=Afo ch x (FV (ch:Int) q) at' h1 h6 ha hb hl2 (ch-1) 0 Ax (by omega) (by have:=As;omega);have hrest:=I5 h1 h6 hm hl2 j (at'+ch) q (by rw[Bfo,ha]) hb (by omega) (by omega);rw[Bcz]at hi;rw[Ab3 (by rw[Ae];simp;omega),show kW (x.length:Int) (at':Int) (Ad (at':Int) (ch:Int))=some () by rw[e4,kW,tA];omega,Aa];exact Bcq hi hrest
  ·rw[Aau (by rw[Ae];simp;omega),qS (λk hk=>by simp;omega)];rfl
theorem Amu(h1:1<=ch)(h6:ch<=6)(hm:x.length %ch=0)(hl2:x.length<=4000):M3 (ch:Int) x=some (mx ch x,0):=by
 have hlen:=XR ch x;have h:=I5 ch x h1 h6 hm hl2 x.length 0 Ax (by simp) (by omega) (by omega) (by have:=As;omega);rw[M3,vK,Ad9 ch x h1 h6 hm hl2,Aa,Aau (by rw[Ag];simp),En,Bw (by simp;omega),Aa,Aa,Auc,qQ];rw[nF hlen.symm (λk _=>by simp)]at h;exact h
end
theorem Arl(a:Int32):rM a=some (qD a):=by
 have h:=CM a;have hc:(Af a:UInt32)=UInt32.ofNat (a.toInt %4294967296).toNat:=rfl;have hs:(Ct a (GI.toZ (31:UInt64)).toNat)=if 0<=a.toInt then(0:Int32)else -1:=by
  have e:Ct a 31=Int32.ofInt (a.toInt.fdiv (2^31)):=rfl;rw[show(GI.toZ (31:UInt64)).toNat=31 from rfl,e];by_cases h0:0<=a.toInt
  ·rw[Ab3 h0,show a.toInt.fdiv (2^31)=0 by rw[Aye _ (by decide)];omega];rfl
  ·rw[Aau h0,show a.toInt.fdiv (2^31)= -1 by rw[Aye _ (by decide)];omega];rfl
 rw[rM,hs,hc,qD];congr 1;have hsh:(Ei (UInt32.ofNat (a.toInt %4294967296).toNat) (GI.toZ (1:UInt64)).toNat).toNat=2*(a.toInt %4294967296).toNat %4294967296:=by
  rw[show(GI.toZ (1:UInt64)).toNat=1 from rfl,pJ,Ajz,Ack (show(a.toInt %4294967296).toNat<2^32 by omega)];omega
 by_cases h0:0<=a.toInt
 ·rw[Ab3 h0,Ab3 h0,show(Af (0:Int32):UInt32)=0 from rfl];apply UInt32.toNat_inj.1;rw[show∀z:UInt32,Zn z (0:UInt32)=z^^^0 from λz=>by rw[gE],Bfv,hsh,Ajz,Ack (show 2*a.toInt.toNat<2^32 by omega)]
  show _^^^0=_;rw[Nat.xor_zero];omega
 ·rw[Aau h0,Aau h0,show(Af (-1:Int32):UInt32)=4294967295 from rfl];apply UInt32.toNat_inj.1;rw[show∀z:UInt32,Zn z (4294967295:UInt32)=z^^^4294967295 from λz=>by rw[gE],Bfv,hsh,Ajz,Ack (show 2*(-a.toInt-1).toNat+1<2^32 by omega)]
  show _^^^4294967295=_;have key:∀n:Nat,n<4294967296->n^^^4294967295=4294967295-n:=by
   intro n hn;have:=BitVec.toNat_not (x:=BitVec.ofNat 32 n);rw[<-BitVec.xor_allOnes,BitVec.toNat_xor,BitVec.toNat_ofNat,Ack (by omega)]at this;simpa using this
  rw[key _ (by omega)];omega
theorem Ari{bits:Int}(h:Bu bits){t p:List Int32}(hF:OkF (sB bits) t p)(last x:Int32):
  Xz bits last (sB bits) t p x=some (K4 bits (last,t,p) x,bits,x,sB bits,Y1 t p (K4 bits (last,t,p) x),(x-gs (shB bits) last)::p.take 15,0):=by
 rw[Xz,R4 h,Aa,Aau (by rw[Ag];simp),Atb h,Aa];simp only;rw[aF,bG,Ady hF,Aa];simp only;rw[Aau (by rw[Ag];simp),aF,WG,Afv hF,Aa];simp only;rw[Alo (s:=sB bits) (t:=Y1 t p _) (p:=p) ⟨hF.1,KX _ _ _,hF.2.2⟩,Aa,Aa];rfl
theorem R9(bits:Int)(ch:Nat)(t x:List Int32):(Nl bits ch t x).length=x.length:=qW _ _ _ _ _
theorem Apy{bits:Int}{ch:Nat}{t x:List Int32}{i:Nat}(h:i<x.length):(Nl bits ch t x).getD i 0=qD (K4 bits (cst bits ch t (Nl bits ch t x) (i %ch) i) ((mx ch x).getD i 0)):=by
 obtain⟨w,hw⟩:=Abj bits ch t (mx ch x) (x.length-(i+1)) (i+1);rw[show i+1+(x.length-(i+1))=x.length by omega,evl,Aej]at hw;have hli:=qW bits ch t (mx ch x) i;have hw':Nl bits ch t x=_:=hw;have hg:(Nl bits ch t x).getD i 0=qD (K4 bits (cst bits ch t (evl bits ch t (mx ch x) i) (i %ch) i) ((mx ch x).getD i 0)):=by
  rw[hw',List.getD_eq_getElem?_getD,List.getElem?_append_right (by omega),hli,Nat.sub_self];rfl
 have hc:cst bits ch t (Nl bits ch t x) (i %ch) i=cst bits ch t (evl bits ch t (mx ch x) i) (i %ch) i:=by rw[hw',All _ _ _ _ _ _ _ (by omega)]
 rw[hg,hc]
section
variable {bits:Int} {ch:Nat} {t x:List Int32} (hb:Bu bits) (ht:t.length=16) (h1:1<=ch) (h6:ch<=6) (hx1:1<=x.length) (hx4:x.length<=4000) (hm:x.length %ch=0)
include hb ht h1 h6 hx1 hx4 hm
omit ht in
theorem Ay4(hr:inR bits x):PG (ch:Int) bits x=some 0:=by
 rw[PG,Arw hb h1 h6,Aa,Aau (by decide),jR hb x hx4,rO hb hx4 hr,Aa,Aau (by decide),Aau (by rw[Ar,Ac,Aug];omega),Bt (by rw[Ag];simp;omega),Aa,Ac,YE,hm,Aau (by decide)]
omit hm in
theorem qj:∀(j i q:Nat),i+j=x.length->j<q->
  Mp (mx ch x) (ch:Int) bits q (i:Int) (cts bits ch t (Nl bits ch t x) i) ((Nl bits ch t x).take i)=some (Nl bits ch t x,0)
 |j,i,0,_,h=>absurd h (Bc8 _)
 |0,i,q+1,hi,_=>by
  have hl:=XR ch x;have hV:=R9 bits ch t x;rw[Mp,Wp,Aau (by rw[Ae,Ac];simp;omega),Aqt (by omega)];rfl
 |j+1,i,q+1,hi,hq=>by
  have hl:=XR ch x;have hV:=R9 bits ch t x;have hc:i %ch<6:=Ai7 (Bde _ (by omega)) h6;have hok:=Ab6 bits ch ht (Nl bits ch t x) (i %ch) i;have hs:=Ajr (bits:=bits) (ch:=ch) (t:=t) (v:=Nl bits ch t x) (i:=i) hc rfl;have hg:=Apy (bits:=bits) (ch:=ch) (t:=t) (x:=x) (i:=i) (by omega);have ih:=qj j (i+1) q (by omega) (by omega);have htk:(Nl bits ch t x).take i++[(Nl bits ch t x).getD i 0]=(Nl bits ch t x).take (i+1):=by
   have:(Nl bits ch t x).getD i 0=(Nl bits ch t x)[i]'(by omega):=by rw[List.getD_eq_getElem?_getD,List.getElem?_eq_getElem (by omega)];rfl
   rw[this,Lg (by omega)]
  have hfw:=Ari hb hok (cst bits ch t (Nl bits ch t x) (i %ch) i).1 ((mx ch x).getD i 0);rw[Mp,Wp,Ab3 (by rw[Ae,Ac];simp;omega),g32 (by omega),Aa,Aa,Bt (by rw[Ag];simp;omega),Aa,YE,Akd hc,Aa,Aa];refine Bcq (congrArg (λo=>Option.bind o _) hfw) ?_;rw[Aa];simp only;rw[Aau (by decide)];have hst:((bits,(mx ch x).getD i 0,(sB bits,Y1 (cst bits ch t (Nl bits ch t x) (i %ch) i).2.1 (cst bits ch t (Nl bits ch t x) (i %ch) i).2.2 (K4 bits (cst bits ch t (Nl bits ch t x) (i %ch) i) ((mx ch x).getD i 0)),((mx ch x).getD i 0-gs (shB bits) (cst bits ch t (Nl bits ch t x) (i %ch) i).1)::(cst bits ch t (Nl bits ch t x) (i %ch) i).2.2.take 15,()),()):CL)=toC bits (qo bits (cst bits ch t (Nl bits ch t x) (i %ch) i) (XK ((Nl bits ch t x).getD i 0))):=by
   rw[hg,Ar3,toC,qo,xc];simp only;rw[K4,bU]
  refine Bcq (congrArg (λo=>Option.bind o _) ((congrArg (λz=>Nk (cts bits ch t (Nl bits ch t x) i) ((i %ch:Nat):Int) z) hst).trans hs)) ?_;rw[Aa,Arl,Aa];have hg2:qD (K4 bits ((cst bits ch t (Nl bits ch t x) (i %ch) i).1,(cst bits ch t (Nl bits ch t x) (i %ch) i).2.1,(cst bits ch t (Nl bits ch t x) (i %ch) i).2.2) ((mx ch x).getD i 0))=(Nl bits ch t x).getD i 0:=hg.symm;rw[hg2,Bw (by rw[Afa];simp;omega),Aa,htk,Ak];exact ih
theorem Aij(hr:inR bits x):KS (ch:Int) bits t x=some (Nl bits ch t x,0):=by
 have hl:=XR ch x;have h:=qj hb ht h1 h6 hx1 hx4 x.length 0 Ax (by omega) (by have:=As;omega);have e:Ax=(Ax-7)+1+1+1+1+1+1+1:=by have:=As;omega
 have hs:Yw (ch:Int) bits t (mx ch x) 0 (List.replicate 6 ((0:Int),(0:Int32),((0:Int),(List.replicate 16 (0:Int32)),(List.replicate 16 (0:Int32)),()),()))=KI (ch:Int) bits (mx ch x) (cts bits ch t (Nl bits ch t x) 0):=by
  rw[Yw,e];obtain rfl|rfl|rfl:=hb<;>rfl
 rw[KS,KM,Ay4 hb h1 h6 hx1 hx4 hm hr,Aa,Aau (by decide),Amu ch x h1 h6 hm hx4,Aa];simp only;rw[Aau (by decide)];refine Bcq hs ?_;exact h
end
theorem Aiw(ch:Nat):LD=some (sts ch []):=by
 have e:Ax=(Ax-7)+1+1+1+1+1+1+1:=by have:=As;omega
 rw[LD,JI,IX,e];rfl
theorem Acq(c:List Bool){n:Nat}(h:n<=c.length):Tf (Mu c) 0 n=Mu (c.take n):=by
 have hl:(c.take n).length=n:=by rw[Afa];omega
 apply Adt (by rw[Ke,BF,hl]);intro i hi;rw[wG,Azm,GJ,GJ];by_cases hlt:i<n
 ·rw[Ab3 hlt,tb,tb,List.getD_eq_getElem?_getD,List.getD_eq_getElem?_getD,List.getElem?_take,Ab3 hlt]
 ·rw[Aau hlt,Ab5 (by omega)]
theorem Azi(a:UInt8){k:Nat}(hk:k<8):Ey (Ct a k) (1:UInt8)=UInt8.ofNat (a.toNat/2^k %2):=by
 apply UInt8.toNat_inj.1;rw[Ajq,UInt8.toNat_and,Aah,Apd]
 show _&&&1=_;rw[Nat.and_one_is_mod];generalize a.toNat/2^k=X;omega
theorem Af7(E code:List Bool)(hE:E.length+code.length<=330000)(bk:Int->List (Int×Int×UInt64×UInt64×Unit)->Int->List UInt8->Cc)(V:List UInt32)(b f g:Int)(k:List (Int×Int×UInt64×UInt64×Unit)):∀(j o q:Nat),o+j=code.length->j<q->
  Hm bk V b f (code.length:Int) g k (Mu code) q (o:Int) ((E.length+o:Nat):Int) (Tf (Mu (E++code)) 0 (E.length+o))=bk (Ad g 1) k ((E.length+code.length:Nat):Int) (Mu (E++code))
 |j,o,0,_,h=>absurd h (Bc8 _)
 |0,o,q+1,ho,_=>by
  obtain rfl:o=code.length:=by omega
  rw[Hm,Wk,Aau (by rw[Ae];simp),EE,WU,Acq _ (by rw[Aci];omega),Aqt (by rw[Aci];omega)]
 |j+1,o,q+1,ho,hq=>by
  generalize hP:Mu (E++code)=P;have hPo:Hu P (E.length+o)=Hu (Mu code) o:=by rw[<-hP,GJ,GJ,Aaj]
  have ih:=Af7 E code hE bk V b f g k j (o+1) q (by omega) (by omega);rw[hP,<-Azx]at ih;generalize hn:E.length+o=n at*
  have hq8:Db (n:Int) 8=((n/8:Nat):Int):=by rw[show(8:Int)=((8:Nat):Int)from rfl,vS]
  have hr8:Io (n:Int) 8=((n %8:Nat):Int):=by rw[show(8:Int)=((8:Nat):Int)from rfl,YE]
  have hqo:Db (o:Int) 8=((o/8:Nat):Int):=by rw[show(8:Int)=((8:Nat):Int)from rfl,vS]
  have hro:Io (o:Int) 8=((o %8:Nat):Int):=by rw[show(8:Int)=((8:Nat):Int)from rfl,YE]
  have hroom:Hm bk V b f (code.length:Int) g k (Mu code) (q+1) (o:Int) (n:Int) (Tf P 0 n)=Wg (Hm bk V b f (code.length:Int) g k (Mu code) q) (code.length:Int) V g b f k (Mu code) (o:Int) (n:Int) (room P 0 n):=by
   rw[Hm,Wk,Ab3 (by rw[Ae];simp;omega),hr8,room];by_cases h0:n %8=0
   ·rw[Ab3 (by rw[Ar,h0];rfl),Bw (by rw[Ke];simp;omega),Aa,Ab3 h0]
   ·rw[Aau (by rw[Ar];simp;omega),Aau h0]
  have hcl:=BF code;have hgm:Ao (Mu code) ((o/8:Nat):Int)=some ((Mu code).getD (o/8) 0):=by
   rw[Bn,List.getD_eq_getElem?_getD,List.getElem?_eq_getElem (by omega)];rfl
  have hg:Ao (room P 0 n) ((n/8:Nat):Int)=some (UInt8.ofNat (Cg P (0+8*(n/8)) (n %8))):=by
   rw[Bn (by rw[Qv];omega),rZ]
  have hbit:Ey (Ct ((Mu code).getD (o/8) 0) (o %8)) (1:UInt8)=UInt8.ofNat (Hu P n):=by
   rw[Azi _ (by omega),hPo,Hu]
  have hlt:=yN P (0+8*(n/8)) (n %8+1) (by omega);have hsn:=rE P (0+8*(n/8)) (n %8);rw[show 0+8*(n/8)+n %8=n by omega]at hsn;have hnew:D0 (UInt8.ofNat (Cg P (0+8*(n/8)) (n %8))) (Ei (UInt8.ofNat (Hu P n)) (n %8))=UInt8.ofNat (Cg P (0+8*(n/8)) (n %8+1)):=by
   rw[or8 (Rn _ _ _) (by rw[Ape];omega) (by omega),hsn,Ape (2^(n %8))]
  rw[hroom,Wg,EN,hqo,hro,hq8,hr8,hgm,Aa,Aa,Bt (by rw[Dy];simp;omega),Aa,hg,Aa,Bt (by rw[Dy];simp;omega),Aa,Aa,Aa,
   show(GI.toZ ((o %8:Nat):Int)).toNat=o %8 from rfl,show(GI.toZ ((n %8:Nat):Int)).toNat=n %8 from rfl,hbit,hnew,Uq _ (by rw[Qv];omega),Aa,wK P 0 n 1 (by omega) (by omega),EI,ZD,Ak,Ak]
  exact ih
theorem Bdp(l m:List UInt8)(h:l.length+m.length<=1000000):Nn [l,m]=some (l++m):=by
 have hF:Ax=(Ax-3)+1+1+1:=by have:=As;omega
 rw[Nn,Qk,Qj];have g0:Ao [l,m] (0:Int)=some l:=rfl;have g1:Ao [l,m] (1:Int)=some m:=rfl;have l2:Ac [l,m]=2:=rfl;have h3:Jw [l,m] []=some (l++m):=by
  rw[Jw,Pc,Oy,hF,Eu,Gw,l2,Ab3 (by decide),g0,Aa,Bw (by simp;omega),Aa,Auc,show Ad (0:Int) 1=1 by decide,
   Eu,Gw,l2,Ab3 (by decide),g1,Aa,Bw,Aa,show Ad (1:Int) 1=2 by decide,Eu,Gw,l2,Aau (by decide)]
  rfl
 rw[hF,Fg,Hq,l2,Ab3 (by decide),g0,Aa,Ak (by unfold Ac;omega) (by unfold Ac;omega),Aau (by rw[Ae,Ac];simp),show Ad (0:Int) 1=1 by decide,
  Fg,Hq,l2,Ab3 (by decide),g1,Aa,Ak (by unfold Ac;omega) (by unfold Ac;omega),Aau (by rw[Ae,Ac,Ac];simp;omega),show Ad (1:Int) 1=2 by decide,
  Fg,Hq,l2,Aau (by decide),Pa,Pq,Aau (by rw[Ae,Ac,Ac];simp;omega),Oz,Pm]
 have z:Ap (0:Int) 0=0:=by decide
 have n0:(0:Int)+Ac l+Ac m=((l.length+m.length:Nat):Int):=by simp[Ac]
 rw[z,n0,Bs,Int.sub_zero];by_cases hp:0<l.length+m.length
 ·rw[Ab3 (by rw[Aq];simp;omega),show kW (0:Int) 0 0=some ()from rfl,Aa,xE,Aa,Bw (by simp;omega),Aa];rw[show kW (Ac ([]++List.replicate ((l.length+m.length:Nat):Int).toNat (0:UInt8))) 0 0=some () by rw[kW,Bt];simp[Ac];omega,Aa];simp only[aL,Int.sub_self,Be3,Bbi];exact h3
 ·rw[Aau (by rw[Aq];simp;omega)];exact h3
theorem Ada(bits:Int)(ch:Nat)(h1:1<=ch)(h6:ch<=6)(V:List UInt32)(hV:V.length<=4000):∀(j i q:Nat),i+j=V.length->j<q->
  Jm V (ch:Int) bits q (i:Int) (sts ch (V.take i)) ((Tz ch V i).length:Int) (Mu (Tz ch V i))=some (Mu (Tz ch V V.length)++Rc (Dn (Mu (Tz ch V V.length))).toNat 4,0)
 |j,i,0,_,h=>absurd h (Bc8 _)
 |0,i,q+1,hi,_=>by
  obtain rfl:i=V.length:=by omega
  have hel:=oJ ch V V.length;have hpl:=BF (Tz ch V V.length);have hlt:=(Dn (Mu (Tz ch V V.length))).toNat_lt;rw[Jm,Wi,Aau (by rw[Ae,Ac];simp),FC,YY,C0 _ (by omega),Aa];simp only;have e64:(UInt64.ofNat (Dn (Mu (Tz ch V V.length))).toNat).toNat=(Dn (Mu (Tz ch V V.length))).toNat:=bM (by omega);rw[Aau (by decide),Dw,show(4:Int)=((4:Nat):Int)from rfl,YH _ 4 (by omega) (by omega) (by rw[e64];omega),Aa];simp only;rw[Aau (by decide),e64,Bdp _ _ (by rw[Ca];omega),Aa]
 |j+1,i,q+1,hi,hq=>by
  have hc:i %ch<6:=Ai7 (Bde _ (by omega)) h6;have hvl:(V.take i).length=i:=by rw[Afa];omega
  have hel:=oJ ch V i;have hk:=Aa3 ch (V.take i);have hcl:=fT (V.getD i 0) hk.1 hk.2;have ih:=Ada bits ch h1 h6 V hV j (i+1) q (by omega) (by omega);have hvi:V.getD i 0=V[i]'(by omega):=by rw[List.getD_eq_getElem?_getD,List.getElem?_eq_getElem (by omega)];rfl
  have htk:V.take i++[V.getD i 0]=V.take (i+1):=by rw[hvi,Lg (by omega)]
  have hst:=Aas (ch:=ch) (v:=V.take i) hc;have hset:=Ak2 (ch:=ch) (v:=V.take i) (V.getD i 0) hc (by rw[hvl]);have Bev:mC ch (V.take i) (i %ch) (V.take i).length=now ch (V.take i):=Aus (by rw[hvl]);rw[Bev]at hst hset;rw[htk]at hset;have hdp:=Aq3 (k:=(now ch (V.take i)).1) (l:=(now ch (V.take i)).2.1) (s:=(now ch (V.take i)).2.2.1) (t:=(now ch (V.take i)).2.2.2) (pS ch (V.take i) _ _) (V.getD i 0);have hpc:=Af7 (Tz ch V i) (Ua (now ch (V.take i)).1 (now ch (V.take i)).2.1 (V.getD i 0)) (by omega) (Jm V (ch:Int) bits q) V (ch:Int) bits (i:Int) (sts ch (V.take (i+1))) (Ua (now ch (V.take i)).1 (now ch (V.take i)).2.1 (V.getD i 0)).length 0 Ax (by omega) (by have:=As;omega);rw[show(Tz ch V i).length+0=(Tz ch V i).length from rfl,Acq _ (by rw[Aci];omega),Bf7,show((0:Nat):Int)=0 from rfl]at hpc;rw[Jm,Wi,Ab3 (by rw[Ae,Ac];simp;omega),wO (by omega),Aa,Aa,Bt (by rw[Ag];simp;omega),Aa,YE,hst,Aa,Aa];refine Bcq (congrArg (λo=>Option.bind o _) hdp) ?_;rw[Aa];simp only;rw[Aau (by decide),Aa,Aa];refine Bcq (congrArg (λo=>Option.bind o _) hset) ?_;rw[Aa];refine Bcq hpc ?_;rw[Ak];rw[Tz,Aci]at ih;exact ih
theorem Aby{bits:Int}{ch:Nat}{t x:List Int32}(hb:Bu bits)(ht:t.length=16)(h1:1<=ch)(h6:ch<=6)(hx1:1<=x.length)(hx4:x.length<=4000)(hm:x.length %ch=0)(hr:inR bits x):
  Vy (ch:Int) bits t x=some (Ry bits ch t x,0):=by
 have hV:=R9 bits ch t x;have h:=Ada bits ch h1 h6 (Nl bits ch t x) (by omega) (Nl bits ch t x).length 0 Ax (by omega) (by have:=As;omega);have e0:Mu (Tz ch (Nl bits ch t x) 0)=[]:=by simp[Tz,Mu]
 have e1:((Tz ch (Nl bits ch t x) 0).length:Int)=0:=rfl;rw[e0,e1,Bbi,hV,show((0:Nat):Int)=0 from rfl]at h;rw[Vy,JK,Aij hb ht h1 h6 hx1 hx4 hm hr,Aa];simp only;rw[Aau (by decide),Aiw ch,Aa,Ry,ZK,ES];exact h
theorem Az6{r:Nat}(h1:1<=r)(h:r<=1048576):Te (r:Int)=some ((Am r:Int),0):=by
 have hv:=V9 h;have e:Br (r:Int) 256=Br 256 (r:Int):=by rw[Ii,Ii];omega
 rw[Te,Aau (by simp[Ae,Aq];omega),e];have hq:0<=Db (Br 256 (r:Int)) 245:=by
  have e2:Br 256 (r:Int)=((256*r:Nat):Int):=by rw[Ii];omega
  rw[e2,show(245:Int)=((245:Nat):Int)from rfl,vS];omega
 rw[Abw]at hv;by_cases hz:Db (Br 256 (r:Int)) 245=0
 ·rw[Ab3 (by rw[Ar];simpa using hz)];rw[hz]at hv;have:(1:Int)=(Am r:Int):=by omega
  rw[this]
 ·rw[Aau (by rw[Ar];simpa using hz)];have:Db (Br 256 (r:Int)) 245=(Am r:Int):=by omega
  rw[this]
structure ClipOk (c w r n:Nat) (x:List Int32):Prop where
 ch:1<=c/\c<=6
 bits:Bu (w:Int)
 rate:1<=r/\r<=1048576
 cnt:1<=n/\n<=4000/c
 len:x.length=n*c
 fr:(n-1)/Am r+1<=1000
 rng:inR (w:Int) x
theorem ClipOk.le{c w r n:Nat}{x:List Int32}(h:ClipOk c w r n x):n<=4000/\n*c<=4000/\1<=x.length/\x.length<=4000:=by
 have h1:=Agu c h.cnt.2;have h2:=Bbl 4000 c;have h3:=Auf 4000 c;have h4:=Bge h.cnt.1 h.ch.1;have h5:=h.len;have:=h.cnt;omega
theorem ClipOk.w3{c w r n:Nat}{x:List Int32}(h:ClipOk c w r n x):w=8\/w=16\/w=24:=by
 have:=h.bits;unfold Bu at this;omega
theorem ClipOk.shape{c w r n:Nat}{x:List Int32}(h:ClipOk c w r n x)(f:Nat)(hf:f=1\/f=2):Eo f c w r n=true:=by
 have:=h.w3;have:=h.ch;have:=h.rate;have:=h.cnt;simp only[Eo,Acj];omega
theorem ClipOk.fit{c w r n:Nat}{x:List Int32}(h:ClipOk c w r n x):Xm c r n=true:=by
 have:=h.cnt;have:=h.fr;simp only[Xm,Acj];omega
theorem Bbu{bits:Int}(h:Bu bits){l:List Int32}(hl:l.length<=4000):Ay bits l=some 0\/Ay bits l=some 16:=by
 have hh:=NX bits;have key:∀(j i q:Nat),i+j=l.length->j<q->Az l (hB bits) q (i:Int)=some 0\/Az l (hB bits) q (i:Int)=some 16:=by
  intro j
  induction j with
  |zero=>
   intro i q hi hq;obtain⟨q,rfl⟩:∃q',q=q'+1:=⟨q-1,by omega⟩;rw[Az,Cu,Aau (by rw[Ae,Ac];simp;omega)];exact .inl rfl
  |succ j ih=>
   intro i q hi hq;obtain⟨q,rfl⟩:∃q',q=q'+1:=⟨q-1,by omega⟩;have ih:=ih (i+1) q (by omega) (by omega);have hi1:Ad (i:Int) 1=((i+1:Nat):Int):=by rw[Ak];omega
   rw[Az,Cu,Ab3 (by rw[Ae,Ac];simp;omega),Bn,Aa,Aa,hi1];split
   ·exact .inr rfl
   ·split
    ·exact .inr rfl
    ·exact ih
 have hk:=key l.length 0 Ax (by omega) (by have:=As;omega);rw[Ay,Dq,UO h,Aa,Aau (by rw[Ar];simp;omega),Aau (by rw[Aq,Ac];simp;omega)];exact hk
theorem yK{bits:Int}(h:¬Bu bits):Kf bits=some 0/\Wf bits=some (0,0,2):=by
 unfold Bu at h;constructor
 ·rw[Kf,Aau (by rw[Ar,Aug];omega),Aau (by rw[Ar,Aug];omega),Aau (by rw[Ar,Aug];omega)]
 ·have e:(geq bits 24)=false:=by rw[Ar,beq_eq_false_iff_ne];omega
  rw[Wf,XF,Aau (by rw[Ar,Aug];omega),Aau (by rw[Ar,Aug];omega),e,ZO,nR,Aau (by decide)]
theorem B2{r:Nat}(h:r<=1048576):∀(j n q:Nat) (acc:List Int),n<=4000->n<=j->j<q->acc.length+n<=10000->
  Ld (Am r:Int) q (n:Int) acc=some (if 1000<(acc++(if n=0 then []else Ah (Am r) n)).length then([],4)else(acc++(if n=0 then []else Ah (Am r) n),0))
 |j,n,0,acc,_,_,h,_=>absurd h (Bc8 _)
 |j,n,q+1,acc,hn,hj,hq,ha=>by
  have hp:=Fe r;by_cases h0:n=0
  ·subst h0;rw[Ab3 rfl,Aue,Ld,Ul,Aau (by rw[Aq];simp),CJ,UL,Aq,Ac];by_cases hk:1000<acc.length
   ·rw[Ab3 hk,Ab3 (by simp;omega)]
   ·rw[Aau hk,Aau (by simp;omega)]
  ·obtain⟨j,rfl⟩:∃j',j=j'+1:=⟨j-1,by omega⟩;rw[Ld,Ul,Ab3 (by rw[Aq];simp;omega),Bw (by simp;omega),Aa,HL];by_cases hs:n<=Am r
   ·rw[show min (n:Int) (Am r:Int)=(n:Int) by omega,Bs,Int.sub_self];have ih:=B2 h j 0 q (acc++[(n:Int)]) (by omega) (by omega) (by omega) (by simp;omega);rw[Ab3 rfl,Aue]at ih;rw[Aau h0,tJ hs (by omega)];exact ih
   ·rw[show min (n:Int) (Am r:Int)=(Am r:Int) by omega,Bs,show(n:Int)-(Am r:Int)=((n-Am r:Nat):Int) by omega];have e:acc++Ah (Am r) n=(acc++[(Am r:Int)])++Ah (Am r) (n-Am r):=by rw[H7 hp (show Am r<n by omega)];simp
    have ih:=B2 h j (n-Am r) q (acc++[(Am r:Int)]) (by omega) (by omega) (by omega) (by simp;omega);rw[Aau (show ¬n-Am r=0 by omega),<-e]at ih;rw[Aau h0];exact ih
theorem Aia(C W R:Int)(x:List Int32)(hlen:x.length<4611686018427387904):(Dr C W R x=some 8/\Fi C W R x=some 8)\/
  (∃c w r n:Nat,C=(c:Int)/\W=(w:Int)/\R=(r:Int)/\ClipOk c w r n x/\Dr C W R x=some 0/\Fi C W R x=some 0):=by
 have ou:∀e:Int,e≠0->Cx C W x=some e->Dr C W R x=some 8:=by
  intro e he h;rw[Dr,Jn,Aa];simp only;rw[h,Aa,Ab3 (by rw[Ag];simpa using he)]
 by_cases hC:C<1
 ·refine .inl ⟨ou 2 (by decide) ?_,?_⟩
  ·rw[Cx,Di,Ab3 (by simp[Ae,Aq];omega),Aa,Ab3 (by decide)]
  ·rw[Fi,Ab3 (by rw[Ae];simpa using hC)]
 obtain⟨c,rfl⟩:=Ag0 (show 0<=C by omega);have hc1:1<=c:=by omega
 have hq:Db (Ac x) (c:Int)=((x.length/c:Nat):Int):=by rw[Ac,vS]
 have hr0:Io (Ac x) (c:Int)=((x.length %c:Nat):Int):=by rw[Ac,YE]
 have Atw:(∀m:Nat,x.length=m*c->OS (c:Int) W R x (m:Int)=some 8)->Fi (c:Int) W R x=some 8:=by
  intro h;rw[Fi,Aau (by rw[Ae];simpa using hC),Bt (by rw[Ag];simp;omega),Aa,hr0];by_cases hm:x.length %c=0
  ·have hx:x.length=x.length/c*c:=by have:=Bfd x.length c;rw[hm,Ape]at this;omega
   rw[hm,Aau (by decide),Aa,hq,h _ hx,Aa,Ab3 (by decide)]
  ·rw[Ab3 (by rw[Ag];simp;omega)]
 by_cases h6:6<c
 ·refine .inl ⟨ou 2 (by decide) ?_,Atw λm hm=>?_⟩
  ·rw[Cx,Di,Ab3 (by simp[Ae,Aq];omega),Aa,Ab3 (by decide)]
  ·rw[OS,NL,Aa];simp only;have:Ht (c:Int) W=some 2:=by
    rw[Ht];by_cases hb:Bu W
    ·rw[Aca hb,Aa];simp only;rw[Ab3 (by simp[Ag,Ae,Aq];omega)]
    ·rw[(yK hb).2,Aa];simp only;rw[Ab3 (by simp[Ag])]
   rw[this,Aa,Ab3 (by simp[Ag])]
 by_cases hb:Bu W
 rotate_left
 ·refine .inl ⟨ou 2 (by decide) ?_,Atw λm hm=>?_⟩
  ·rw[Cx,Di,Aau (by simp[Ae,Aq];omega),(yK hb).1,Aa,Ab3 (by decide),Aa,Ab3 (by decide)]
  ·rw[OS,NL,Aa];simp only;have:Ht (c:Int) W=some 2:=by
    rw[Ht,(yK hb).2,Aa];simp only;rw[Ab3 (by simp[Ag])]
   rw[this,Aa,Ab3 (by simp[Ag])]
 have hhB:=NX W;have e20:Di (c:Int) W=some 0:=by
  rw[Di,Aau (by simp[Ae,Aq];omega),UO hb,Aa,Aau (by rw[Ar];simp;omega)]
 have hq4:=yR hc1 (show c<=6 by omega);have ecf:=Arw hb hc1 (show c<=6 by omega);have Al7:∀m:Nat,OS (c:Int) W R x (m:Int)=if m<1\/4000/c<m then some 8 else Option.bind (Jz R (m:Int)) λy=>if(Be y.2 0)=true then some 8 else some 0:=by
  intro m;rw[OS,NL,Aa];simp only;rw[ecf,Aa];by_cases hm:m<1
  ·rw[Ab3 (by simp[Ag,Ae];omega),Ab3 (.inl hm)]
  ·rw[Aau (by simp[Ag,Ae];omega),Bt (by rw[Ag];simp;omega),Aa,hq4];by_cases hm2:4000/c<m
   ·rw[Ab3 (by rw[Aq,Acj,gt_iff_lt,Int.ofNat_lt];exact hm2),Ab3 (.inr hm2)]
   ·rw[Aau (by rw[Aq,Acj,gt_iff_lt,Int.ofNat_lt];exact hm2),Aau (by omega)]
 by_cases hx4:4000<x.length
 ·refine .inl ⟨ou 4 (by decide) ?_,Atw λm hm=>?_⟩
  ·have:Ay W x=some 4:=by
    rw[Ay,Dq,UO hb,Aa,Aau (by rw[Ar];simp;omega),Ab3 (by rw[Aq,Ac];simp;omega)]
   rw[Cx,e20,Aa,Aau (by decide),this,Aa,Ab3 (by decide),Aa]
  ·rw[Al7,Ab3];refine .inr ?_;rw[Nat.div_lt_iff_lt_mul (by omega)];omega
 have hx4:x.length<=4000:=by omega
 have hsame:=jR hb x hx4;rcases Bbu hb hx4 with h18|h18
 rotate_left
 ·refine .inl ⟨ou 16 (by decide) ?_,?_⟩
  ·rw[Cx,e20,Aa,Aau (by decide),h18,Aa,Ab3 (by decide),Aa]
  ·rw[Fi,Aau (by rw[Ae];simpa using hC),Bt (by rw[Ag];simp;omega),Aa,hr0];by_cases hm:x.length %c=0
   ·rw[hm,Aau (by decide),Aa,hq,Al7];split
    ·rw[Aa,Ab3 (by decide)]
    ·rename_i hh;by_cases hR:1<=R/\R<=1048576
     ·obtain⟨r,rfl⟩:=Ag0 (show 0<=R by omega);have hd:=Auf x.length c;rw[iK (by omega) (by omega) (by omega) (by omega),Aa];split
      ·rw[Ab3 (by decide),Aa,Ab3 (by decide)]
      ·rw[Aau (by simp[Ag]),Aa,Aau (by decide),hsame,h18,Aa,Ab3 (by decide)]
     ·rw[Jz,Wr,Ab3 (by simp[Ae,Aq];omega),Aa];simp only;rw[Ab3 (by decide),Aa];simp only;rw[Ab3 (by decide),Aa,Ab3 (by decide)]
   ·rw[Ab3 (by rw[Ag];simp;omega)]
 by_cases hx1:x.length<1
 ·refine .inl ⟨ou 2 (by decide) ?_,Atw λm hm=>?_⟩
  ·rw[Cx,e20,Aa,Aau (by decide),h18,Aa,Aau (by decide),Ab3 (by rw[Ae,Ac];simp;omega)]
  ·have h0:m*c=0:=by omega
   have:m=0:=by rcases Nat.mul_eq_zero.1 h0 with h|h<;>omega
   rw[Al7,Ab3 (.inl (by omega))]
 have hA:x.length %c=0->Cx (c:Int) W x=some 0:=by
  intro hm;rw[Cx,e20,Aa,Aau (by decide),h18,Aa,Aau (by decide),Aau (by rw[Ae,Ac];simp;omega),Bt (by rw[Ag];simp;omega),Aa,hr0,hm,Aau (by decide)]
 by_cases hm:x.length %c=0
 rotate_left
 ·refine .inl ⟨ou 2 (by decide) ?_,?_⟩
  ·rw[Cx,e20,Aa,Aau (by decide),h18,Aa,Aau (by decide),Aau (by rw[Ae,Ac];simp;omega),Bt (by rw[Ag];simp;omega),Aa,hr0,Ab3 (by rw[Aq];simp;omega)]
  ·rw[Fi,Aau (by rw[Ae];simpa using hC),Bt (by rw[Ag];simp;omega),Aa,hr0,Ab3 (by rw[Ag];simp;omega)]
 have hxn:x.length=x.length/c*c:=by have:=Bfd x.length c;rw[hm,Ape]at this;omega
 generalize hN:x.length/c=n at*
 have hn1:1<=n:=by
  by_cases h0:n=0
  ·rw[h0]at hxn;omega
  ·omega
 have hn4:n<=4000/c:=by rw[<-hN];exact Nat.div_le_div_right hx4
 have hn4':n<=4000:=Bf1 hn4 (Auf _ _);have e21:Dh (c:Int) W (n:Int)=some 0:=by
  rw[Dh,e20,Aa,Aau (by simp[Ag,Ae];omega),Bt (by rw[Ag];simp;omega),Aa,hq4,Aau (by rw[Aq,Acj,gt_iff_lt,Int.ofNat_lt];omega)]
 have Aud:∀z e:Int,Me R (n:Int)=some (z,e)->Dr (c:Int) W R x=some (if e=0 then 0 else 8):=by
  intro z e hz;rw[Dr,Jn,Aa];simp only;rw[hA hm,Aa,Aau (by decide),Bt (by rw[Ag];simp;omega),Aa,hq,LJ,Jn,Aa];simp only;rw[e21,Aa,Aau (by decide),hz,Aa,Aa,Ar];by_cases he:e=0
  ·subst he;rfl
  ·rw[Aau he,Ab3 (by simpa using he)]
 have zn:Fi (c:Int) W R x=Option.bind (Option.bind (Jz R (n:Int)) λy=>if(Be y.2 0)=true then some 8 else some 0) λg=>if(Be g 0)=true then some g else some 0:=by
  rw[Fi,Aau (by rw[Ae];simpa using hC),Bt (by rw[Ag];simp;omega),Aa,hr0,hm,Aau (by decide),Aa,hq,Al7,Aau (by omega),hsame,h18];rfl
 by_cases hR:1<=R/\R<=1048576
 rotate_left
 ·refine .inl ⟨?_,?_⟩
  ·refine Aud 0 2 ?_;rw[Me,BK,Uo,Te,Ab3 (by simp[Ae,Aq];omega),Aa];simp only;rw[Ab3 (by simp[Ag]),Aa];rfl
  ·rw[zn,Jz,Wr,Ab3 (by simp[Ae,Aq];omega),Aa];simp only;rw[Ab3 (by decide),Aa];simp only;rw[Ab3 (by decide),Aa,Ab3 (by decide)]
 obtain⟨r,rfl⟩:=Ag0 (show 0<=R by omega);have hl:=B2 (r:=r) (by omega) n n Ax [] hn4' (Am4 _) (by have:=As;omega) (by simp;omega);rw[Aau (show ¬n=0 by omega),Auc,Zw]at hl;have hcount:∃z:Int,Me (r:Int) (n:Int)=some (z,if 1000<(n-1)/Am r+1 then 4 else 0):=by
  rw[Me,BK,Uo,Az6 (by omega) (by omega),Aa];simp only;rw[Aau (by simp[Ag,Ae,Aq];omega),CA,hl,Aa];split<;>exact⟨_,rfl⟩
 obtain⟨z,hz⟩:=hcount;have h24:=Aud z _ hz;rw[iK (by omega) (by omega) hn1 hn4',Aa]at zn;by_cases hk:1000<(n-1)/Am r+1
 ·rw[Ab3 hk]at h24 zn;exact .inl ⟨h24,zn⟩
 ·rw[Aau hk]at h24 zn;have hw:∃w:Nat,W=(w:Int):=by
   rcases hb with rfl|rfl|rfl
   ·exact⟨8,rfl⟩
   ·exact⟨16,rfl⟩
   ·exact⟨24,rfl⟩
  obtain⟨w,rfl⟩:=hw;exact .inr ⟨c,w,r,n,rfl,rfl,rfl,⟨⟨hc1,by omega⟩,hb,by omega,⟨hn1,hn4⟩,hxn,by omega,gK hb hx4 h18⟩,h24,zn⟩
theorem Aom(C W R:Int){x:List Int32}(h:4000<x.length):Dr C W R x=some 8:=by
 have key:∃e:Int,e≠0/\Cx C W x=some e:=by
  rw[Cx,Di];by_cases h1:((Cj C 1)||(Ex C 6))=true
  ·rw[Ab3 h1,Aa,Ab3 (by decide)];exact⟨2,by decide,rfl⟩
  ·rw[Aau h1];by_cases hb:Bu W
   ·have hh:=NX W;have h18:Ay W x=some 4:=by
     rw[Ay,Dq,UO hb,Aa,Aau (by rw[Ar];simp;omega),Ab3 (by rw[Aq,Ac];simp;omega)]
    rw[UO hb,Aa,Aau (by rw[Ar];simp;omega),Aa,Aau (by decide),h18,Aa,Ab3 (by decide),Aa];exact⟨4,by decide,rfl⟩
   ·rw[(yK hb).1,Aa,Ab3 (by decide),Aa,Ab3 (by decide)];exact⟨2,by decide,rfl⟩
 obtain⟨e,he,h1⟩:=key;rw[Dr,Jn,Aa];simp only;rw[h1,Aa,Ab3 (by rw[Ag];simpa using he)]
theorem Acx(C W R:Int)(x:List Int32):(Dr C W R x=some 8/\ (x.length<4611686018427387904->Fi C W R x=some 8))\/
  (∃c w r n:Nat,C=(c:Int)/\W=(w:Int)/\R=(r:Int)/\ClipOk c w r n x/\Dr C W R x=some 0/\Fi C W R x=some 0):=by
 by_cases hx:x.length<4611686018427387904
 ·rcases Aia C W R x hx with⟨h1,h2⟩|h
  ·exact .inl ⟨h1,λ_=>h2⟩
  ·exact .inr h
 ·exact .inl ⟨Aom C W R (by omega),λh=>absurd h hx⟩
def sO(f c w r n:Nat):List UInt8:=Mt++Rc f 2++Rc c 2++Rc w 2++Rc r 4++Rc n 4
def Iu(f c w r n:Nat):List UInt8:=sO f c w r n++Rc (Dn (sO f c w r n)).toNat 4
theorem fW(f c w r n:Nat):(sO f c w r n).length=18:=by simp only[sO,Mt,Aci,Ca];rfl
theorem Kt(f c w r n:Nat):(Iu f c w r n).length=22:=by rw[Iu,Aci,fW,Ca]
theorem jm(b f g h k:Int)(m v w q:Nat)(a:List UInt8)(hm:m<5)(hv:Ao ([b,f,g,h,k]:List Int) (m:Int)=some (v:Int))(hw:Ao ([2,2,2,4,4]:List Int) (m:Int)=some (w:Int))(h1:1<=w)(h8:w<=8)(hlt:v<256^w)(h64:v<18446744073709551616)(ha:a.length<=100):
  Nz b f g h k (q+1) (m:Int) a=Nz b f g h k q ((m+1:Nat):Int) (a++Rc v w):=by
 have e64:(UInt64.ofNat v).toNat=v:=bM (by omega);have hi1:Ad (m:Int) 1=((m+1:Nat):Int):=by rw[Ak];omega
 rw[Nz,DT,Ab3 (by rw[Ae];simp;omega),hv,Aa,hw,Aa,Yb,YH _ w h1 h8 (by rw[e64];exact hlt),Aa];simp only;rw[Bw (by rw[Ca];omega),Aa,hi1,e64]
theorem Aad{f c w r n:Nat}(h1:Eo f c w r n=true)(h2:Xm c r n=true):VK (f:Int) (c:Int) (w:Int) (r:Int) (n:Int)=some (Iu f c w r n,0):=by
 have hs:(f=1\/f=2)/\ (1<=c/\c<=6)/\ (w=8\/w=16\/w=24)/\ (1<=r/\r<=1048576)/\1<=n:=by simpa only[Eo,Acj]using h1
 have hn:n<=4000:=by
  simp only[Xm,Acj]at h2;have:=Auf 4000 c;omega
 have hck:Pf (f:Int) (c:Int) (w:Int) (r:Int) (n:Int)=some 0:=by
  rw[Pf,bC,Aa,h1,Aau (by decide),sA h1,Aa,h2,Aau (by decide)]
 have hF:Ax=(Ax-6)+1+1+1+1+1+1:=by have:=As;omega
 have hlt:=(Dn (sO f c w r n)).toNat_lt;have e64:(UInt64.ofNat (Dn (sO f c w r n)).toNat).toNat=(Dn (sO f c w r n)).toNat:=bM (by omega);have hfin:ED (sO f c w r n)=some (Iu f c w r n,0):=by
  rw[ED,lR,C0 _ (by rw[fW];omega),Aa];simp only;rw[Dw,show(4:Int)=((4:Nat):Int)from rfl,YH _ 4 (by omega) (by omega) (by rw[e64];omega),Aa];simp only;rw[Bw (by rw[fW,Ca];omega),Aa,e64];rfl
 rw[VK,TZ,hck,Aa,Aau (by decide),SR,hF];have s0:=jm (f:Int) (c:Int) (w:Int) (r:Int) (n:Int) 0 f 2 ((Ax-6)+1+1+1+1+1) Mt (by omega) rfl rfl (by omega) (by omega) (by omega) (by omega) (by decide);have s1:=jm (f:Int) (c:Int) (w:Int) (r:Int) (n:Int) 1 c 2 ((Ax-6)+1+1+1+1) (Mt++Rc f 2) (by omega) rfl rfl (by omega) (by omega) (by omega) (by omega) (by simp[Ca,Mt]);have s2:=jm (f:Int) (c:Int) (w:Int) (r:Int) (n:Int) 2 w 2 ((Ax-6)+1+1+1) (Mt++Rc f 2++Rc c 2) (by omega) rfl rfl (by omega) (by omega) (by omega) (by omega) (by simp[Ca,Mt]);have s3:=jm (f:Int) (c:Int) (w:Int) (r:Int) (n:Int) 3 r 4 ((Ax-6)+1+1) (Mt++Rc f 2++Rc c 2++Rc w 2) (by omega) rfl rfl (by omega) (by omega) (by omega) (by omega) (by simp[Ca,Mt]);have s4:=jm (f:Int) (c:Int) (w:Int) (r:Int) (n:Int) 4 n 4 ((Ax-6)+1) (Mt++Rc f 2++Rc c 2++Rc w 2++Rc r 4) (by omega) rfl rfl (by omega) (by omega) (by omega) (by omega) (by simp[Ca,Mt]);refine s0.trans (s1.trans (s2.trans (s3.trans (s4.trans ?_))));rw[Nz,DT,Aau (by decide)];exact hfin
def TY(l:List Int):List UInt8:=l.flatMap λx=>Rc x.toNat 4
def GV(l:List Int):List UInt8:=TY l++Rc (Dn (TY l)).toNat 4
theorem QP(l:List Int):(TY l).length=4*l.length:=by
 induction l with
 |nil=>rfl
 |cons x l ih=>rw[TY,List.flatMap_cons,Aci,Ca,show(l.flatMap λx=>Rc x.toNat 4)=TY l from rfl,ih,Akt];omega
theorem RF(l:List Int):(GV l).length=4*l.length+4:=by rw[GV,Aci,QP,Ca]
theorem Aok(l:List Int)(x:Int):TY (l++[x])=TY l++Rc x.toNat 4:=by simp[TY]
theorem G7(l:List Int)(hl:l.length<=1000)(h5:∀x∈l,5<=x/\x<=100000):∀(j i q:Nat),i+j=l.length->j<q->Vo l q (i:Int) (TY (l.take i))=some (GV l,0)
 |j,i,0,_,h=>absurd h (Bc8 _)
 |0,i,q+1,hi,_=>by
  have hlt:=(Dn (TY l)).toNat_lt;have e64:(UInt64.ofNat (Dn (TY l)).toNat).toNat=(Dn (TY l)).toNat:=bM (by omega);rw[Vo,HW,Aau (by rw[Ae,Ac];simp;omega),Aqt (by omega),TP,TE,C0 _ (by rw[QP];omega),Aa];simp only;rw[Dw,show(4:Int)=((4:Nat):Int)from rfl,YH _ 4 (by omega) (by omega) (by rw[e64];omega),Aa];simp only;rw[Bw (by rw[QP,Ca];omega),Aa,e64];rfl
 |j+1,i,q+1,hi,hq=>by
  have ih:=G7 l hl h5 j (i+1) q (by omega) (by omega);obtain⟨x5,x6⟩:=h5 l[i] (Ams _);obtain⟨v,hv⟩:=Ag0 (show 0<=l[i] by omega);have e64:(UInt64.ofNat v).toNat=v:=bM (by omega);have hi1:Ad (i:Int) 1=((i+1:Nat):Int):=by rw[Ak];omega
  rw[Vo,HW,Ab3 (by rw[Ae,Ac];simp;omega),Bn,Aa,hv,Yb,show(4:Int)=((4:Nat):Int)from rfl,YH _ 4 (by omega) (by omega) (by rw[e64];omega),Aa];simp only;rw[Bw (by rw[QP,Ca,Afa];omega),Aa,TW,lL,hi1,e64];rw[Lg (by omega),Aok,hv,Ae3]at ih;exact ih
theorem Adk(l:List Int):aP l=some (if Ru l=true then(GV l,0)else([],8)):=by
 rw[aP,aE,YU,Aa];by_cases h:Ru l=true
 ·rw[Ab3 h,Ab3 h,Aau (by decide)];simp only[Ru,Acl,Acj]at h;obtain⟨⟨h1,h2⟩,h3⟩:=h;have h4:=(BN l 100000 (by omega)).1 h3;have h6:=vB h4.1;have hl:=G7 l h2 (λx hx=>⟨h4.1 x hx,by have:=h6 x hx;omega⟩) l.length 0 Ax (by omega) (by have:=As;omega);exact hl
 ·rw[Aau h,Aau h,Ab3 (by decide)]
theorem um(l:List LB)(hl:l.length<=100000)(hf:l.flatten.length<=1000000):∀(j i q:Nat),i+j=l.length->j<q->Ut l q (i:Int) (l.take i).flatten=some l.flatten
 |j,i,0,_,h=>absurd h (Bc8 _)
 |0,i,q+1,hi,_=>by
  rw[Ut,IC,Aau (by rw[Ae,Ac];simp;omega),Aqt (by omega)];rfl
 |j+1,i,q+1,hi,hq=>by
  have ih:=um l hl hf j (i+1) q (by omega) (by omega);have hi1:Ad (i:Int) 1=((i+1:Nat):Int):=by rw[Ak];omega
  have hsn:(l.take (i+1)).flatten=(l.take i).flatten++l[i]:=by rw[Lg (by omega),Bdh];simp
  have hsp:l.flatten=(l.take (i+1)).flatten++(l.drop (i+1)).flatten:=by rw[<-Bdh,Aph]
  have hle:((l.take i).flatten).length+(l[i]).length<=1000000:=by
   rw[hsp,Aci,hsn,Aci]at hf;omega
  rw[Ut,IC,Ab3 (by rw[Ae,Ac];simp;omega),Bn,Aa,Bw,Aa,hi1,<-hsn];exact ih
theorem join_eq(l:List LB)(hl:l.length<=100000)(hf:l.flatten.length<=1000000):nI l=some l.flatten:=by
 have h:=um l hl hf l.length 0 Ax (by omega) (by have:=As;omega);exact h
def EM(c:Nat):List Int32->List Int->List (List Int32)
 |_,[]=>[]
 |x,m::l=>x.take (m.toNat*c)::EM c (x.drop (m.toNat*c)) l
theorem vE(c:Nat):∀(l:List Int) (x:List Int32),(EM c x l).length=l.length
 |[],x=>rfl
 |m::l,x=>by rw[EM,Akt,Akt,vE c l]
theorem I8(c:Nat):∀(l:List Int) (x:List Int32),(∀m∈l,0<=m)->x.length=l.sum.toNat*c-> (EM c x l).flatten=x
 |[],x,_,h=>by
  have:x=[]:=Bbd (by simpa using h);rw[this];rfl
 |m::l,x,h0,h=>by
  have hm:=h0 m Ays;have hl:0<=l.sum:=by
   have:∀l:List Int,(∀m∈l,0<=m)->0<=l.sum:=by
    intro l
    induction l with
    |nil=>intro _;simp
    |cons a l ih=>intro h;have:=ih (λm hm=>h m (Am3 _ hm));have:=h a Ays;rw[Awb];omega
   exact this l λm hm=>h0 m (Am3 _ hm)
  rw[Awb,show(m+l.sum).toNat=m.toNat+l.sum.toNat by omega,Ayj]at h;have ih:=I8 c l (x.drop (m.toNat*c)) (λm hm=>h0 m (Am3 _ hm)) (by rw[Agy];omega);rw[EM,Bdd,ih,Aph]
theorem tO(c:Nat)(x:List Int32)(hx:x.length<=4000):∀(l:List Int) (a:Nat),(∀m∈l,1<=m)->a+l.sum.toNat*c=x.length->To (c:Int) x l (a:Int)=some (EM c (x.drop a) l)
 |[],a,_,_=>rfl
 |m::l,a,h1,ha=>by
  have hm:=h1 m Ays;have hl:=h1;have hs:0<=l.sum:=by
   have:∀l:List Int,(∀m∈l,1<=m)->0<=l.sum:=by
    intro l
    induction l with
    |nil=>intro _;simp
    |cons a l ih=>intro h;have:=ih (λm hm=>h m (Am3 _ hm));have:=h a Ays;rw[Awb];omega
   exact this l λm hm=>h1 m (Am3 _ hm)
  obtain⟨k,rfl⟩:=Ag0 (show 0<=m by omega);rw[Awb,show((k:Int)+l.sum).toNat=k+l.sum.toNat by omega,Ayj]at ha;have hkc:Br (k:Int) (c:Int)=((k*c:Nat):Int):=by rw[Ii (by rw[<-Ba1];omega) (by rw[<-Ba1];omega),<-Ba1]
  have hadd:Ad (a:Int) ((k*c:Nat):Int)=((a+k*c:Nat):Int):=by rw[Ak];omega
  have ih:=tO c x hx l (a+k*c) (λm hm=>h1 m (Am3 _ hm)) (by omega);rw[To,hkc,hadd,Oa,Aa,ih,Aa,EM,Ae3,Ae3,Ae3,Bbj,Bd5,Bba]
theorem Ako(w c:Nat)(hb:Bu (w:Int))(h1:1<=c)(h6:c<=6)(t:List Int32)(ht:t.length=16):∀(xs:List (List Int32)) (o:List LB),o.length+xs.length<=10000-> (∀y∈xs,1<=y.length/\y.length<=4000/\y.length %c=0/\inR (w:Int) y)->
  Ts (c:Int) (w:Int) t xs o=some (o++xs.map (Ry (w:Int) c t),0)
 |[],o,_,_=>by rw[Ts];simp
 |x::xs,o,ho,h=>by
  obtain⟨a1,a2,a3,a4⟩:=h x Ays;rw[Akt]at ho;have ih:=Ako w c hb h1 h6 t ht xs (o++[Ry (w:Int) c t x]) (by simp;omega) (λy hy=>h y (Am3 _ hy));rw[Ts,Aby hb ht h1 h6 a1 a2 a3 a4,Aa,Aau (by simp[Ag]),Bw (by simp;omega),Aa,ih,Bc3];simp
theorem uU(c:Nat)(h1:1<=c):∀(l:List Int) (x:List Int32),(∀m∈l,1<=m)->x.length=l.sum.toNat*c->∀y∈EM c x l,1<=y.length/\y.length<=x.length/\y.length %c=0/\∀v∈y,v∈x
 |[],x,_,_=>λy hy=>by simp[EM]at hy
 |m::l,x,hm,hx=>by
  have hm1:=hm m Ays;have hl:0<=l.sum:=by
   have:∀l:List Int,(∀m∈l,1<=m)->0<=l.sum:=by
    intro l
    induction l with
    |nil=>intro _;simp
    |cons a l ih=>intro h;have:=ih (λm hm=>h m (Am3 _ hm));have:=h a Ays;rw[Awb];omega
   exact this l λm hm'=>hm m (Am3 _ hm')
  rw[Awb,show(m+l.sum).toNat=m.toNat+l.sum.toNat by omega,Ayj]at hx;have hpos:1<=m.toNat*c:=Bge (by omega) h1;intro y hy;rw[EM,List.mem_cons]at hy;rcases hy with rfl|hy
  ·have hlen:(x.take (m.toNat*c)).length=m.toNat*c:=by rw[Afa];omega
   rw[hlen];exact⟨hpos,by omega,Bdi _ _,λv hv=>Bfk hv⟩
  ·obtain⟨a1,a2,a3,a4⟩:=uU c h1 l (x.drop (m.toNat*c)) (λm hm'=>hm m (Am3 _ hm')) (by rw[Agy];omega) y hy;rw[Agy]at a2;exact⟨a1,by omega,a3,λv hv=>Bfl (a4 v hv)⟩
theorem N9(bits:Int)(ch:Nat)(t x:List Int32)(h0:1<=x.length)(h4:x.length<=4000):5<= (Ry bits ch t x).length/\ (Ry bits ch t x).length<=15*x.length:=by
 have h5:=Q0 bits ch t x h0 h4;have h:=oJ ch (Nl bits ch t x) x.length;refine⟨h5.1,?_⟩;rw[Ry,Aci,Ca,ZK,BF];omega
def Bv(fs:List LB):List Int:=fs.map λf=>(f.length:Int)
theorem Ig(fs:List LB):(Bv fs).length=fs.length:=by rw[Bv,List.length_map]
theorem EH:∀fs:List LB,(Bv fs).sum=(fs.flatten.length:Int)
 |[]=>rfl
 |f::fs=>by rw[Bv,Bc3,Awb,Bdd,Aci,show(fs.map λf=>(f.length:Int))=Bv fs from rfl,EH fs];omega
theorem As2(bits:Int)(ch:Nat)(t:List Int32):∀ys:List (List Int32),(∀y∈ys,1<=y.length/\y.length<=4000)-> ((ys.map (Ry bits ch t)).flatten).length<=15*ys.flatten.length
 |[],_=>by simp
 |y::ys,h=>by
  have ih:=As2 bits ch t ys λy hy=>h y (Am3 _ hy);obtain⟨h1,h4⟩:=h y Ays;have:=(N9 bits ch t y h1 h4).2;rw[Bc3,Bdd,Bdd,Aci,Aci];omega
def Gj(p:LB):Nat:=if p=[]then 1 else 2
def Po(p:LB):LB:=if p=[]then []else Rc (Rp p).toNat 8
theorem gN(p:LB):Gj p=1\/Gj p=2:=by unfold Gj;split<;>simp
theorem QC(p:LB):(Po p).length=if Gj p=2 then 8 else 0:=by
 unfold Po Gj;by_cases h:p=[]
 ·rw[Ab3 h,Ab3 h];rfl
 ·rw[Aau h,Aau h,Ca];rfl
def CD(c r n:Nat)(x:List Int32):List (List Int32):=EM c x (Ah (Am r) n)
def Mr(c w r n:Nat)(x:List Int32)(p:LB):List LB:=(CD c r n x).map (Ry (w:Int) c (Pk p))
def Ev(c w r n:Nat)(x:List Int32)(p:LB):LB:=Iu (Gj p) c w r n++(Po p++(GV (Bv (Mr c w r n x p))++(Mr c w r n x p).flatten))
theorem Th{g n:Nat}(hg:1<=g)(h1:1<=n):∀m∈Ah g n,1<=m:=by
 intro m hm;rw[Ah,List.mem_append,List.mem_replicate,List.mem_singleton]at hm;have h:=Bbl (n-1) g;rcases hm with⟨_,rfl⟩|rfl
 ·omega
 ·omega
section
variable {c w r n:Nat} {x:List Int32} (h:ClipOk c w r n x)
include h
theorem ClipOk.sum:(Ah (Am r) n).sum=(n:Int):=pW h.cnt.1
omit h in
theorem xO:(CD c r n x).length=(Ah (Am r) n).length:=vE _ _ _
theorem rz:(CD c r n x).flatten=x:=by
 refine I8 _ _ _ (λm hm=>?_) ?_
 ·have:=Th (Fe r) h.cnt.1 m hm;omega
 ·rw[h.sum,h.len,Ae3]
theorem XW:∀y∈CD c r n x,1<=y.length/\y.length<=4000/\y.length %c=0/\inR (w:Int) y:=by
 intro y hy;obtain⟨a1,a2,a3,a4⟩:=uU c h.ch.1 _ _ (Th (Fe r) h.cnt.1) (by rw[h.sum,h.len,Ae3]) y hy;have:=h.le;exact⟨a1,by omega,a3,λv hv=>h.rng v (a4 v hv)⟩
omit h in
theorem jU(p:LB):(Mr c w r n x p).length=(Ah (Am r) n).length:=by rw[Mr,List.length_map];exact vE _ _ _
theorem Aro(p:LB):1<= (Mr c w r n x p).length/\ (Mr c w r n x p).length<=1000:=by
 rw[jU,Zw];exact⟨Nat.le_add_left _ _,h.fr⟩
theorem Agp(p:LB):((Mr c w r n x p).flatten).length<=15*x.length:=by
 have:=As2 (w:Int) c (Pk p) (CD c r n x) λy hy=>⟨(XW h y hy).1,(XW h y hy).2.1⟩;rw[rz h]at this;exact this
theorem Aqw(p:LB):∀f∈Mr c w r n x p,5<=f.length:=by
 intro f hf;rw[Mr,List.mem_map]at hf;obtain⟨y,hy,rfl⟩:=hf;exact(N9 _ _ _ _ (XW h y hy).1 (XW h y hy).2.1).1
theorem xP(p:LB):Ru (Bv (Mr c w r n x p))=true:=by
 have h1:=Aro h p;have h2:=Agp h p;have h3:=h.le;simp only[Ru,Acl,Acj];rw[BN _ _ (by omega),Ig,EH];refine⟨by omega,λz hz=>?_,by omega⟩;rw[Bv,List.mem_map]at hz;obtain⟨f,hf,rfl⟩:=hz;have:=Aqw h p f hf;omega
omit h in
theorem Ama(p:LB):(Ev c w r n x p).length=22+(if Gj p=2 then 8 else 0)+(4*(Mr c w r n x p).length+4)+(Mr c w r n x p).flatten.length:=by
 rw[Ev,Aci,Aci,Aci,Kt,QC,RF,Ig];omega
theorem Aee(p:LB):(Ev c w r n x p).length<=34+4*(Mr c w r n x p).length+15*x.length:=by
 have h1:=Ama (c:=c) (w:=w) (r:=r) (n:=n) (x:=x) p;have h2:=Agp h p;split at h1<;>omega
theorem xx(p:LB):(Ev c w r n x p).length<=64034:=by
 have:=Aee h p;have:=Aro h p;have:=h.le;omega
theorem Ard(hk:Fi (c:Int) (w:Int) (r:Int) x=some 0)(p:LB)(hp:p.length<=64):cG (c:Int) (w:Int) (r:Int) x p=some ((Gj p:Int),(c:Int),(w:Int),(r:Int),(n:Int),0):=by
 have hc:=h.ch;have hq:Db (Ac x) (c:Int)=(n:Int):=by rw[Ac,vS (by have:=h.le;omega),h.len,Nat.mul_div_cancel _ (by omega)]
 rw[cG,HK,hk,Aa,Aau (by decide),Aau (by rw[Aq,Ac];simp;omega),Bt (by rw[Ag];simp;omega),Aa,WQ,pH,hq,Gj];by_cases h0:p=[]
 ·rw[Aau (by simp[h0]),Ab3 h0];rfl
 ·rw[Ab3 (by simpa using h0),Aau h0];rfl
theorem L4(hk:Fi (c:Int) (w:Int) (r:Int) x=some 0)(p:LB)(hp:p.length<=64):PU (c:Int) (w:Int) (r:Int) x p=some (Mr c w r n x p,0):=by
 have hc:=h.ch;have hle:=h.le;have hr:=h.rate;have hq:Db (Ac x) (c:Int)=(n:Int):=by rw[Ac,vS,h.len,Nat.mul_div_cancel _ (by omega)]
 have hcut:XN (c:Int) (r:Int) x=some (CD c r n x):=by
  have hp:=tO c x (by omega) (Ah (Am r) n) 0 (Th (Fe r) h.cnt.1) (by rw[h.sum,h.len,Ae3];omega);rw[XN,Bt (by rw[Ag];simp;omega),Aa,hq,Aex hr.1 hr.2 h.cnt.1 (by omega) h.fr,Aa,Bt (by have:=h.fr;simp only[Ac,Zw,Acj];omega),Aa];exact hp
 have hfs:=Ako w c h.bits hc.1 hc.2 (Pk p) (Kj p) (CD c r n x) [] (by rw[xO,Zw];exact Bf1 (Nat.add_le_add_left h.fr _) (by simp)) (XW h);rw[PU,hk,Aa,Aau (by decide),gD p hp,Aa];simp only;rw[Aau (by decide),hcut,Aa,hfs];rfl
omit h in
theorem ni(a:List LB)(b f:LB)(v:LB)(ha:a.length<=1000)(hfin:Xl (Bv a) a b f=some (v,0)):∀(j i q:Nat),i+j=a.length->j<q->Vg a b f q (i:Int) (Bv (a.take i)++List.replicate j 0)=some (v,0)
 |j,i,0,_,h=>absurd h (Bc8 _)
 |0,i,q+1,hi,_=>by
  rw[Vg,IE,Aau (by rw[Ae,Ac];simp;omega),Aqt (by omega),List.replicate_zero,Aue];exact hfin
 |j+1,i,q+1,hi,hq=>by
  have ih:=ni a b f v ha hfin j (i+1) q (by omega) (by omega);have hi1:Ad (i:Int) 1=((i+1:Nat):Int):=by rw[Ak];omega
  have hll:(Bv (a.take i)).length=i:=by rw[Ig,Afa];omega
  have hset:(Bv (a.take i)++List.replicate (j+1) (0:Int)).set i (Ac a[i])=Bv (a.take (i+1))++List.replicate j 0:=by
   rw[Bbk,jF hll,Lg (by omega),Bv,Bv,List.map_append,Aej];rfl
  rw[Vg,IE,Ab3 (by rw[Ae,Ac];simp;omega),Bn,Aa,Aa,dI,Aa,Bn (by rw[Aci,hll,Au9];omega),Aa,Uq _ (by rw[Aci,hll,Au9];omega),Aa,hset,TK,lB,hi1];exact ih
theorem Adw(hk:Fi (c:Int) (w:Int) (r:Int) x=some 0)(p:LB)(hp:p.length<=64):SL (c:Int) (w:Int) (r:Int) x p=some (Ev c w r n x p,0):=by
 have hn:=Aro h p;have hfin:Xl (Bv (Mr c w r n x p)) (Mr c w r n x p) (Iu (Gj p) c w r n) (Po p)=some (Ev c w r n x p,0):=by
  have hl:=xx h p;rw[Xl,TH,Adk,Ab3 (xP h p),Aa];simp only;rw[TA,lZ,Aau (by decide),Bw (by simp;omega),Aa,join_eq _ (by simp;omega) (by
   have:(([Iu (Gj p) c w r n,Po p,GV (Bv (Mr c w r n x p))]++Mr c w r n x p).flatten)=Ev c w r n x p:=by simp[Ev]
   rw[this];omega),Aa]
  simp[Ev]
 have hlp:=ni (Mr c w r n x p) (Iu (Gj p) c w r n) (Po p) _ (by omega) hfin (Mr c w r n x p).length 0 Ax (by omega) (by have:=As;omega);have h8:KJ (Mr c w r n x p) (Iu (Gj p) c w r n) (Po p)=some (Ev c w r n x p,0):=by
  rw[KJ,YI,xE (by unfold Ac;omega) (by unfold Ac;omega),Aa,Bt (by rw[Ar];simp),Aa];exact hlp
 rw[SL,XS,Ard h hk p hp,Aa];simp only;rw[Aau (by decide),L4 h hk p hp,Aa];simp only;rw[Aau (by decide),Aad (h.shape _ (gN p)) h.fit,Aa];simp only;rw[Aau (by decide)];by_cases h0:p=[]
 ·have e1:Gj p=1:=by rw[Gj,Ab3 h0]
  have e2:Po p=[]:=by rw[Po,Ab3 h0]
  rw[e2]at h8;rw[Aau (by rw[e1];decide)];exact h8
 ·have e1:Gj p=2:=by rw[Gj,Aau h0]
  have e2:Po p=Rc (Rp p).toNat 8:=by rw[Po,Aau h0]
  rw[e2]at h8;rw[Ab3 (by rw[e1];decide),rQ p hp,Aa];exact h8
end
theorem AH{a m z:LB}{i k:Nat}(hi:a.length=i)(hk:m.length=k):part (a++(m++z)) i k=m:=by
 subst hi hk;rw[part,List.take_append,Aqt (by omega),List.drop_left',Bba,At4 (Am4 _),Ba9];rfl
theorem Qd(f c w r n:Nat)(z:LB):Iu f c w r n++z=Mt++(Rc f 2++(Rc c 2++(Rc w 2++(Rc r 4++(Rc n 4++(Rc (Dn (sO f c w r n)).toNat 4++z)))))):=by
 simp only[Iu,sO,Aej]
theorem qX{f c w r n:Nat}(h1:Eo f c w r n=true)(h2:Xm c r n=true)(z:LB):Dm (Iu f c w r n++z)=((f:Int),(c:Int),(w:Int),(r:Int),(n:Int),0):=by
 have hs:(f=1\/f=2)/\ (1<=c/\c<=6)/\ (w=8\/w=16\/w=24)/\ (1<=r/\r<=1048576)/\1<=n:=by simpa only[Eo,Acj]using h1
 have hn:n<=4000:=by
  simp only[Xm,Acj]at h2;have:=Auf 4000 c;omega
 have hlen:22<= (Iu f c w r n++z).length:=by rw[Aci,Kt];omega
 have m4:min 4 (Iu f c w r n++z).length=4:=by omega
 have e4:(Iu f c w r n++z).take 4=Mt:=by rw[Qd];rfl
 have e18:(Iu f c w r n++z).take 18=sO f c w r n:=by
  rw[Iu,Aej,At4 (by rw[fW];omega),Aqt (by rw[fW];omega)]
 have hlt:=(Dn (sO f c w r n)).toNat_lt;have p18:part (Iu f c w r n++z) 18 4=Rc (Dn (sO f c w r n)).toNat 4:=by
  rw[Iu,Aej];exact AH (fW _ _ _ _ _) (Ca _ _)
 have q0:f0 (Iu f c w r n++z)=f:=by
  rw[f0,Qd,AH (a:=Mt) (i:=4) (k:=2) rfl (Ca _ _),Yz];omega
 have q1:f1 (Iu f c w r n++z)=c:=by
  rw[f1,Qd,<-Aej,AH (by simp[Mt,Ca]) (Ca _ _),Yz];omega
 have q2:f2 (Iu f c w r n++z)=w:=by
  rw[f2,Qd,<-Aej,<-Aej,AH (by simp[Mt,Ca]) (Ca _ _),Yz];omega
 have q3:f3 (Iu f c w r n++z)=r:=by
  rw[f3,Qd,<-Aej,<-Aej,<-Aej,AH (by simp[Mt,Ca]) (Ca _ _),Yz];omega
 have q4:f4 (Iu f c w r n++z)=n:=by
  rw[f4,Qd,<-Aej,<-Aej,<-Aej,<-Aej,AH (by simp[Mt,Ca]) (Ca _ _),Yz];omega
 have h:=rs6 (b:=Iu f c w r n++z) (by rw[m4,e4];rfl) (by omega) (by rw[e18,p18,Yz];omega) (by rw[q0,q1,q2,q3,q4];exact h1) (by rw[q1,q3,q4];exact h2);rw[q0,q1,q2,q3,q4]at h;exact h
theorem Asn(l:List Int)(z:LB){i:Nat}(hi:i<l.length):part (TY l++z) (4*i) 4=Rc (l[i]).toNat 4:=by
 have hs:TY l=TY (l.take i)++(Rc (l[i]).toNat 4++TY (l.drop (i+1))):=by
  conv=>lhs;rw[<-Aph i l,drop_cons hi]
  rw[TY,TY,TY,List.flatMap_append,List.flatMap_cons]
 rw[hs,Aej,Aej];exact AH (by rw[QP,Afa];omega) (Ca _ _)
theorem Aoz{l:List Int}(ht:Ru l=true)(z:LB):Ds (GV l++z) l.length=(l,0):=by
 have h:=ht;simp only[Ru,Acl,Acj]at h;obtain⟨hn,h3⟩:=h;have h4:=(BN l 100000 (by omega)).1 h3;have h6:=vB h4.1;have hlt:=(Dn (TY l)).toNat_lt;have e1:(GV l++z).take (4*l.length)=TY l:=by
  rw[GV,Aej,At4 (by rw[QP];omega),Aqt (by rw[QP];omega)]
 have e2:part (GV l++z) (4*l.length) 4=Rc (Dn (TY l)).toNat 4:=by
  rw[GV,Aej];exact AH (QP _) (Ca _ _)
 have e3:RW (GV l++z) l.length=l:=by
  apply Bae
  ·rw[Uu]
  ·intro i h1 h2;have hx:=h4.1 l[i] (Ams _);have hy:=h6 l[i] (Ams _);simp only[RW,Bea,Bd8];rw[GV,Aej,Asn l _ h2,Yz];omega
 rw[ss4 hn (by rw[Aci,RF];omega) (by rw[e1,e2,Yz];omega),e3,Ab3 ht]
theorem Afj{b p:LB}{f c w r n T:Nat}{l:List Int}{z:LB}(hp:p.length<=64)(hf:f=Gj p)(h1:Eo f c w r n=true)(h2:Xm c r n=true)(hT:Bc b=((T:Int),0))(hb:b.length<=100000)(hd:b.drop T=Iu f c w r n++(Po p++(GV l++z)))
  (hl:l.length=(Ah (Am r) n).length) (ht:Ru l=true):Opn b p f c w r n (T+22+(if f=2 then 8 else 0)+4*l.length+4) l:=by
 have hlen:=congrArg List.length hd;rw[Agy,Aci,Aci,Aci,Kt,QC,RF,<-hf]at hlen;have Bew:l.length<=1000/\1<=l.length:=by
  have h:=ht;simp only[Ru,Acl,Acj]at h;omega
 have hread:Dm (b.drop T)=((f:Int),(c:Int),(w:Int),(r:Int),(n:Int),0):=by rw[hd];exact qX h1 h2 _
 have t22:Ad (T:Int) 22=((T+22:Nat):Int):=by rw[Ak];omega
 have t30:Ad ((T+22:Nat):Int) 8=((T+30:Nat):Int):=by rw[Ak];omega
 have d22:b.drop (T+22)=Po p++(GV l++z):=by
  rw[<-Bbj,hd,<-Kt f c w r n,Bdf]
 have dA:b.drop (T+22+(if f=2 then 8 else 0))=GV l++z:=by
  rw[<-Bbj,d22,hf,<-QC p,Bdf]
 have hend:∀A:Nat,A<=b.length->A=T+22+(if f=2 then 8 else 0)->Ba b p=Ja b (f:Int) (c:Int) (w:Int) (r:Int) (n:Int) (A:Int)->Ba b p=some ((f:Int),(c:Int),(w:Int),(r:Int),(n:Int),((A+4*l.length+4:Nat):Int),l,0):=by
  intro A hA hA2 e;rw[e,VY h1 h2 b (by omega) A hA,hA2,dA,<-hl,Aoz ht,Aau (by simp)]
 have hprog:Ba b p=some ((f:Int),(c:Int),(w:Int),(r:Int),(n:Int),((T+22+(if f=2 then 8 else 0)+4*l.length+4:Nat):Int),l,0):=by
  refine hend (T+22+(if f=2 then 8 else 0)) (by omega) rfl ?_;rw[Ba,Hk,Aau (by rw[Aq,Ac];simp;omega),Aau (by rw[Aq,Ac];simp;omega),Eb b (by omega),hT,Aa];simp only;rw[Aau (by decide),Bl,Aa,Ae3,Mj _ (by rw[Agy];omega),Aa,hread];simp only;rw[Aau (by decide)];by_cases h0:p=[]
  ·have e1:f=1:=by rw[hf,Gj,Ab3 h0]
   rw[Aau (by rw[h0,e1];decide),Aau (by rw[h0];decide),t22,e1];rfl
  ·have e1:f=2:=by rw[hf,Gj,Aau h0]
   have hne:(p !=([]:LB))=true:=by simpa using h0
   have hne2:(p==([]:LB))=false:=by simpa using h0
   have hdg:Po p=Rc (Rp p).toNat 8:=by rw[Po,Aau h0]
   have hseg:(b.take (T+30)).drop (T+22)=Rc (Rp p).toNat 8:=by
    rw[Bd5,show T+30-(T+22)=8 by omega,d22,hdg,At4 (by rw[Ca];omega),Aqt (by rw[Ca];omega)]
   rw[e1,Ab3 rfl]at hlen;rw[Aau (by rw[hne2,e1];decide),Ab3 hne,t22,t30,Aau (by rw[Ae,Ac];simp;omega),Oa,Aa,Ae3,Ae3,hseg,YG (Ca _ _) hp,Aa];simp only;rw[Aau (by decide),Aau (by simp),e1];rfl
 rcases jB b p (by omega) hp with⟨e,he,h,_⟩|⟨f',c',w',r',n',A',l',o⟩
 ·rw[hprog]at h;have:=congrArg (λo=>(o.getD (Ph 0)).2.2.2.2.2.2.2) h;simp only[Option.getD_some,Ph]at this;exact absurd this.symm he
 ·have h:=o.prog;rw[hprog]at h;simp only[Acm,Agt]at h;obtain⟨i1,i2,i3,i4,i5,i6,i7,_⟩:=h;have j1:f=f':=by omega
  have j2:c=c':=by omega
  have j3:w=w':=by omega
  have j4:r=r':=by omega
  have j5:n=n':=by omega
  have j6:=Int.ofNat.inj i6;subst j1 j2 j3 j4 j5 i7;rw[j6];exact o
theorem cH{b:LB}(h:b.take 4=Mt):Bc b=(0,0):=by
 have h4:4<=b.length:=by
  have:=congrArg List.length h;rw[Afa]at this;simp only[Mt,Akt,List.length_nil]at this;omega
 have h3:b.take 3≠ [73,68,51]:=by
  intro e;have:(b.take 4).take 3=[73,68,51]:=by rw[Ayu];exact e
  rw[h]at this;exact absurd this (by decide)
 have h8:b.take 8≠zA:=by
  intro e;have:(b.take 8).take 4=Mt:=by rw[Ayu];exact h
  rw[e]at this;exact absurd this (by decide)
 have hs:Ce b=(0,6):=by
  have h1:Na b=(0,6):=by rw[Na,Ab3 (by intro hh;exact h3 hh.2)]
  rw[Ce,h1,Aau (by decide),fa1 (by intro hh;exact h8 hh.2)]
 rw[Bc,A7,Bp,Bcs,hs];rfl
theorem bA:∀{l:List Int},(∀x∈l,0<=x)->∀k,0<= (l.take k).sum
 |[],_,k=>by simp
 |x::l,h,0=>by simp
 |x::l,h,k+1=>by
  have:=bA (l:=l) (λy hy=>h y (Am3 _ hy)) k;have:=h x Ays;rw[Bfr,Awb];omega
theorem sC(fs:List LB)(k:Nat):(Bv fs).take k=Bv (fs.take k):=by rw[Bv,Bv,List.map_take]
theorem Ay0{b z:LB}{A:Nat}{fs:List LB}(hd:b.drop A=fs.flatten++z){k:Nat}(hk:k<fs.length):sH b A (Bv fs) k=fs[k]:=by
 have e0:fs.flatten=(fs.take k).flatten++(fs[k]++(fs.drop (k+1)).flatten):=by
  conv=>lhs;rw[<-Aph k fs,drop_cons hk]
  rw[Bdh,Bdd]
 have s1:((Bv fs).take k).sum=((fs.take k).flatten.length:Int):=by rw[sC,EH]
 have s2:((Bv fs).take (k+1)).sum=((fs.take k).flatten.length+fs[k].length:Nat):=by rw[sC,EH,Lg hk,Bdh];simp
 rw[sH,s1,s2,show((A:Int)+((fs.take k).flatten.length+fs[k].length:Nat)).toNat=A+((fs.take k).flatten.length+fs[k].length) by omega,show((A:Int)+((fs.take k).flatten.length:Int)).toNat=A+(fs.take k).flatten.length by omega,
  Bd5,<-Bbj,hd,e0,Aej,Bdf,Nat.add_sub_add_left,Bba,Aej,Bf7]
theorem Aon{b z:LB}{A:Nat}{fs:List LB}(hd:b.drop A=fs.flatten++z)(hA:A<=b.length)(k:Nat):(A:Int)+((Bv fs).take k).sum<=b.length:=by
 have h:=congrArg List.length hd;rw[Agy,Aci]at h;have h2:(fs.take k).flatten.length<=fs.flatten.length:=by
  conv=>rhs;rw[<-Aph k fs,Bdh,Aci]
  omega
 rw[sC,EH];omega
section
variable {b p:List UInt8} {f c w r n A:Nat} {fs:List LB} {z:LB} (o:Opn b p f c w r n A (Bv fs)) (hd:b.drop A=fs.flatten++z)
include o hd
theorem Atv{k:Nat}(hk:k<fs.length){y:List Int32}{e:Int}{m:Nat}(hm:Ao (Ah (Am r) n) (k:Int)=some (m:Int))(hdec:Hi (c:Int) (w:Int) (Pk p) (m:Int) fs[k]=some (y,e)):
  (Gu b p f c w r n A (Bv fs) k).2=e/\ (e=0->Gu b p f c w r n A (Bv fs) k=(Cy (w:Int) y,0)/\pg w (Gu b p f c w r n A (Bv fs) k)=y):=by
 have hkl:k<(Bv fs).length:=by rw[Ig];exact hk
 obtain⟨m',x',s',e',g⟩:=Qa o k hkl;have hin:=Aon hd o.at' (k+1);have hmm:m'=m:=by
  have:=g.mom;rw[hm]at this;have:=Apf this;omega
 subst hmm;rcases g.way with⟨h1,_⟩|⟨_,h2,_⟩
 ·omega
 ·rw[Ay0 hd hk,hdec]at h2;simp only[Acm,Agt]at h2;obtain⟨rfl,rfl⟩:=h2;refine⟨by rw[g.eq],λhe=>?_⟩;have:=g.xW (Kz o.shape).2.1;obtain⟨h3,_⟩:=g.some' he;rw[g.eq,this,h3,he];exact⟨rfl,rfl⟩
end
theorem vG(c:Nat)(h1:1<=c):∀(l:List Int) (x:List Int32),(∀m∈l,1<=m)->x.length=l.sum.toNat*c->∀(k:Nat) (hk:k<l.length) (hk':k<(EM c x l).length),(EM c x l)[k].length=l[k].toNat*c
 |[],x,_,_=>λk hk=>absurd hk (Bc8 _)
 |m::l,x,hm,hx=>by
  have hm1:=hm m Ays;have hl:0<=l.sum:=by
   have:=bA (l:=l) (λy hy=>by have:=hm y (Am3 _ hy);omega) l.length;rw[Ba9]at this;exact this
  rw[Awb,show(m+l.sum).toNat=m.toNat+l.sum.toNat by omega,Ayj]at hx;intro k hk hk';cases k with
  |zero=>simp only[EM,List.getElem_cons_zero,Afa];omega
  |succ k=>
   simp only[EM,List.getElem_cons_succ];exact vG c h1 l (x.drop (m.toNat*c)) (λm hm'=>hm m (Am3 _ hm')) (by rw[Agy];omega) k (by simpa using hk) _
theorem Aha{bits:Int}{ch n:Nat}{t:List Int32}{b:LB}{e:Int}(hb:Bu bits)(ht:t.length=16)(h1:1<=ch)(h6:ch<=6)(n1:1<=n)(n2:n<=4000/ch)(hs:Nt b=e)(he:e≠0):Hi (ch:Int) bits t (n:Int) b=some ([],e):=by
 have hq4:=yR h1 h6;have hh:=NX bits;obtain⟨l,e',d1,d2,_,d4⟩:=Wd b hb ht h1 h6 n1 n2;have key:∃l,Cm (ch:Int) bits t (n:Int) b=some (l,e):=by
  generalize 4000/ch=mm at*
  have vX:Dh (ch:Int) bits (n:Int)=some 0:=by
   rw[Dh,Di,Aau (by simp[Ae,Aq];omega),UO hb,Aa,Aau (by rw[Ar];simp;omega),Aa,Aau (by simp[Ag,Ae];omega),Bt (by rw[Ag];simp;omega),Aa,hq4,Aau (by rw[Aq];simp;omega)]
  rw[Cm,Kg,vX,Aa,Aau (by rw[Ag];simp),jJ,Aa,hs,Ab3 (by rw[Ag];simpa using he)];exact⟨_,rfl⟩
 obtain⟨l',hl⟩:=key;rw[hl]at d2;simp only[Acm,Agt]at d2;obtain⟨rfl,rfl⟩:=d2;rw[d1,d4 he]
structure FileOf (c w r n:Nat) (x:List Int32) (p:LB) (T:Nat) (fs:List LB) (z b:LB):Prop where
 clip:ClipOk c w r n x
 pass:p.length<=64
 front:Bc b=((T:Int),0)
 le:b.length<=100000
 lens:Bv fs=Bv (Mr c w r n x p)
 form:b.drop T=Iu (Gj p) c w r n++(Po p++(GV (Bv (Mr c w r n x p))++(fs.flatten++z)))
def FG(T:Nat)(p:LB)(K:Nat):Nat:=T+22+(if Gj p=2 then 8 else 0)+4*K+4
section
variable {c w r n:Nat} {x:List Int32} {p:LB} {T:Nat} {fs:List LB} {z b:LB} (h:FileOf c w r n x p T fs z b)
include h
theorem FileOf.cnt:fs.length=(Mr c w r n x p).length:=by
 have:=congrArg List.length h.lens;rw[Ig,Ig]at this;exact this
theorem FileOf.Ga:Opn b p (Gj p) c w r n (FG T p fs.length) (Bv fs):=by
 have hc:=h.clip;have hl:(Bv fs).length=(Ah (Am r) n).length:=by rw[Ig,h.cnt];exact jU p
 have ht:Ru (Bv fs)=true:=by rw[h.lens];exact xP hc p
 have hd:=h.form;rw[<-h.lens]at hd;have:=Afj (z:=fs.flatten++z) h.pass rfl (hc.shape _ (gN p)) hc.fit h.front h.le hd hl ht;rw[Ig]at this;exact this
theorem FileOf.Apk:b.drop (FG T p fs.length)=fs.flatten++z:=by
 have hd:=h.form;rw[<-h.lens]at hd;have e:FG T p fs.length=T+(22+((if Gj p=2 then 8 else 0)+(4*fs.length+4))):=by unfold FG;omega
 have e2:4*fs.length+4=(GV (Bv fs)).length:=by rw[RF,Ig]
 rw[e,<-Bbj,hd,<-Bbj]
 conv=>lhs;rw[<-Kt (Gj p) c w r n,Bdf,<-Bbj,<-QC p,Bdf,e2,Bdf]
theorem FileOf.mom{k:Nat}(hk:k<fs.length):∃(m:Nat) (hk':k<(CD c r n x).length),Ao (Ah (Am r) n) (k:Int)=some (m:Int)/\1<=m/\m<=4000/c/\ ((CD c r n x)[k]).length=m*c/\inR (w:Int) (CD c r n x)[k]/\ (Mr c w r n x p)[k]'(by rw[<-h.cnt];exact hk)=Ry (w:Int) c (Pk p) (CD c r n x)[k]:=by
 have hc:=h.clip;have hlen:fs.length=(Ah (Am r) n).length:=by rw[h.cnt];exact jU p
 have hkf:k<(Ah (Am r) n).length:=by omega
 have hk':k<(CD c r n x).length:=by rw[xO];exact hkf
 have hm1:=Th (Fe r) hc.cnt.1 _ (Ams hkf);obtain⟨m,hm⟩:=Ag0 (show 0<= (Ah (Am r) n)[k] by omega);have hg:=vG c hc.ch.1 _ x (Th (Fe r) hc.cnt.1) (by rw[hc.sum,hc.len,Ae3]) k hkf hk';rw[hm,Ae3]at hg;have hmem:=XW hc _ (Ams hk');have hx:=uU c hc.ch.1 _ x (Th (Fe r) hc.cnt.1) (by rw[hc.sum,hc.len,Ae3]) _ (Ams hk');have hg':((CD c r n x)[k]).length=m*c:=hg;refine⟨m,hk',by rw[Bn hkf,hm],by omega,?_,hg',hmem.2.2.2,?_⟩
 ·have h1:=hx.2.1;have h2:m*c<=n*c:=by rw[<-hg',<-hc.len];exact h1
  have h3:m<=n:=Nat.le_of_mul_le_mul_right h2 hc.ch.1;exact Bf1 h3 hc.cnt.2
 ·simp only[Mr,Bea]
theorem FileOf.B8{k:Nat}(hk:k<fs.length)(he:fs[k]=(Mr c w r n x p)[k]'(by rw[<-h.cnt];exact hk)):
  Gu b p (Gj p) c w r n (FG T p fs.length) (Bv fs) k=(Cy (w:Int) ((CD c r n x).getD k []),0)/\pg w (Gu b p (Gj p) c w r n (FG T p fs.length) (Bv fs) k)=(CD c r n x).getD k []:=by
 have hc:=h.clip;obtain⟨m,hk',h1,h2,h3,h4,h5,h6⟩:=h.mom hk;have hd:=(Ahw hc.bits (Kj p) hc.ch.1 hc.ch.2 h2 h3 h4 h5).1;have hg:=Atv h.Ga h.Apk hk h1 (by rw[he,h6];exact hd);have e:(CD c r n x).getD k []=(CD c r n x)[k]:=by rw[List.getD_eq_getElem?_getD,List.getElem?_eq_getElem hk'];rfl
 rw[e];exact hg.2 rfl
theorem FileOf.Bdq{k:Nat}(hk:k<fs.length)(he:Nt fs[k]=22):(Gu b p (Gj p) c w r n (FG T p fs.length) (Bv fs) k).2=22:=by
 have hc:=h.clip;obtain⟨m,hk',h1,h2,h3,h4,h5,h6⟩:=h.mom hk;exact(Atv h.Ga h.Apk hk h1 (Aha hc.bits (Kj p) hc.ch.1 hc.ch.2 h2 h3 he (by decide))).1
end
theorem fE{c w r n:Nat}{x:List Int32}(h:ClipOk c w r n x){p:LB}(hp:p.length<=64):FileOf c w r n x p 0 (Mr c w r n x p) [] (Ev c w r n x p):=by
 refine⟨h,hp,cH ?_,by have:=xx h p;omega,rfl,by rw[Aue];rfl⟩;rw[Ev,Qd];rfl
theorem Adz{fs:List LB}{k:Nat}(hk:k<fs.length){g:LB}(h:g.length=fs[k].length):Bv (fs.set k g)=Bv fs:=by
 rw[Bv,Bf3];have:((g.length:Nat):Int)=(Bv fs)[k]'(by rw[Ig];exact hk):=by simp[Bv,h]
 rw[show(fs.map λf=>(f.length:Int))=Bv fs from rfl,this];exact List.set_getElem_self _
theorem vY{l:List Int}(h:∀x∈l,0<=x){i j:Nat}(hij:i<=j):(l.take i).sum<= (l.take j).sum:=by
 obtain⟨d,rfl⟩:=Bfs hij;rw[List.take_add,Bfq];have:=bA (l:=l.drop i) (λx hx=>h x (Bfl hx)) d;omega
theorem Avj(fs:List LB):∀x∈Bv fs,0<=x:=by
 intro x hx;rw[Bv,List.mem_map]at hx;obtain⟨f,_,rfl⟩:=hx;omega
section
variable {c w r n:Nat} {x:List Int32} (h:ClipOk c w r n x) {p:LB} (hp:p.length<=64)
include h hp
omit hp in
theorem Apt{k:Nat}(hk:k<(Mr c w r n x p).length):Nt (Mr c w r n x p)[k]=0:=by
 have hm:(Mr c w r n x p)[k]∈Mr c w r n x p:=Ams hk;obtain⟨y,hy,he⟩:=List.mem_map.1 (show(Mr c w r n x p)[k]∈(CD c r n x).map (Ry (w:Int) c (Pk p))from hm);have hy':=XW h y hy;rw[<-he];exact(tu _ _ _ _ hy'.1 hy'.2.1).1
end
section
variable {c w r n:Nat} {x:List Int32} (h:ClipOk c w r n x)
include h
theorem Aso{k:Nat}(hk:k<(CD c r n x).length)(hk':k<(Ah (Am r) n).length):((CD c r n x)[k]).length=((Ah (Am r) n)[k]).toNat*c:=
 vG c h.ch.1 _ x (Th (Fe r) h.cnt.1) (by rw[h.sum,h.len,Ae3]) k hk' hk
theorem sR:∀K:Nat,K<= (CD c r n x).length-> ((CD c r n x).take K).flatten.length=((Ah (Am r) n).take K).sum.toNat*c
 |0,_=>by simp
 |K+1,hK=>by
  have hl:=xO (c:=c) (r:=r) (n:=n) (x:=x);have hk':K<(Ah (Am r) n).length:=by omega
  have h1:=Th (Fe r) h.cnt.1 _ (Ams hk');have h2:=bA (l:=Ah (Am r) n) (λm hm=>by have:=Th (Fe r) h.cnt.1 m hm;omega) K;rw[Lg (show K<(CD c r n x).length by omega),Bdh,Aci,sR K (by omega),Lg hk',Bfq,List.sum_singleton,List.flatten_singleton,Aso h (by omega) hk',<-Ayj];congr 1;omega
end
theorem Aoy{l:List Int}{i:Nat}(hi:i<l.length):(l.take (i+1)).sum=(l.take i).sum+l[i]:=by
 rw[Lg hi,Bfq,List.sum_singleton]
theorem yh{α:Type}(G H:Nat->List α):∀(j k:Nat),(∀i,k<=i->i<k+j->G i=H i)->Qi G j k=Qi H j k
 |0,k,_=>rfl
 |j+1,k,h=>by rw[Qi,Qi,h k (by omega) (by omega),yh G H j (k+1) (λi h1 h2=>h i (by omega) (by omega))]
def Cd(e:Int):Prop:=e=0\/e=4\/e=12\/e=16\/e=22\/e=24\/e=26\/e=38
instance(e:Int):Decidable (Cd e):=by unfold Cd;infer_instance
theorem Cd.nn{e:Int}(h:Cd e):0<=e:=by unfold Cd at h;omega
theorem Baj(p:List UInt8)(N a k:Nat):Cd (aD p N a k).2.2:=by
 unfold aD
 repeat' split
 all_goals first|decide|exact .inl rfl
theorem Baa(p:List UInt8)(N a k l:Nat):Cd (eD p N a k l).2.2:=by
 have h:=Baj p N (a+1) l;unfold eD
 repeat' split
 all_goals first|exact h|decide|exact .inl rfl
theorem Ald(ch:Nat)(p:List UInt8)(N:Nat):∀(j a:Nat) (out:List UInt32),Cd (Xp ch p N j a out).2.2
 |0,a,out=>by rw[Xp];exact .inl rfl
 |j+1,a,out=>by
  rw[Xp];split
  ·exact Baa ..
  ·exact Ald ch p N j _ _
theorem Asa(b:List UInt8):Cd (Nt b):=by
 unfold Nt
 repeat' split
 all_goals first|decide|exact .inl rfl
theorem vz(a:List Int32)(b:Int):∀(q:Nat) (i e:Int),Az a b q i=some e->Cd e
 |0,_,_,h=>by rw[Az]at h;cases h
 |q+1,i,e,h=>by
  rw[Az,Cu]at h;split at h
  ·cases hg:Ao a i with
   |none=>rw[hg]at h;cases h
   |some g=>
    rw[hg,Aa]at h;split at h
    ·cases h;decide
    ·rw[Aa]at h;split at h
     ·cases h;decide
     ·exact vz a b q _ e h
  ·cases h;decide
theorem Ah0{bits:Int}{a:List Int32}{e:Int}(hb:Bu bits)(h:Ay bits a=some e):Cd e:=by
 rw[Ay,Dq]at h;rw[UO hb,Aa,Aau (by have:=NX bits;rw[Ar];simp;omega)]at h;split at h
 ·cases h;decide
 ·exact vz a _ _ _ e h
theorem xk{bits:Int}{ch n:Nat}{t:List Int32}{b:List UInt8}(hb:Bu bits)(ht:t.length=16)(h1:1<=ch)(h6:ch<=6)(n1:1<=n)(n2:n<=4000/ch){l:List Int32}{e:Int}
  (h:Cm (ch:Int) bits t (n:Int) b=some (l,e)):Cd e:=by
 have hn:n*ch<=4000:=by
  have:=Agu ch n2;have h2:=Bbl 4000 ch;omega
 have hq4:=yR h1 h6;generalize 4000/ch=mm at*
 have hh:=NX bits;have vX:Dh (ch:Int) bits (n:Int)=some 0:=by
  rw[Dh,Di,Aau (by simp[Ae,Aq];omega),UO hb,Aa,Aau (by rw[Ar];simp;omega),Aa,Aau (by simp[Ag,Ae];omega),Bt (by rw[Ag];simp;omega),Aa,hq4,Aau (by rw[Aq];simp;omega)]
 rw[Cm,Kg,vX,Aa,Aau (by rw[Ag];simp),jJ,Aa]at h;by_cases hs:Nt b≠0
 ·rw[Ab3 (by rw[Ag];simpa using hs)]at h;simp only[Aa]at h;cases h;exact Asa b
 have hs0:Nt b=0:=by simpa using hs
 have hlen:=S2 hs0;have e4:Ap (Ac b) 4=((b.length-4:Nat):Int):=by rw[Ac,Bs];omega
 rw[Aau (by rw[Ag,hs0];simp),e4,Dg,Aa,show((b.length-4:Nat):Int).toNat=b.length-4 from rfl]at h;have hpl:(b.take (b.length-4)).length=b.length-4:=by simp
 generalize b.take (b.length-4)=p at*
 have hr:=Aba (N:=8*p.length) (p:=p) rfl (by omega) h1 h6 hn;have hV:=Ald ch p (8*p.length) (n*ch) 0 [];have hat:=M6 (ch:=ch) (p:=p) (N:=8*p.length) (n*ch) 0 [] (by omega);rw[hr,Aa]at h;generalize Xp ch p (8*p.length) (n*ch) 0 []=V at*
 obtain⟨v,at',er⟩:=V;simp only at*
 by_cases he:er≠0
 ·rw[Ab3 he]at h;simp only at h;rw[Hx,Hw,Ab3 (by rw[Ag];simpa using he)]at h;cases h;exact hV
 have he0:er=0:=by simpa using he
 have hvl:=hat.2.2 he0;simp only[List.length_nil,Azm]at hvl;rw[Aau he]at h;simp only at h;rw[Hx,Hw]at h;split at h
 ·cases h;decide
 ·rw[Aau (by decide)]at h;have hm:v.length %ch=0:=by rw[hvl];exact Bdi n ch
  obtain⟨l',e',g1,g2,g3,g4,g5⟩:=xS (v:=v) hb ht h1 h6 (by omega) hm;rw[g1,Aa,g2,Aa]at h;have:=Ah0 hb g4;by_cases hl:e'≠0
  ·rw[Ab3 hl]at h;cases h;exact this
  ·rw[Aau hl]at h;cases h;decide
theorem rA{bits:Int}{ch n:Nat}{t:List Int32}{b:List UInt8}(hb:Bu bits)(ht:t.length=16)(h1:1<=ch)(h6:ch<=6)(n1:1<=n)(n2:n<=4000/ch){l:List Int32}{e:Int}
  (h:Cm (ch:Int) bits t (n:Int) b=some (l,e)):0<=e:=(xk hb ht h1 h6 n1 n2 h).nn
def shI(f c w r n:Int):Bool:=decide ((f=1\/f=2)/\ (1<=c/\c<=6)/\ (w=8\/w=16\/w=24)/\ (1<=r/\r<=1048576)/\1<=n)
theorem Aqc(f c w r n:Int):Tv f c w r n=some (shI f c w r n):=by
 have e2:Pz f c w r n=some (decide ((f=1\/f=2)/\ (1<=c/\c<=6)/\ (1<=r/\r<=1048576)/\1<=n)):=by
  rw[Pz,NM];congr 1;rw[Ajf];simp only[Ar,Aq,lS,Acl,Azv,Aug,Acj];omega
 have g:∀k:Int,geq w k=decide (w=k):=λk=>by rw[Ar,Ajf];simp
 rw[Tv,BH,e2,g,g,g,shI];by_cases h8:w=8
 ·subst h8;simp
 ·by_cases h16:w=16
  ·subst h16;simp
  ·by_cases h24:w=24
   ·subst h24;simp
   ·simp[h8,h16,h24]
theorem Avb(f c w r n:Int):Lb f c w r n=some (shI f c w r n):=by
 rw[Lb,shI];simp only[Ar,Dy,lS,Acl,Azv,Aug,Acj,Bdu];split
 ·rename_i h;congr 1;rw[Ajf];simp only[Acl,Azv,Aug,Acj];omega
 ·rename_i h;congr 1;symm;rw[Bbe];omega
structure HdI (f c w r n:Int) (F C W R N:Nat):Prop where
 ef:f=F
 ec:c=C
 ew:w=W
 er:r=R
 en:n=N
 shape:Eo F C W R N=true
 fit:Xm C R N=true
theorem Anb(f c w r n:Int):(∃F C W R N:Nat,HdI f c w r n F C W R N)\/ (Mh f c w r n=some 8/\Dl f c w r n=some ([],8)):=by
 by_cases h:shI f c w r n=true
 ·have h':=h;simp only[shI,Acj]at h';obtain⟨F,rfl⟩:=Ag0 (show 0<=f by omega);obtain⟨C,rfl⟩:=Ag0 (show 0<=c by omega);obtain⟨W,rfl⟩:=Ag0 (show 0<=w by omega);obtain⟨R,rfl⟩:=Ag0 (show 0<=r by omega);obtain⟨N,rfl⟩:=Ag0 (show 0<=n by omega);have hs:Eo F C W R N=true:=by simp only[Eo,Acj];omega
  by_cases hf:Xm C R N=true
  ·exact .inl ⟨F,C,W,R,N,rfl,rfl,rfl,rfl,rfl,hs,hf⟩
  ·have hf':Xm C R N=false:=by simpa using hf
   refine .inr ⟨?_,?_⟩
   ·rw[Mh,tS,Aa,hs,Aau (by simp),ma hs,Aa,hf'];rfl
   ·rw[Dl,Pf,bC,Aa,hs,Aau (by simp),sA hs,Aa,hf'];rfl
 ·have h':shI f c w r n=false:=by simpa using h
  refine .inr ⟨?_,?_⟩
  ·rw[Mh,Avb,Aa,h'];rfl
  ·rw[Dl,Pf,Aqc,Aa,h'];rfl
theorem HdI.check{f c w r n:Int}{F C W R N:Nat}(h:HdI f c w r n F C W R N):Mh f c w r n=some 0:=by
 obtain⟨rfl,rfl,rfl,rfl,rfl,hs,hf⟩:=h;rw[Mh,tS,Aa,hs,Aau (by simp),ma hs,Aa,hf];rfl
theorem HdI.zS{f c w r n:Int}{F C W R N:Nat}(h:HdI f c w r n F C W R N):Dl f c w r n=some (Ah (Am R) N,0):=by
 obtain⟨rfl,rfl,rfl,rfl,rfl,hs,hf⟩:=h;exact QW hs hf
theorem HdI.num{f c w r n:Int}{F C W R N:Nat}(h:HdI f c w r n F C W R N):(F=1\/F=2)/\ (1<=C/\C<=6)/\ (W=8\/W=16\/W=24)/\ (1<=R/\R<=1048576)/\1<=N/\N<=4000/C/\N<=4000/\ (N-1)/Am R+1<=1000:=by
 obtain⟨rfl,rfl,rfl,rfl,rfl,hs,hf⟩:=h;simp only[Eo,Acj]at hs;simp only[Xm,Acj]at hf;have hd:4000/C<=4000:=Auf _ _;omega
theorem HdI.Aaq{f c w r n:Int}{F C W R N:Nat}(h:HdI f c w r n F C W R N):Hf f c w r n=some (Ah (Am R) N):=by
 have hn:=h.num;obtain⟨rfl,rfl,rfl,rfl,rfl,hs,hf⟩:=h;rw[Hf,YF (by omega) (by omega) (by omega)];rfl
section
variable {f c w r n:Nat} (h1:Eo f c w r n=true) (h2:Xm c r n=true)
include h1 h2
theorem xh(k:Nat)(hk:k<= (Ah (Am r) n).length):∀(j i q:Nat),i+j=k->j<q->My (k:Int) (f:Int) (c:Int) (w:Int) (r:Int) (n:Int) (Ah (Am r) n) q (((Ah (Am r) n).take i).sum) (i:Int)=some (Uw c w (Ah (Am r) n) k)
 |0,i,q+1,hi,_=>by
  obtain⟨hc,hw,hr,hn,_⟩:=Kz h1;obtain⟨g1,g2,g3⟩:=AS h1 h2;have b:=PD g1 i;obtain rfl:i=k:=by omega
  have hb:((Ah (Am r) n).take i).sum.toNat*(c*wB (w:Int))<=4000*(6*3):=Bce (by omega) (Bce hc.2 (P1 (w:Int)).2);rw[My,AV,Aau (by rw[Ae];simp),SG,QA,Fy,Aa];simp only;rw[UN,Az0 hc.2 hw,Aa,Uw];have e:((Ah (Am r) n).take i).sum=((((Ah (Am r) n).take i).sum.toNat:Nat):Int):=by omega
  rw[e,Ii (by rw[<-Ba1];omega) (by rw[<-Ba1];omega),<-Ba1];rfl
 |j+1,i,q+1,hi,hq=>by
  obtain⟨g1,g2,g3⟩:=AS h1 h2;have hK:=pY h2;have hlt:i<(Ah (Am r) n).length:=by omega
  have b1:=PD g1 i;have b2:=PD g1 (i+1);have e:=Gd hlt;have ih:=xh k hk j (i+1) q (by omega) (by omega);rw[e]at ih;rw[My,AV,Ab3 (by rw[Ae];simp;omega),Bn hlt,Aa,Aa,Ak,Ak];exact ih
theorem Adn(k:Nat)(hk:k<= (Ah (Am r) n).length):Ze (f:Int) (c:Int) (w:Int) (r:Int) (n:Int) (k:Int)=some (Uw c w (Ah (Am r) n) k):=by
 have hK:=pY h2;obtain⟨g1,g2,g3⟩:=AS h1 h2;obtain⟨hc,hw,hr,hn,_⟩:=Kz h1;have h:=xh h1 h2 k hk k 0 Ax (by omega) (by have:=As;omega);rw[Bbi,Bd3]at h;rw[Ze,QT,Hf,YF hr.2 hn g3,Aa,Aa];exact h
theorem Ai2{i:Nat}(hlt:i<(Ah (Am r) n).length):Ad (Uw c w (Ah (Am r) n) i) (Db (Br (Br ((Ah (Am r) n)[i]) (c:Int)) (w:Int)) 8)=Uw c w (Ah (Am r) n) (i+1):=by
 obtain⟨hc,hw,hr,hn,_⟩:=Kz h1;obtain⟨g1,g2,g3⟩:=AS h1 h2;have b1:=PD g1 i;have b2:=PD g1 (i+1);have e:=Gd hlt;have h0:=g1 _ (Ams hlt);have e2:(Ah (Am r) n)[i]=(((Ah (Am r) n)[i].toNat:Nat):Int):=by omega
 have hb:((Ah (Am r) n).take (i+1)).sum.toNat*(c*wB (w:Int))<=4000*(6*3):=Bce (by omega) (Bce hc.2 (P1 (w:Int)).2);rw[e2,Arz (by omega) hc.2 hw,Uw,Uw];have e3:((Ah (Am r) n).take (i+1)).sum.toNat=((Ah (Am r) n).take i).sum.toNat+(Ah (Am r) n)[i].toNat:=by omega
 rw[e3,Ayj]at hb⊢;rw[Ak];omega
theorem yz(a:Nat)(ha:a<= (Ah (Am r) n).length)(o p:LB)(m:LI)(a':Int)(N:LB)(u:Bool)(v:Int):∀(j i q:Nat),i+j=a->j<q->
  Sg ((Ah (Am r) n).take a) o p (f:Int) (c:Int) (w:Int) (r:Int) (n:Int) m a' N u v q (Uw c w (Ah (Am r) n) i) (i:Int)=some (oz (Ac N) (Uw c w (Ah (Am r) n) a))
 |0,i,q+1,hi,_=>by
  obtain rfl:i=a:=by omega
  rw[Sg,EB,Aau (by rw[Ae,Ac,Afa];simp;omega),UB,lY]
 |j+1,i,q+1,hi,hq=>by
  have hK:=pY h2;have hlt:i<(Ah (Am r) n).length:=by omega
  have hlt2:i<((Ah (Am r) n).take a).length:=by rw[Afa];omega
  have ih:=yz a ha o p m a' N u v j (i+1) q (by omega) (by omega);rw[Sg,EB,Ab3 (by rw[Ae,Ac];simp;omega),Bn hlt2,Aa,List.getElem_take,Ai2 h1 h2 hlt,Ak];exact ih
end
theorem M7{α:Type}(l:List α):geq (Ac l) 0=decide (l=[]):=by
 cases l with
 |nil=>rfl
 |cons x l=>rw[Ar,Ac,Akt,Ayn (by simp),beq_eq_false_iff_ne];omega
theorem Abt{α:Type}(l:List α):Ex (Ac l) 0=decide (l≠ []):=by
 cases l with
 |nil=>rfl
 |cons x l=>rw[Aq,Ac,Akt,Bbc (by simp)];simp
inductive FitD (o:LB) (f c w r n:Int) (g:LI) (a:Int) (x:LB):Prop
 |new:f=0->c=0->w=0->r=0->n=0->g=[]->a=0->x=[]->FitD o f c w r n g a x
 |head (F C W R N:Nat):HdI f c w r n F C W R N-> (o==([]:LB))=decide (F=1)->g=[]->a=0->x=[]->FitD o f c w r n g a x
 |tab (F C W R N A:Nat):HdI f c w r n F C W R N-> (o==([]:LB))=decide (F=1)->Ru g=true->g.length=(Ah (Am R) N).length->a=A->A<=g.length->FitD o f c w r n g a x
theorem Ai3(f c w r n:Int)(o:LB):Qs f c w r n o=Es f c w r n o:=rfl
theorem Air(o p:LB)(f c w r n:Int)(g:LI)(a:Int)(x:LB)(u:Bool)(v:Int):
  (BO o p f c w r n g a x u v=some false/\Mm o p f c w r n g a x u v=some false)\/
  (BO o p f c w r n g a x u v=some true/\Mm o p f c w r n g a x u v=Cv o p f c w r n g a x u v/\FitD o f c w r n g a x):=by
 rw[BO,TM,Mm,Yj];by_cases hz:f=0/\c=0/\w=0/\r=0/\n=0
 ·obtain⟨rfl,rfl,rfl,rfl,rfl⟩:=hz;rw[Ab3 (by decide),Ab3 (by decide),M7,M7,Abt,Abt];by_cases h:g=[]/\a=0/\x=[]
  ·obtain⟨rfl,rfl,rfl⟩:=h;exact .inr ⟨rfl,by rw[Aau (by decide)], .new rfl rfl rfl rfl rfl rfl rfl rfl⟩
  ·refine .inl ⟨?_,?_⟩
   ·congr 1;rw[Bool.eq_false_iff];intro e;simp only[Acl,Acj,Ar,Aug]at e;exact h ⟨e.1.1,e.1.2,e.2⟩
   ·rw[Ab3];simp only[Azv,Acj,Ag,Bfp];by_cases e1:g=[]
    ·by_cases e2:a=0
     ·exact .inr λe3=>h ⟨e1,e2,e3⟩
     ·exact .inl (.inr e2)
    ·exact .inl (.inl e1)
 ·have hz2:¬(((geq f 0)&&((geq c 0)&&((geq w 0)&&((geq r 0)&&((geq n 0)&&true)))))=true):=by
   simp only[Acl,Ar,Aug,Bf0];exact hz
  rw[Aau hz2,Aau hz2];rcases Anb f c w r n with⟨F,C,W,R,N,h⟩|⟨e1,e2⟩
  ·rw[h.zS,h.check,Aa,Aa,Ai3];simp only;rw[Aau (by decide),Aau (by decide),Es];have hf:geq f 1=decide (F=1):=by rw[h.ef,Ar,Ajf];simp;omega
   rw[hf];by_cases hp:(o==([]:LB))=decide (F=1)
   ·rw[Aau (by rw[hp];simp),Aa,Aa,Aau (by decide),Aau (by decide),TB,SX,Rh,Re,M7,M7,Abt];by_cases hg:g=[]
    ·subst hg;rw[Ab3 (by simp),Ab3 (by simp)];by_cases h':a=0/\x=[]
     ·obtain⟨rfl,rfl⟩:=h';exact .inr ⟨rfl,by rw[Aau (by decide)], .head F C W R N h hp rfl rfl rfl⟩
     ·refine .inl ⟨?_,?_⟩
      ·congr 1;rw[Bool.eq_false_iff];intro e;simp only[Acl,Acj,Ar,Aug]at e;exact h' e
      ·rw[Ab3];simp only[Azv,Acj,Ag,Bfp];by_cases e2:a=0
       ·exact .inr λe3=>h' ⟨e2,e3⟩
       ·exact .inl e2
    ·rw[Aau (by simpa using hg),Aau (by simpa using hg),YU,dD,Aa,Aa];by_cases ht:Ru g=true
     ·rw[Ab3 ht,h.Aaq];simp only[Aa];by_cases hl:g.length=(Ah (Am R) N).length/\0<=a/\a<=g.length
      ·obtain⟨hl,ha0,ha1⟩:=hl;obtain⟨A,rfl⟩:=Ag0 ha0;have hA:A<= (Ah (Am R) N).length:=by omega
       rw[Aau (by simp[Ag,Ae,Aq,Ac];omega),Aau (by decide),Aau (by simp[Ag,Ae,Aq,Ac];omega),Dg,Aa,SU];have hh:=h;clear hf;obtain⟨rfl,rfl,rfl,rfl,rfl,hs,hf⟩:=hh;have hlp:=yz hs hf A hA o p g (A:Int) x u v A 0 Ax (by omega) (by have:=As;have:=pY hf;omega);have h0:Uw C W (Ah (Am R) N) 0=0:=by rw[Uw,Bbi,Bd3];simp
       rw[h0,show((0:Nat):Int)=0 from rfl]at hlp;rw[show((A:Int)).toNat=A from rfl,hlp,Adn hs hf A hA,Aa];by_cases hx:(x.length:Int)<=Uw C W (Ah (Am R) N) A
       ·refine .inr ⟨?_,?_, .tab F C W R N A h hp ht hl rfl (by omega)⟩
        ·rw[lS,Ac,Bbc hx]
        ·rw[Aau (by rw[Aq,Ac];simp;omega)]
       ·refine .inl ⟨?_,?_⟩
        ·rw[lS,Ac,Ayn hx]
        ·rw[Ab3 (by rw[Aq,Ac];simp;omega)]
      ·refine .inl ⟨?_,?_⟩
       ·rw[Ab3 (by simp[Ag,Ae,Aq,Ac];omega)]
       ·rw[Aau (by decide),Ab3 (by simp[Ag,Ae,Aq,Ac];omega)]
     ·refine .inl ⟨?_,?_⟩
      ·rw[Aau ht,Ab3 (by simp[Ag])]
      ·rw[Aau ht,Ab3 (by decide),Ab3 (by simp)]
   ·rw[Ab3 (by simpa using hp),Aa,Aa,Ab3 (by decide),Ab3 (by decide)];exact .inl ⟨rfl,rfl⟩
  ·rw[e1,e2,Aa,Aa];simp only;rw[Ab3 (by decide),Ab3 (by decide)];exact .inl ⟨rfl,rfl⟩
theorem Asr(b:List UInt8)(n:Int):Cd (US b n).2:=by
 unfold US
 repeat' split
 all_goals first|decide|exact .inl rfl
theorem Are(b:List UInt8):(Na b).2=6\/Cd (Na b).2:=by
 unfold Na xY
 repeat' split
 all_goals first|exact .inl rfl|exact .inr (Asr _ _)|exact .inr (by decide)
theorem An5(b:List UInt8):(Ik b).2=6\/Cd (Ik b).2:=by
 unfold Ik
 repeat' split
 all_goals first|exact .inl rfl|exact .inr (.inl rfl)|exact .inr (by decide)
theorem Arv(b:List UInt8):(Ce b).2=6\/Cd (Ce b).2:=by
 unfold Ce;split
 ·exact Are b
 ·exact An5 b
theorem vo(b:List UInt8):∀(j p:Nat),p<=b.length->b.length<j+p->Cd (Bp b j p).2
 |0,p,h1,h2=>by omega
 |j+1,p,h1,h2=>by
  rw[Bp];split
  ·exact .inl rfl
  ·rename_i h6;split
   ·exact(Arv _).resolve_left h6
   ·rename_i h0;split
    ·exact(by decide:Cd 4)
    ·have hz:Ce (b.drop p)=((Ce (b.drop p)).1,0):=by rw[Prod.ext_iff];exact⟨rfl,by simpa using h0⟩
     obtain⟨k1,k2⟩:=aB hz;rw[Agy]at k2;split
     ·exact .inl rfl
     ·exact vo b j _ (by omega) (by omega)
theorem zI(b:List UInt8):Cd (Bc b).2:=by
 unfold Bc A7;split
 ·exact .inl rfl
 ·exact vo b _ _ (by omega) (by omega)
theorem D2(b:List UInt8):0<= (Bc b).2:=(zI b).nn
theorem Y2(b:List UInt8):Cd (Dm b).2.2.2.2.2:=by
 unfold Dm
 repeat' split
 all_goals first|decide|exact .inl rfl
theorem T9(b:List UInt8):0<= (Dm b).2.2.2.2.2:=(Y2 b).nn
theorem Ap7(b:List UInt8){n:Nat}(h:1<=n/\n<=1000):Cd (Ds b n).2:=by
 unfold Ds;rw[Aau (λe=>e h)]
 repeat' split
 all_goals first|decide|exact .inl rfl
theorem Y7(b:List UInt8)(n:Nat):0<= (Ds b n).2:=by
 unfold Ds
 repeat' split
 all_goals simp
def G5:List UInt8:=[73,68,51]
def K1:List UInt8:=[65,80,69,84,65,71,69,88]
def Pe(b s:List UInt8):Bool:=decide (b.length<s.length)&&(b==s.take b.length)
theorem xn(b s:List UInt8):Uc b s=some (Pe b s):=by
 rw[Uc,Pe];by_cases h:b.length<s.length
 ·rw[Ab3 (by rw[Ae,Ac,Ac];simp;omega),Ac,Dg,Aa,Bbc h,Bdj];rfl
 ·rw[Aau (by rw[Ae,Ac,Ac];simp;omega),Ayn h];rfl
theorem Ats(b s:List UInt8)(h:b.length<s.length):Kk s b=some (Pe b s):=by
 rw[Kk,Ib,Ab3 (by rw[Dy,Ac,Ac];simp;omega),Ac,Dg,Aa,Aa,Pe,Bbc h,Bdj,Ae3];congr 1;rw[Ajf,Aug,Aug];exact eq_comm
theorem rX{b s:List UInt8}(h:¬b.length<s.length):Pe b s=false:=by rw[Pe,Ayn h];rfl
theorem Ap1(b:List UInt8):Tc b=some (Pe b G5||Pe b K1):=by
 obtain⟨q,hq⟩:∃q,Ax=q+3:=⟨Ax-3,by have:=As;omega⟩;have l3:Lh b (q+1) 2=some false:=by rw[Lh,Xr,Aau (by decide)];rfl
 have l2:Lh b (q+2) 1=some (Pe b K1):=by
  rw[Lh,Xr,Ab3 (by decide),show Ao ([([73,68,51]:LB),([65,80,69,84,65,71,69,88]:LB)]:List LB) 1=some K1 from rfl,Aa,show Ad (1:Int) 1=2 from rfl];by_cases h:b.length<K1.length
  ·rw[Ab3 (by rw[Ae,Ac,Ac];simp;omega),Ats b K1 h,Aa];by_cases hb:Pe b K1=true
   ·rw[Ab3 hb,hb]
   ·rw[Aau hb,l3];simpa using hb
  ·rw[Aau (by rw[Ae,Ac,Ac];simp;omega),l3,rX h]
 rw[Tc,TO,TT,hq,Lh,Xr,Ab3 (by decide),show Ao ([([73,68,51]:LB),([65,80,69,84,65,71,69,88]:LB)]:List LB) 0=some G5 from rfl,Aa,show Ad (0:Int) 1=1 from rfl];by_cases h:b.length<G5.length
 ·rw[Ab3 (by rw[Ae,Ac,Ac];simp;omega),Ats b G5 h,Aa];by_cases hb:Pe b G5=true
  ·rw[Ab3 hb,hb];rfl
  ·rw[Aau hb,l2,Bool.eq_false_iff.2 hb];rfl
 ·rw[Aau (by rw[Ae,Ac,Ac];simp;omega),l2,rX h];rfl
def stS(b:List UInt8):Int×Int×Int×Int×Int×Int×Int:=
 if(Bc b).2=24 then(0,0,0,0,0,0, -1)else if(Bc b).2≠0 then(0,0,0,0,0,0,(Bc b).2)else
 if(Pe (Gx b) G5||Pe (Gx b) K1)=true then(0,0,0,0,0,0, -1)else
 if(Dm (Gx b)).2.2.2.2.2=24 then(0,0,0,0,0,0, -1)else((Bc b).1+22,(Dm (Gx b)).1,(Dm (Gx b)).2.1,(Dm (Gx b)).2.2.1,(Dm (Gx b)).2.2.2.1,(Dm (Gx b)).2.2.2.2.1,(Dm (Gx b)).2.2.2.2.2)
theorem AK(b:List UInt8)(hb:b.length<=100000):AJ b=some (stS b):=by
 rw[AJ,FL,So b (by omega),Aa,stS];have hok:=Xs (b:=b);simp only;by_cases h1:(Bc b).2=24
 ·rw[Ab3 (by rw[Ar];simpa using h1),Ab3 h1]
 rw[Aau (by rw[Ar];simpa using h1),Aau h1];by_cases h2:(Bc b).2≠0
 ·rw[Ab3 (by rw[Ag];simpa using h2),Ab3 h2]
 have h0:(Bc b).2=0:=by simpa using h2
 obtain⟨k1,k2,k3⟩:=hok h0;rw[Aau (by rw[Ag,h0];simp),Aau h2,Bl,Aa,xn,Aa,show b.drop (Bc b).1.toNat=Gx b from rfl,show([73,68,51]:LB)=G5 from rfl,show([65,80,69,84,65,71,69,88]:LB)=K1 from rfl];by_cases h3:Pe (Gx b) G5=true
 ·rw[Ab3 h3,h3,Bool.true_or,Ab3 rfl]
 rw[Aau h3,xn,Aa,Bool.eq_false_iff.2 h3,Bool.false_or];by_cases h4:Pe (Gx b) K1=true
 ·rw[Ab3 h4,Ab3 h4]
 have hl:(Gx b).length<=b.length:=by rw[Gx,Agy];omega
 rw[Aau h4,Aau h4,GB,GG,RG _ (by omega),Aa];simp only;by_cases h5:(Dm (Gx b)).2.2.2.2.2=24
 ·rw[Ab3 (by rw[Ar];simpa using h5),Ab3 h5]
 ·rw[Aau (by rw[Ar];simpa using h5),Aau h5,Ak]
theorem On{p q:LB}{n:Nat}(h:n<=p.length):(p++q).take n=p.take n:=by rw[At4 h]
theorem yL{p q:LB}{i:Nat}(h:i<p.length):(p++q).getD i 0=p.getD i 0:=by
 rw[List.getD_eq_getElem?_getD,List.getElem?_append_left h,<-List.getD_eq_getElem?_getD]
theorem Sy{p q:LB}{a w:Nat}(h:a+w<=p.length:=by omega):part (p++q) a w=part p a w:=by rw[part,On h,part]
theorem Apq{p q s:LB}(h:Pe p s=false)(hl:p.length<s.length):(p++q).take s.length≠s:=by
 intro e;rw[Pe,Bbc hl,Bdj]at h;have h1:p=s.take p.length:=by
  have:=congrArg (List.take p.length) e;rw[Ayu,Apg (by omega),On (Am4 _),Ba9]at this;exact this
 rw[<-h1]at h;simp at h
theorem ry{p:LB}(q:LB)(h:(Na p).2≠24)(h6:Pe p G5=false):Na (p++q)=Na p:=by
 unfold Na at h⊢;by_cases h3:3<=p.length/\p.take 3=[73,68,51]
 ·have h3':3<= (p++q).length/\ (p++q).take 3=[73,68,51]:=⟨by rw[Aci];omega,by rw[On h3.1];exact h3.2⟩;have n1:¬ ¬(3<=p.length/\p.take 3=[73,68,51]):=λf=>f h3;have n2:¬ ¬(3<= (p++q).length/\ (p++q).take 3=[73,68,51]):=λf=>f h3';rw[Aau n1]at h;rw[Aau n1,Aau n2];by_cases h10:p.length<10
  ·rw[Ab3 h10]at h;exact absurd rfl h
  ·have h10':¬(p++q).length<10:=by rw[Aci];omega
   rw[Aau h10]at h;rw[Aau h10,Aau h10',Sy,yL (by omega),yL (by omega),yL (by omega)];split
   ·rfl
   ·rename_i hc;rw[Aau hc]at h;unfold xY US at h⊢;rw[yL (by omega)];generalize(aK (part p 6 4) 0).1+10+(if p.getD 5 0=16 then 10 else 0)=n at h⊢;by_cases c1:4000<n
    ·rw[Ab3 c1,Ab3 c1]
    ·rw[Aau c1]at h;rw[Aau c1,Aau c1];by_cases c2:(p.length:Int)<n
     ·rw[Ab3 c2]at h;exact absurd rfl h
     ·have c2':¬((p++q).length:Int)<n:=by rw[Aci];omega
      rw[Aau c2,Aau c2',On (by omega),Sy]
 ·rw[Ab3 h3,Ab3];rintro⟨_,h5⟩;by_cases hl:3<=p.length
  ·rw[On hl]at h5;exact h3 ⟨hl,h5⟩
  ·exact Apq h6 (by simp[G5];omega) h5
theorem Ais{p:LB}(q:LB)(h:(Ik p).2≠24)(h6:Pe p K1=false):Ik (p++q)=Ik p:=by
 unfold Ik at h⊢;by_cases h3:8<=p.length/\p.take 8=zA
 ·have h3':8<= (p++q).length/\ (p++q).take 8=zA:=⟨by rw[Aci];omega,by rw[On h3.1];exact h3.2⟩;have n1:¬ ¬(8<=p.length/\p.take 8=zA):=λf=>f h3;have n2:¬ ¬(8<= (p++q).length/\ (p++q).take 8=zA):=λf=>f h3';rw[Aau n1]at h;rw[Aau n1,Aau n2];by_cases h10:p.length<32
  ·rw[Ab3 h10]at h;exact absurd rfl h
  ·have h10':¬(p++q).length<32:=by rw[Aci];omega
   have eb:BC (p++q)=BC p:=by rw[BC,BC,Sy,Sy]
   rw[Aau h10]at h;rw[Aau h10,Aau h10',Sy,Sy,eb,On (n:=32) (by omega)];split
   ·rfl
   ·rename_i hc;rw[Aau hc]at h;by_cases c2:p.length<Df (part p 12 4)+32
    ·rw[Ab3 c2]at h;exact absurd rfl h
    ·have c2':¬(p++q).length<Df (part p 12 4)+32:=by rw[Aci];omega
     rw[Aau c2,Aau c2',On (by omega)]
 ·rw[Ab3 h3,Ab3];rintro⟨_,h5⟩;by_cases hl:8<=p.length
  ·rw[On hl]at h5;exact h3 ⟨hl,h5⟩
  ·exact Apq h6 (by simp[K1];omega) h5
theorem zF{p:LB}(q:LB)(h:(Ce p).2≠24)(h6:(Ce p).2=6->Pe p G5=false/\Pe p K1=false):Ce (p++q)=Ce p:=by
 have Ba4:∀s:LB,s.length<=p.length->Pe p s=false:=λs hs=>rX (by omega);unfold Ce at h h6⊢;by_cases hT:(Na p).2≠6
 ·rw[Ab3 hT]at h⊢;have h3:Pe p G5=false:=by
   refine Ba4 _ ?_;unfold Na at hT;by_cases h3:3<=p.length/\p.take 3=[73,68,51]
   ·simp[G5];omega
   ·rw[Ab3 h3]at hT;exact absurd rfl hT
  rw[ry q h h3,Ab3 hT]
 ·rw[Aau hT]at h h6⊢;have hb:Pe p G5=false/\Pe p K1=false:=by
   by_cases hA:(Ik p).2=6
   ·exact h6 hA
   ·unfold Ik at hA;by_cases h3:8<=p.length/\p.take 8=zA
    ·exact⟨Ba4 _ (by simp[G5];omega),Ba4 _ (by simp[K1];omega)⟩
    ·rw[Ab3 h3]at hA;exact absurd rfl hA
  have hT':¬(Na (p++q)).2≠6:=by
   rw[ry q (by simp only[ne_eq,Classical.not_not]at hT;rw[hT];decide) hb.1];exact hT
  rw[Aau hT',Ais q h hb.2]
theorem T4{p:LB}(q:LB):∀(j s j':Nat),s<=p.length->p.length-s<j->p.length+q.length-s<j'-> (Bp p j s).2≠24->
  ((Bp p j s).2=0->Pe (p.drop (s+(Bp p j s).1.sum.toNat)) G5=false/\Pe (p.drop (s+(Bp p j s).1.sum.toNat)) K1=false)->Bp (p++q) j' s=Bp p j s
 |0,s,j',_,hj,_,_,_=>absurd hj (Bc8 _)
 |j+1,s,0,_,_,hj,_,_=>absurd hj (Bc8 _)
 |j+1,s,j'+1,hs,hj,hj',h,hb=>by
  have ed:(p++q).drop s=p.drop s++q:=Bdy hs;rw[Bp]at h hb⊢;rw[Bp,ed];by_cases h6:(Ce (p.drop s)).2=6
  ·rw[Ab3 h6]at h hb⊢;have hb':=hb rfl;simp only[Bd3,Be3,Bcz]at hb';rw[zF q (by rw[h6];decide) (λ_=>hb'),Ab3 h6]
  ·rw[Aau h6]at h hb⊢;by_cases h0:(Ce (p.drop s)).2≠0
   ·rw[Ab3 h0]at h⊢;rw[zF q h (λe=>absurd e h6),Aau h6,Ab3 h0]
   ·rw[Aau h0]at h hb⊢;have h0':(Ce (p.drop s)).2=0:=by simpa using h0
    have e1:Ce (p.drop s++q)=Ce (p.drop s):=zF q (by rw[h0'];decide) (λe=>absurd e h6);rw[e1,Aau h6,Aau h0];have hok:=aB (b:=p.drop s) (n:=(Ce (p.drop s)).1) (by rw[<-h0']);rw[Agy]at hok;by_cases hm:4000<(s:Int)+(Ce (p.drop s)).1
    ·rw[Ab3 hm,Ab3 hm]
    ·rw[Aau hm]at h hb⊢;rw[Aau hm];have hl1:s+(Ce (p.drop s)).1.toNat<=p.length:=by omega
     have ih:=T4 (p:=p) q j (s+(Ce (p.drop s)).1.toNat) j' hl1 (by omega) (by omega);by_cases hr:(Bp p j (s+(Ce (p.drop s)).1.toNat)).2=0
     ·rw[Ab3 hr]at hb⊢;have hle1:s+(Ce (p.drop s)).1.toNat<=p.length:=by omega
      have hle2:s+(Ce (p.drop s)).1.toNat<=4000:=by omega
      have hi:=(VX p j (s+(Ce (p.drop s)).1.toNat) hle1 hle2 hr).1;have hsum:(0:Int)<= (Bp p j (s+(Ce (p.drop s)).1.toNat)).1.sum:=by
       have:∀l:List Int,(∀x∈l,10<=x)->0<=l.sum:=by
        intro l
        induction l with
        |nil=>intro _;simp
        |cons a l ih=>intro h;rw[Awb];have:=h a (by simp);have:=ih (λx hx=>h x (by simp[hx]));omega
       exact this _ hi
      rw[ih (by rw[hr];decide) (λ_=>by
       have:=hb rfl;simp only[Awb]at this;rw[show s+((Ce (p.drop s)).1+(Bp p j (s+(Ce (p.drop s)).1.toNat)).1.sum).toNat=s+(Ce (p.drop s)).1.toNat+(Bp p j (s+(Ce (p.drop s)).1.toNat)).1.sum.toNat by omega]at this;exact this),Ab3 hr]
     ·rw[Aau hr]at h⊢;rw[ih h (λe=>absurd e hr),Aau hr]
theorem Z1{p:LB}(q:LB)(h:(Bc p).2≠24)(hb:(Bc p).2=0->Pe (Gx p) G5=false/\Pe (Gx p) K1=false):Bc (p++q)=Bc p:=by
 have key:Bp (p++q) ((p++q).length+1) 0=Bp p (p.length+1) 0:=by
  refine T4 q (p.length+1) 0 ((p++q).length+1) (Nat.zero_le _) (by omega) (by rw[Aci];omega) ?_ ?_
  ·unfold Bc A7 at h;by_cases h0:(Bp p (p.length+1) 0).2=0
   ·rw[h0];decide
   ·rw[Aau h0]at h;exact h
  ·intro h0;have e:Bc p=(((0:Nat):Int)+(Bp p (p.length+1) 0).1.sum,0):=by unfold Bc A7;rw[Ab3 h0]
   have:=hb (by rw[e]);rw[Gx,e]at this;simpa using this
 unfold Bc A7;rw[key]
theorem Amp{p:LB}(q:LB)(h:(Dm p).2.2.2.2.2≠24):Dm (p++q)=Dm p:=by
 unfold Dm at h⊢;by_cases h1:p.take (min 4 p.length)≠Mt.take (min 4 p.length)
 ·have h1':(p++q).take (min 4 (p++q).length)≠Mt.take (min 4 (p++q).length):=by
   intro e;have hle:min 4 p.length<=min 4 (p++q).length:=by rw[Aci];omega
   have:=congrArg (List.take (min 4 p.length)) e;rw[Ayu,Ayu,Apg hle,On (by omega)]at this;exact h1 this
  rw[Ab3 h1,Ab3 h1']
 ·rw[Aau h1]at h;by_cases h2:p.length<22
  ·rw[Ab3 h2]at h;exact absurd rfl h
  ·have h2':¬(p++q).length<22:=by rw[Aci];omega
   have h1':¬(p++q).take (min 4 (p++q).length)≠Mt.take (min 4 (p++q).length):=by
    rw[Apg (by omega)]at h1⊢;rw[On (by omega)];exact h1
   have e0:f0 (p++q)=f0 p:=by unfold f0;rw[Sy]
   have e1:f1 (p++q)=f1 p:=by unfold f1;rw[Sy]
   have e2:f2 (p++q)=f2 p:=by unfold f2;rw[Sy]
   have e3:f3 (p++q)=f3 p:=by unfold f3;rw[Sy]
   have e4:f4 (p++q)=f4 p:=by unfold f4;rw[Sy]
   rw[Aau h1,Aau h1',Aau h2,Aau h2',e0,e1,e2,e3,e4,On (by omega),Sy]
theorem Avg{p:LB}(q:LB)(h:(stS p).2.2.2.2.2.2≠ -1):stS (p++q)=stS p:=by
 unfold stS at h⊢;by_cases h1:(Bc p).2=24
 ·rw[Ab3 h1]at h;exact absurd rfl h
 rw[Aau h1]at h;by_cases h2:(Bc p).2≠0
 ·rw[Z1 q h1 (λe=>absurd e h2),Aau h1,Ab3 h2,Aau h1,Ab3 h2]
 rw[Aau h2]at h;have h0:(Bc p).2=0:=by simpa using h2
 by_cases h3:(Pe (Gx p) G5||Pe (Gx p) K1)=true
 ·rw[Ab3 h3]at h;exact absurd rfl h
 rw[Aau h3]at h;have h3f:Pe (Gx p) G5=false/\Pe (Gx p) K1=false:=by
  simp only[Bool.not_eq_true,Bfj]at h3;exact h3
 have eF:=Z1 q h1 (λ_=>h3f);obtain⟨k1,k2,k3⟩:=Xs h0;have eH:Gx (p++q)=Gx p++q:=by rw[Gx,eF,Gx,Bdy (by omega)]
 by_cases h5:(Dm (Gx p)).2.2.2.2.2=24
 ·rw[Ab3 h5]at h;exact absurd rfl h
 have eR:Dm (Gx p++q)=Dm (Gx p):=Amp q h5;have beg:∀s:LB,Pe (Gx p) s=false-> (s=G5\/s=K1)->Pe (Gx p++q) s=false:=by
  intro s hs hk;by_cases hl:(Gx p++q).length<s.length
  ·have hp:(Gx p).length<s.length:=by rw[Aci]at hl;omega
   rw[Pe,Bbc hp,Bdj]at hs;rw[Pe,Bbc hl,Bdj];refine beq_eq_false_iff_ne.2 λe=>?_;have:=congrArg (List.take (Gx p).length) e;rw[On (Am4 _),Ba9,Ayu,Apg (by rw[Aci];omega)]at this;rw[<-this]at hs;simp at hs
  ·exact rX hl
 rw[eF,eH,eR,Aau h1,Aau h2,beg _ h3f.1 (.inl rfl),beg _ h3f.2 (.inr rfl),Aau (by decide),Aau h5,Aau h1,Aau h2,Aau h3]
theorem Anf{p:LB}(q:LB)(n:Nat)(h:(Ds p n).2≠24):Ds (p++q) n=Ds p n:=by
 unfold Ds at h⊢;by_cases h1:1<=n/\n<=1000
 ·have n1:¬ ¬(1<=n/\n<=1000):=λf=>f h1;rw[Aau n1]at h;rw[Aau n1,Aau n1];by_cases h2:p.length<4*n+4
  ·rw[Ab3 h2]at h;exact absurd rfl h
  ·have h2':¬(p++q).length<4*n+4:=by rw[Aci];omega
   have et:RW (p++q) n=RW p n:=by
    unfold RW;refine Bft λi hi=>?_;rw[List.mem_range]at hi;rw[Sy]
   rw[Aau h2,Aau h2',On (by omega),Sy,et]
 ·rw[Ab3 h1,Ab3 h1]
def Ai5(g a:LB)(k p o u v:Int)(f:LI)(b:Int)(h:LB)(m:Bool)(n:Int):Option Int:=
if(geq k 0)then
(Ir a).bind λ(al,ba)=>
if(geq ba 24)then
Fo true 0
else
if(Be ba 0)then
(Al ba).bind λ(bx,bz)=>
Fo bx bz
else
(Bm a al (Ac a)).bind λda=>
(Tc da).bind λan=>
if an then
Fo true 0
else
(Bm a al (Ac a)).bind λdb=>
(Lk db).bind λ(ae,af,aa,ag,ab,bb)=>
if(geq bb 24)then
Fo true 0
else
if(Be bb 0)then
(Al bb).bind λ(dc,dd)=>
Fo dc dd
else
(
(Bm a (Ad al 22) (Ac a)).bind λak=>
(
Zb g ak ae af aa ag ab b m n f h))
else
if(geq (Ac f) 0)then
if(geq k 2)then
if(Cj (Ac a) 8)then
Kl true 0
else
Zk g a k p o u v b m n f h
else
Ku g a k p o u v b m n f h 0
else
if(Cj b (Ac f))then
(Ao f b).bind λ_=>
(Ao f b).bind λw=>
if(Cj (Ac a) w)then
It true 0
else
(Qe g).bind λ(ap,am)=>
if(Be am 0)then
(Al am).bind λ(de,df)=>
It de df
else
(Dl k p o u v).bind λ(ad,dg)=>
if((Be dg 0)||(Nj b (Ac ad)))then
(Al 8).bind λ(dh,di)=>
It dh di
else
Yy w g a k p o u v b m n ap ad f h
else
if(Ex (Ac a) 4000)then
(Al 38).bind λ(dj,bf)=>
Cb ((dj==true)&&((geq bf 0)&&true))
else
Zf
theorem uQ(d:Bool)(e:Int):Fo d e=Cb (d&&geq e 0):=by
 rw[Fo,HM];cases d<;>simp
theorem U2(d:Bool)(e:Int):Kl d e=Cb (d&&geq e 0):=by
 rw[Kl,KP];cases d<;>simp
theorem Ai0(d:Bool)(e:Int):It d e=Cb (d&&geq e 0):=by
 rw[It,JQ];cases d<;>simp
theorem rp4{o p:LB}{f c w r n:Int}{g:LI}{a:Int}{x:LB}{u:Bool}{v:Int}{t1 t2:LB}{t3 t4 t5 t6 t7:Int}{t8:LI}{t9:Int}{t10:LB}{t11:Bool}{t12 e:Int}
  (h:Aj o p f c w r n g a x u v=some (t1,t2,t3,t4,t5,t6,t7,t8,t9,t10,t11,t12,e)):Cv o p f c w r n g a x u v=some (geq e (-1)):=by
 rw[Cv,Yu,h,Aa]
theorem jG{e:Int}(h:0<=e):geq e (-1)=false:=by rw[Ar,beq_eq_false_iff_ne];omega
theorem Am8(o p:LB)(c w r n:Int)(g:LI)(a:Int)(x:LB)(u:Bool)(v:Int)(hp:p.length<=100000):
  ∃B:Bool,Ai5 o p 0 c w r n g a x u v=Cb B/\Cv o p 0 c w r n g a x u v=some B:=by
 have hT:Aj o p 0 c w r n g a x u v=Aj o p 0 c w r n g a x u v:=rfl
 conv at hT=>rhs;rw[Aj,Bo,Ab3 (by decide),AK p hp,Aa,stS]
 have hfn:=D2 p;have hrn:=T9 (Gx p);rw[Ai5,Ab3 (by decide),Eb p (by omega),Aa];have hok:=Xs (b:=p);simp only at hT⊢;by_cases h1:(Bc p).2=24
 ·rw[Ab3 h1]at hT;simp only at hT;rw[Ab3 (by decide)]at hT;rw[Ab3 (by rw[Ar];simpa using h1),uQ];exact⟨_,rfl,rp4 hT⟩
 rw[Aau h1]at hT;rw[Aau (by rw[Ar];simpa using h1)];by_cases h2:(Bc p).2≠0
 ·rw[Ab3 h2]at hT;simp only at hT;rw[Ab3 (by rw[Ag];simpa using h2)]at hT;rw[Ab3 (by rw[Ag];simpa using h2),Al,Aa];simp only;rw[uQ];exact⟨_,rfl,(rp4 hT).trans (by rw[jG hfn];rfl)⟩
 have h0:(Bc p).2=0:=by simpa using h2
 obtain⟨k1,k2,k3⟩:=hok h0;have hl:(Gx p).length=p.length-(Bc p).1.toNat:=by rw[Gx,Agy]
 rw[Aau h2]at hT;rw[Aau (by rw[Ag,h0];simp),Bl,Aa,Aa,show p.drop (Bc p).1.toNat=Gx p from rfl,Ap1,Aa];by_cases h3:(Pe (Gx p) G5||Pe (Gx p) K1)=true
 ·rw[Ab3 h3]at hT⊢;simp only at hT;rw[Ab3 (by decide)]at hT;rw[uQ];exact⟨_,rfl,rp4 hT⟩
 rw[Aau h3]at hT⊢;rw[Mj _ (by omega),Aa];by_cases h5:(Dm (Gx p)).2.2.2.2.2=24
 ·rw[Ab3 h5]at hT;simp only at hT;rw[Ab3 (by decide)]at hT;rw[Ab3 (by rw[Ar];simpa using h5),uQ];exact⟨_,rfl,rp4 hT⟩
 rw[Aau h5]at hT;rw[Aau (by rw[Ar];simpa using h5)];simp only at hT;by_cases h6:(Dm (Gx p)).2.2.2.2.2≠0
 ·rw[Ab3 (by rw[Ag];simpa using h6)]at hT⊢;rw[Al,Aa];simp only;rw[uQ];exact⟨_,rfl,(rp4 hT).trans (by rw[jG hrn];rfl)⟩
 have h7:(Dm (Gx p)).2.2.2.2.2=0:=by simpa using h6
 have h22:=(RM h7).2.1;rw[Aau (by rw[Ag,h7];simp),Bl,Aa,Hl,He,Es]at hT;rw[Aau (by rw[Ag,h7];simp),Ak,Bl,Aa,Zb,KQ,Qs];simp only;by_cases h8:((o==([]:LB)) !=geq (Dm (Gx p)).1 1)=true
 ·rw[Ab3 h8]at hT⊢;rw[Aa]at hT⊢;rw[Al,Aa];simp only;rw[uQ];exact⟨_,rfl,rp4 hT⟩
 ·rw[Aau h8]at hT⊢;rw[Aa]at hT⊢;rw[Al,Aa];simp only;rw[uQ];exact⟨_,rfl,rp4 hT⟩
section
variable {f c w r n:Int} {F C W R N:Nat} (hd:HdI f c w r n F C W R N)
include hd
theorem HdI.ne0:¬(geq f 0=true):=by
 have:=hd.num;rw[Ar,Aug,hd.ef];omega
theorem D6(o p:LB)(hp:p.length<=100000)(A:Nat)(hA:A<=p.length)(a:Int)(x:LB)(u:Bool)(v:Int):
  (Ku o p f c w r n a u v [] x (A:Int)=Cb (decide ((Ds (p.drop A) (Ah (Am R) N).length).2=24)))/\
  Du p f c w r n (A:Int)=some (if(Ds (p.drop A) (Ah (Am R) N).length).2=24 then(0,[], -1)else((A:Int)+(4*((Ds (p.drop A) (Ah (Am R) N).length).1.length:Int)+4),(Ds (p.drop A) (Ah (Am R) N).length).1,(Ds (p.drop A) (Ah (Am R) N).length).2))/\
  ((Ds (p.drop A) (Ah (Am R) N).length).2=0-> (A:Int)+(4*((Ds (p.drop A) (Ah (Am R) N).length).1.length:Int)+4)<=p.length):=by
 have hs:=rW (p.drop A) (Ah (Am R) N).length (by rw[Agy];omega);have hr:=O7 (p.drop A) (Ah (Am R) N).length (by rw[Agy];omega);have hok:=gC (b:=p.drop A) (n:=(Ah (Am R) N).length);have hlen:(Ds (p.drop A) (Ah (Am R) N).length).1.length<=1000:=by
  unfold Ds
  repeat' split
  all_goals simp[Uu]
  all_goals omega
 have hfit:(Ds (p.drop A) (Ah (Am R) N).length).2=0-> (A:Int)+(4*((Ds (p.drop A) (Ah (Am R) N).length).1.length:Int)+4)<=p.length:=by
  intro h0;obtain⟨k1,k2,k3,k4,_⟩:=hok h0;rw[k1];simp only[Uu];rw[Agy]at k4;omega
 refine⟨?_,?_,hfit⟩
 ·rw[Ku,HO,hd.zS,Aa];simp only;rw[Aau (by decide),Bl,Aa,Ae3,Ac,hs,Aa];generalize Ds (p.drop A) (Ah (Am R) N).length=z at*
  obtain⟨z1,z2⟩:=z;simp only at*
  by_cases h1:z2=24
  ·rw[Ab3 (by rw[Ar];simpa using h1),U2,Bbc h1];rfl
  rw[Aau (by rw[Ar];simpa using h1),Ayn h1];by_cases h2:z2≠0
  ·rw[Ab3 (by rw[Ag];simpa using h2),Al,Aa];simp only;rw[U2];rfl
  ·have h0:z2=0:=by simpa using h2
   have:=hfit h0;rw[Aau (by rw[Ag,h0];simp),Ac,kz A z1.length (by omega) (by omega),Bl,Aa,U2];rfl
 ·rw[Du,ID,Bl,Aa,hd.Aaq,Aa,Ac,Ae3,hr,Aa];generalize Ds (p.drop A) (Ah (Am R) N).length=z at*
  obtain⟨z1,z2⟩:=z;simp only at*
  rw[LN,HJ];by_cases h1:z2=24
  ·rw[Ab3 (by rw[Ar];simpa using h1),Ab3 h1]
  ·rw[Aau (by rw[Ar];simpa using h1),Aau h1,Ac,kz A z1.length (by omega) (by omega)];congr 2
theorem Avp(o p:LB)(ho:o.length<=64)(hp:p.length<=100000)(a:Int)(x:LB)(u:Bool)(v:Int):
  ∃B:Bool,Ai5 o p f c w r n [] a x u v=Cb B/\Cv o p f c w r n [] a x u v=some B:=by
 have hT:Aj o p f c w r n [] a x u v=Aj o p f c w r n [] a x u v:=rfl
 conv at hT=>rhs;rw[Aj,Bo,Aau hd.ne0,By,Bz,Ab3 (by decide),Fc,Ia]
 rw[Ai5,Aau hd.ne0,Ab3 (by decide)];have fin:∀A:Nat,A<=p.length->Aj o p f c w r n [] a x u v=(Du p f c w r n (A:Int)).bind (λ(ag,ak,w1)=>
   if(Be w1 0)then some (o,p,f,c,w,r,n,[],a,x,u,v,w1)else(Bm p ag (Ac p)).bind λal=>some (o,al,f,c,w,r,n,ak,a,x,u,v,0))->
   ∃B:Bool,Ku o p f c w r n a u v [] x (A:Int)=Cb B/\Cv o p f c w r n [] a x u v=some B:=by
  intro A hA hT;obtain⟨t1,t2,t3⟩:=D6 hd o p hp A hA a x u v;have hnn:=Y7 (p.drop A) (Ah (Am R) N).length;rw[t2,Aa]at hT;rw[t1];generalize Ds (p.drop A) (Ah (Am R) N).length=z at*
  obtain⟨z1,z2⟩:=z;simp only at*
  by_cases h1:z2=24
  ·rw[Ab3 h1]at hT;simp only at hT;rw[Ab3 (by decide)]at hT;exact⟨_,rfl,(rp4 hT).trans (by rw[Bbc h1];rfl)⟩
  rw[Aau h1]at hT;simp only at hT;by_cases h2:z2≠0
  ·rw[Ab3 (by rw[Ag];simpa using h2)]at hT;exact⟨_,rfl,(rp4 hT).trans (by rw[Ayn h1,jG hnn])⟩
  ·have h0:z2=0:=by simpa using h2
   have:=t3 h0;rw[Aau (by rw[Ag,h0];simp),Bl,Aa]at hT;exact⟨_,rfl,(rp4 hT).trans (by rw[Ayn h1];rfl)⟩
 by_cases h2:geq f 2=true
 ·rw[Ab3 h2]at hT⊢;by_cases h8:p.length<8
  ·rw[Ab3 (by rw[Ae,Ac];simp;omega)]at hT⊢;rw[Aa]at hT;simp only at hT;rw[Ab3 (by decide)]at hT;rw[U2];exact⟨_,rfl,rp4 hT⟩
  ·rw[Aau (by rw[Ae,Ac];simp;omega)]at hT⊢;have h8':(p.take 8).length=8:=by rw[Afa];omega
   rw[Dg,Aa,VU o ho,Aa]at hT;rw[Zk,JF,Dg,Aa,show(8:Int).toNat=8 from rfl,YG h8' ho,Aa];rw[show(8:Int).toNat=8 from rfl]at hT;simp only;rw[JR,LM,Aau (by decide)];by_cases he:(p.take 8==Rc (Rp o).toNat 8)=true
   ·rw[Aau (by rw[bne,he];decide)]at hT;rw[Aau (by rw[he];decide)];exact fin 8 (by omega) hT
   ·have he':(p.take 8==Rc (Rp o).toNat 8)=false:=by simpa using he
    rw[Ab3 (by rw[bne,he'];decide),Aa]at hT;simp only at hT;rw[Ab3 (by decide)]at hT;rw[Ab3 (by rw[he'];decide),Al,Aa];simp only;rw[U2];exact⟨_,rfl,rp4 hT⟩
 ·rw[Aau h2]at hT⊢;exact fin 0 (by omega) hT
end
theorem Ang{f c w r n:Int}{F C W R N:Nat}(hd:HdI f c w r n F C W R N)(o p:LB)(ho:o.length<=64)(hp:p.length<=100000)(g:LI)(hg:Ru g=true)(hl:g.length=(Ah (Am R) N).length)(A:Nat)(hA:A<=g.length)(x:LB)(hx:x.length<=14000000)(u:Bool)(v:Int):
  ∃B:Bool,Ai5 o p f c w r n g (A:Int) x u v=Cb B/\Cv o p f c w r n g (A:Int) x u v=some B:=by
 have hc:=hd.ec;subst hc;have hg':=hg;rw[Ru,Acl,Acj,BN g 100000 (by omega)]at hg';obtain⟨⟨g1,g2⟩,g5,g6⟩:=hg';have hT:Aj o p f (C:Int) w r n g (A:Int) x u v=Aj o p f (C:Int) w r n g (A:Int) x u v:=rfl
 conv at hT=>rhs;rw[Aj,Bo,Aau hd.ne0,By,Bz,Aau (by rw[Ar,Ac];simp;intro e;subst e;simp at g1)]
 rw[Ai5,Aau hd.ne0,Aau (by rw[Ar,Ac];simp;intro e;subst e;simp at g1)];by_cases hA2:A=g.length
 ·subst hA2;rw[Ab3 (by rw[Ar,Ac];simp)]at hT;rw[Aau (by rw[Ae,Ac];simp)];by_cases h4:4000<p.length
  ·rw[Ab3 (by rw[Aq,Ac];simp;omega)]at hT⊢;rw[Al,Aa];simp only;exact⟨_,rfl,rp4 hT⟩
  ·rw[Aau (by rw[Aq,Ac];simp;omega)]at hT⊢;rw[Zf,HG];exact⟨_,rfl,rp4 hT⟩
 ·have hlt:A<g.length:=by omega
  have h5:=g5 g[A] (Ams hlt);have hsum:=vB g5 g[A] (Ams hlt);rw[Aau (by rw[Ar,Ac];simp;omega),Dj,El,Bn hlt,Aa]at hT;rw[Ab3 (by rw[Ae,Ac];simp;omega),Bn hlt,Aa,Aa];by_cases hw:(p.length:Int)<g[A]
  ·rw[Ab3 (by rw[Ae,Ac];simpa using hw)]at hT⊢;rw[Aa]at hT;simp only at hT;rw[Ab3 (by decide)]at hT;rw[Ai0];exact⟨_,rfl,rp4 hT⟩
  rw[Aau (by rw[Ae,Ac];simpa using hw)]at hT⊢;have DR:=hd.num;have hlt2:A<(Ah (Am R) N).length:=by omega
  obtain⟨m,hm,m1,m2⟩:=Ti (Fe R) DR.2.2.2.2.1 (Ams hlt2);have hb:Bu w:=by rw[hd.ew];unfold Bu;omega
  obtain⟨xs,e,d1,d2,d3,d4⟩:=Wd (bits:=w) (ch:=C) (n:=m) (t:=Pk o) (p.take g[A].toNat) hb (Kj o) DR.2.1.1 DR.2.1.2 m1 (by omega);have hnn:=rA hb (Kj o) DR.2.1.1 DR.2.1.2 m1 (by omega) d2;rw[gD o ho,Aa];simp only;rw[Aau (by decide),hd.zS,Aa];simp only;rw[Aau (by simp[Ag,Dy,Ac];omega),Yy,HF,Bn hlt2,Aa,Dg,Aa,Aa,DG,Aa];simp only;rw[hm,d1,Aa];simp only;rw[JS o ho,Aa]at hT;simp only at hT;rw[Dg,Aa,Fy,Aa]at hT;simp only at hT;rw[hd.Aaq,Aa,Bn hlt2,Aa,Aa,hm]at hT;rw[d2,Aa]at hT;simp only at hT;rw[Em,Ej]at hT;rw[HB,Zd];by_cases he:e≠0
  ·rw[Ab3 (by rw[Ag];simpa using he)]at hT⊢;rw[Aa]at hT;simp only at hT;rw[Ab3 (by rw[Ag];simpa using he)]at hT;rw[Al,Aa];simp only;rw[Ai0];exact⟨_,rfl,(rp4 hT).trans (by rw[jG hnn];rfl)⟩
  ·have he0:e=0:=by simpa using he
   obtain⟨k1,k2,k3⟩:=d3 he0;have hbl:=OC w xs;rw[Aau (by rw[Ag,he0];simp)]at hT⊢;rw[FU hb k2 k1,Aa,Aa]at hT;simp only at hT;rw[Aau (by decide),Bw (by simp;omega),Aa,Auc,Bw,Aa,Aa,Bl,Aa]at hT;rw[ND hb k2 k1,Aa];simp only;rw[Aau (by decide),Bw,Aa,Bl,Aa,Ai0];exact⟨_,rfl,rp4 hT⟩
theorem Agm(a:LI)(b:Int)(ha:a.length<=100):∀(j i q:Nat),i+j=a.length->j<q->∃r,Ch a b q (i:Int)=some r/\Nj r 0=(a.drop i).any λy=>b==y
 |0,i,q+1,hi,_=>by
  refine⟨-1,?_,?_⟩
  ·rw[Ch,Fl,Aau (by rw[Ae,Ac];simp;omega)];rfl
  ·rw[show i=a.length by omega,Bdz];rfl
 |j+1,i,q+1,hi,hq=>by
  have hlt:i<a.length:=by omega
  obtain⟨r,h1,h2⟩:=Agm a b ha j (i+1) q (by omega) (by omega);rw[Ch,Fl,Ab3 (by rw[Ae,Ac];simp;omega),Bn hlt,Aa,drop_cons hlt,List.any_cons];by_cases h:b=a[i]
  ·rw[Ab3 (by rw[Ar];simpa using h)];refine⟨_,rfl,?_⟩;rw[Dy,Bbc (by omega),h];simp
  ·rw[Aau (by rw[Ar];simpa using h),Ak];refine⟨r,h1,?_⟩;rw[h2,beq_eq_false_iff_ne.2 h,Bool.false_or]
theorem Aqy(v:Int):∃B:Bool,Tp v=some B/\AW v=some B:=by
 obtain⟨r,h1,h2⟩:=Agm [4,12,16,22,24,26,38] v (by decide) 7 0 Ax rfl (by have:=As;omega);refine⟨_,?_,rfl⟩;rw[Tp,Iv,Ka,Jb,Jc];have h1':Ch [4,12,16,22,24,26,38] v Ax 0=some r:=h1;rw[h1',Aa,Aa,h2];simp only[Bcs,List.any_cons,List.any_nil,Bool.or_false,Ar,Bool.or_assoc]
theorem vO(B:Bool):Cb B=some (if B=true then 0 else 8):=by
 rw[Cb,bO];cases B<;>rfl
theorem Axa(a b:LB)(f g h k m:Int)(n:LI)(o:Int)(p:LB)(u:Bool)(v:Int)(hb:b.length<=16000000)(hn:n.length<=16000000)(hp:p.length<=16000000):
  Ek a b f g h k m n o p u v=some (a,b,f,g,h,k,m,n,o,p,u,v):=by
 rw[Ek,Is,Bw (by simp;omega),Aa,Aa,Is,Bw (by simp;omega),Aa,Aa,Hn,Bw (by simp;omega),Aa,Aa];rfl
theorem lq(o p:LB)(f c w r n:Int)(g:LI)(a:Int)(x:LB)(u:Bool)(v:Int)(hp:p.length<=100000)(hg:g.length<=100000)(hx:x.length<=14000000):
  ∃E,Pu o p f c w r n g a x u v=some E/\Ea o p f c w r n g a x u v=some E:=by
 rw[Pu,BQ,Ea];by_cases ho:64<o.length
 ·rw[Ab3 (by rw[Aq,Ac];simp;omega),Ab3 (by rw[Aq,Ac];simp;omega)];exact⟨8,rfl,rfl⟩
 have hO:¬(Ex (Ac o) 64=true):=by rw[Aq,Ac];simp;omega
 rw[Aau hO,Aau hO];by_cases hw:(geq v 0&& !u)=true
 ·rw[Ab3 hw,Ab3 hw,Axa o p f c w r n g a x u v (by omega) (by omega) (by omega),Aa];simp only;rcases Air o p f c w r n g a x u v with⟨e1,e2⟩|⟨e1,e2,hd⟩
  ·rw[e1,e2,Aa,Aa,Aau (by decide),Ab3 (by decide),vO];exact⟨8,rfl,rfl⟩
  ·rw[e1,e2,Aa,Ab3 rfl];have key:∃B:Bool,Ai5 o p f c w r n g a x u v=Cb B/\Cv o p f c w r n g a x u v=some B:=by
    cases hd with
    |new e1 e2 e3 e4 e5 e6 e7 e8=>subst e1;exact Am8 o p c w r n g a x u v hp
    |head F C W R N h hpw e6 e7 e8=>subst e6;exact Avp h o p (by omega) hp a x u v
    |tab F C W R N A h hpw ht hl ea hA=>subst ea;exact Ang h o p (by omega) hp g ht hl A hA x hx u v
   obtain⟨B,k1,k2⟩:=key;rw[k2,Aa];refine⟨if B=true then 0 else 8,k1.trans (vO B),?_⟩;cases B<;>rfl
 ·rw[Aau hw,Aau hw];by_cases hl:(geq (Ac p) 0&&geq (Ac g) 0)=true
  ·rw[Ab3 hl,Ab3 hl];generalize(geq f 0&&(geq c 0&&(geq w 0&&(geq r 0&&(geq n 0&&true)))))=z;by_cases hz:((z&&geq a 0)&&oz (Ac x) 12000)=true
   ·rw[Ab3 hz];simp only[Acl,lS,Ac,Acj]at hz;obtain⟨⟨z1,z2⟩,z3⟩:=hz;have hN:¬((!(z&&geq a 0)||Ex (Ac x) 12000)=true):=by rw[z1,z2,Aq,Ac];simp;omega
    rw[Aau hN];by_cases hv:v=0
    ·have v1:geq v 0=true:=by rw[Ar];simpa using hv
     have v2:¬(Be v 0=true):=by rw[Ag];simpa using hv
     rw[Ab3 v1,Aau v2,vO];exact⟨0,rfl,rfl⟩
    ·have v1:¬(geq v 0=true):=by rw[Ar];simpa using hv
     have v2:Be v 0=true:=by rw[Ag];simpa using hv
     rw[Aau v1,Ab3 v2];obtain⟨B,k1,k2⟩:=Aqy v;rw[k1,k2,Aa,Aa,vO,vO];cases u
     ·refine⟨if B=true then 0 else 8,by simp,?_⟩;cases B<;>rfl
     ·exact⟨8,rfl,rfl⟩
   ·rw[Aau hz,Ab3,vO]
    ·exact⟨8,rfl,rfl⟩
    ·simp only[Acl,lS,Ac,Acj]at hz;simp only[Azv,Azo,Aq,Ac,Acj];by_cases hz2:(z&&geq a 0)=true
     ·rw[Acl]at hz2;exact .inr (by have hq:¬((x.length:Int)<=12000):=λh=>hz ⟨hz2,h⟩;omega)
     ·exact .inl (by simpa using hz2)
  ·rw[Aau hl,Aau hl,Aau (by simp),Ab3 (by simp),vO];exact⟨8,rfl,rfl⟩
def YL(bk:LB->Int->Int->Int->Int->Int->Int->LI->LB->Au)(o:LB)(u:Bool)(v:Int):LB->Int->Int->Int->Int->Int->Int->LI->LB->Au:=
 Jp (Px bk o u v) (Wa bk o u v) (Mg bk o u v) (Vr bk o u v) (Ml bk o u v) (Qc bk o u v) (Ux bk o u v) (Cq bk o u v) (BP bk o u v) o u v
structure SzD (p:LB) (g:LI) (a:Int) (x:LB):Prop where
 hp:p.length<=100000
 hg:g.length<=1000
 hx:x.length+12000*(g.length-a.toNat)<=13000000
def muD(f:Int)(g:LI)(a:Int):Nat:=if f=0 then 1003 else if g=[]then 1002 else g.length-a.toNat+1
section
variable {bk:LB->Int->Int->Int->Int->Int->Int->LI->LB->Au} {o p:LB} {f c w r n:Int} {g:LI} {a:Int} {x:LB} {u:Bool} {v:Int}
theorem Arc(hp:p.length<=100000)(hg:g.length<=1000)(hx:x.length<=13000000):Ek o p f c w r n g a x u v=some (o,p,f,c,w,r,n,g,a,x,u,v):=by
 rw[Ek,Is,Bw (by simp;omega),Aa,Aa,Is,Bw (by simp;omega),Aa,Aa,Hn,Bw (by simp;omega),Aa,Aa];rfl
theorem Bb3(h:SzD p g a x)(e:Int):Cq bk o u v p f c w r n a true e g x=some (o,p,f,c,w,r,n,g,a,x,u,v,0):=by
 rw[Cq,OJ,Ab3 rfl,Arc h.hp h.hg (by have:=h.hx;omega),Aa]
theorem Bbg{e:Int}(h:e≠0):Cq bk o u v p f c w r n a false e g x=some (o,[],0,0,0,0,0,[],0,x,false,e,e):=by
 rw[Cq,OJ,Aau (by decide),Ab3 (by rw[Ag];simpa using h)];rfl
inductive StepR (bk:LB->Int->Int->Int->Int->Int->Int->LI->LB->Au) (o p:LB) (f c w r n:Int) (g:LI) (a:Int) (x:LB) (u:Bool) (v:Int):Prop
 |wait:YL bk o u v p f c w r n a g x=some (o,p,f,c,w,r,n,g,a,x,u,v,0)->Aj o p f c w r n g a x u v=some (o,p,f,c,w,r,n,g,a,x,u,v, -1)->StepR bk o p f c w r n g a x u v
 |err (e:Int) {t1 t2:LB} {t3 t4 t5 t6 t7:Int} {t8:LI} {t9:Int} {t10:LB} {t11:Bool} {t12:Int}:0<e->YL bk o u v p f c w r n a g x=some (o,[],0,0,0,0,0,[],0,x,false,e,e)->
   Aj o p f c w r n g a x u v=some (t1,t2,t3,t4,t5,t6,t7,t8,t9,t10,t11,t12,e)->StepR bk o p f c w r n g a x u v
 |next (p':LB) (f' c' w' r' n':Int) (g':LI) (a':Int) (x':LB):YL bk o u v p f c w r n a g x=bk p' f' c' w' r' n' a' g' x'->Aj o p f c w r n g a x u v=some (o,p',f',c',w',r',n',g',a',x',u,v,0)->
   FitD o f' c' w' r' n' g' a' x'->SzD p' g' a' x'->p'.length<=p.length->muD f' g' a'<muD f g a->StepR bk o p f c w r n g a x u v
theorem f62{d:Bool}{e:Int}:Px bk o u v a g x d e p f c w r n=Cq bk o u v p f c w r n a d e g x:=rfl
theorem f75{d:Bool}{e:Int}:Mg bk o u v f c w r n a x d e p g=Cq bk o u v p f c w r n a d e g x:=rfl
theorem f78{d:Bool}{e:Int}:Qc bk o u v f c w r n g d e p a x=Cq bk o u v p f c w r n a d e g x:=rfl
theorem mkW(hZ:SzD p g a x)(hF:YL bk o u v p f c w r n a g x=Cq bk o u v p f c w r n a true 0 g x)(hT:Aj o p f c w r n g a x u v=some (o,p,f,c,w,r,n,g,a,x,u,v, -1)):StepR bk o p f c w r n g a x u v:=
 .wait (hF.trans (Bb3 hZ 0)) hT
theorem mkE{e:Int}{p2:LB}{f2 c2 w2 r2 n2 a2:Int}{g2:LI}{t1 t2:LB}{t3 t4 t5 t6 t7:Int}{t8:LI}{t9:Int}{t10:LB}{t11:Bool}{t12:Int}(he:0<e)(hF:YL bk o u v p f c w r n a g x=Cq bk o u v p2 f2 c2 w2 r2 n2 a2 false e g2 x)
  (hT:Aj o p f c w r n g a x u v=some (t1,t2,t3,t4,t5,t6,t7,t8,t9,t10,t11,t12,e)):StepR bk o p f c w r n g a x u v:= .err e he (hF.trans (Bbg (by omega))) hT
theorem HdI.fnz{F C W R N:Nat}(h:HdI f c w r n F C W R N):f≠0:=by
 have:=h.num;rw[h.ef];omega
theorem Aq7(hp:p.length<=100000):StepR bk o p 0 0 0 0 0 [] 0 [] u v:=by
 have hZ:SzD p [] 0 []:=⟨hp,by simp,by simp⟩;have hT:Aj o p 0 0 0 0 0 [] 0 [] u v=Aj o p 0 0 0 0 0 [] 0 [] u v:=rfl
 conv at hT=>rhs;rw[Aj,Bo,Ab3 (by decide),AK p hp,Aa,stS]
 have hF:YL bk o u v p 0 0 0 0 0 0 [] []=YL bk o u v p 0 0 0 0 0 0 [] []:=rfl
 conv at hF=>rhs;rw[YL,Jp,Ab3 (by decide),Eb p (by omega),Aa]
 have hfn:=D2 p;have hrn:=T9 (Gx p);have hok:=Xs (b:=p);simp only at hT hF;by_cases h1:(Bc p).2=24
 ·rw[Ab3 h1]at hT;simp only at hT;rw[Ab3 (by decide)]at hT;rw[Ab3 (by rw[Ar];simpa using h1)]at hF;exact mkW hZ hF hT
 rw[Aau h1]at hT;rw[Aau (by rw[Ar];simpa using h1)]at hF;by_cases h2:(Bc p).2≠0
 ·rw[Ab3 h2]at hT;simp only at hT;rw[Ab3 (by rw[Ag];simpa using h2)]at hT;rw[Ab3 (by rw[Ag];simpa using h2),Al,Aa]at hF;exact mkE (by omega) hF hT
 have h0:(Bc p).2=0:=by simpa using h2
 obtain⟨k1,k2,k3⟩:=hok h0;have hl:(Gx p).length=p.length-(Bc p).1.toNat:=by rw[Gx,Agy]
 rw[Aau h2]at hT;rw[Aau (by rw[Ag,h0];simp),Bl,Aa,Aa,show p.drop (Bc p).1.toNat=Gx p from rfl,Ap1,Aa]at hF;by_cases h3:(Pe (Gx p) G5||Pe (Gx p) K1)=true
 ·rw[Ab3 h3]at hT hF;simp only at hT;rw[Ab3 (by decide)]at hT;exact mkW hZ hF hT
 rw[Aau h3]at hT hF;rw[Mj _ (by omega),Aa]at hF;by_cases h5:(Dm (Gx p)).2.2.2.2.2=24
 ·rw[Ab3 h5]at hT;simp only at hT;rw[Ab3 (by decide)]at hT;rw[Ab3 (by rw[Ar];simpa using h5)]at hF;exact mkW hZ hF hT
 rw[Aau h5]at hT;rw[Aau (by rw[Ar];simpa using h5)]at hF;simp only at hT;by_cases h6:(Dm (Gx p)).2.2.2.2.2≠0
 ·rw[Ab3 (by rw[Ag];simpa using h6)]at hT hF;rw[Al,Aa]at hF;exact mkE (by have:=hrn;generalize(Dm (Gx p)).2.2.2.2.2=z at *;omega) (hF.trans f62) hT
 have h7:(Dm (Gx p)).2.2.2.2.2=0:=by simpa using h6
 obtain⟨r1,h22,r3,r4⟩:=RM h7;rw[Aau (by rw[Ag,h7];simp),Bl,Aa,Hl,He,Es]at hT;rw[Aau (by rw[Ag,h7];simp),Ak,Bl,Aa,Wa,OD,Qs]at hF;simp only at hT hF;by_cases h8:((o==([]:LB)) !=geq (Dm (Gx p)).1 1)=true
 ·rw[Ab3 h8]at hT hF;rw[Aa]at hT hF;rw[Al,Aa]at hF;simp only at hF;exact mkE (by decide) (hF.trans f62) hT
 ·rw[Aau h8]at hT hF;rw[Aa]at hT hF;rw[Al,Aa]at hF;have hd:HdI (Dm (Gx p)).1 (Dm (Gx p)).2.1 (Dm (Gx p)).2.2.1 (Dm (Gx p)).2.2.2.1 (Dm (Gx p)).2.2.2.2.1 (f0 (Gx p)) (f1 (Gx p)) (f2 (Gx p)) (f3 (Gx p)) (f4 (Gx p)):=by
   constructor<;>first|(rw[r1])|assumption
  refine .next _ _ _ _ _ _ [] 0 [] (by exact hF) hT (.head _ _ _ _ _ hd ?_ rfl rfl rfl) ⟨by rw[Agy];omega,by simp,by simp⟩ (by rw[Agy];omega) ?_
  ·have e:geq (Dm (Gx p)).1 1=decide (f0 (Gx p)=1):=by rw[hd.ef,Ar,Ajf];simp;omega
   rw[<-e];simpa using h8
  ·rw[muD,muD,Aau hd.fnz,Ab3 rfl,Ab3 rfl];omega
section
variable {F C W R N:Nat} (hd:HdI f c w r n F C W R N)
include hd
theorem Ak1(hp:p.length<=100000)(hpw:(o==([]:LB))=decide (F=1))(A:Nat)(hA:A<=p.length)
  (hT:Aj o p f c w r n [] 0 [] u v=(Du p f c w r n (A:Int)).bind (λ(ag,ak,w1)=>if(Be w1 0)then some (o,p,f,c,w,r,n,([]:LI),(0:Int),([]:LB),u,v,w1)else(Bm p ag (Ac p)).bind λal=>some (o,al,f,c,w,r,n,ak,(0:Int),([]:LB),u,v,(0:Int))))
  (hF:YL bk o u v p f c w r n 0 [] []=Ml bk o u v p f c w r n 0 [] [] (A:Int)):StepR bk o p f c w r n [] 0 [] u v:=by
 have hZ:SzD p [] 0 []:=⟨hp,by simp,by simp⟩;obtain⟨_,t2,t3⟩:=D6 hd o p hp A hA 0 [] u v;have hs:=rW (p.drop A) (Ah (Am R) N).length (by rw[Agy];omega);have hnn:=Y7 (p.drop A) (Ah (Am R) N).length;have hok:=gC (b:=p.drop A) (n:=(Ah (Am R) N).length);rw[t2,Aa]at hT;rw[Ml,OH,hd.zS,Aa]at hF;simp only at hF;rw[Aau (by decide),Bl,Aa,Ae3,Ac,hs,Aa]at hF;generalize hz:Ds (p.drop A) (Ah (Am R) N).length=z at*
 obtain⟨z1,z2⟩:=z;simp only at*
 by_cases h1:z2=24
 ·rw[Ab3 h1]at hT;simp only at hT;rw[Ab3 (by decide)]at hT;rw[Ab3 (by rw[Ar];simpa using h1)]at hF;exact mkW hZ hF hT
 rw[Aau h1]at hT;rw[Aau (by rw[Ar];simpa using h1)]at hF;simp only at hT;by_cases h2:z2≠0
 ·rw[Ab3 (by rw[Ag];simpa using h2)]at hT hF;rw[Al,Aa]at hF;exact mkE (by omega) hF hT
 ·have h0:z2=0:=by simpa using h2
  subst h0;have h3:=t3 rfl;obtain⟨k1,k2,k3,k4,k5,k6⟩:=hok rfl;simp only[Agt,Bf0]at k1;have hl:z1.length=(Ah (Am R) N).length:=by rw[k1];exact Uu _ _
  rw[<-k1]at k5 k6;rw[Aau (by decide),Bl,Aa]at hT;rw[Aau (by decide),Ac,kz A z1.length (by omega) (by omega),Bl,Aa]at hF;have hne:z1≠ []:=by intro e;rw[e]at hl;simp at hl;omega
  refine .next _ _ _ _ _ _ z1 0 [] (by exact hF) hT (.tab _ _ _ _ _ 0 hd hpw ?_ hl rfl (by omega)) ⟨by rw[Agy];omega,by omega,by simp;omega⟩ (by rw[Agy];omega) ?_
  ·rw[Ru,Acl,Acj,BN z1 100000 (by omega)];exact⟨by omega,k5,k6⟩
  ·rw[muD,muD,Aau hd.fnz,Aau hd.fnz,Ab3 rfl,Aau hne];simp;omega
theorem Amy(ho:o.length<=64)(hp:p.length<=100000)(hpw:(o==([]:LB))=decide (F=1)):StepR bk o p f c w r n [] 0 [] u v:=by
 have hZ:SzD p [] 0 []:=⟨hp,by simp,by simp⟩;have hT:Aj o p f c w r n [] 0 [] u v=Aj o p f c w r n [] 0 [] u v:=rfl
 conv at hT=>rhs;rw[Aj,Bo,Aau hd.ne0,By,Bz,Ab3 (by decide),Fc,Ia]
 have hF:YL bk o u v p f c w r n 0 [] []=YL bk o u v p f c w r n 0 [] []:=rfl
 conv at hF=>rhs;rw[YL,Jp,Aau hd.ne0,Ab3 (by decide)]
 by_cases h2:geq f 2=true
 ·rw[Ab3 h2]at hT hF;by_cases h8:p.length<8
  ·rw[Ab3 (by rw[Ae,Ac];simp;omega)]at hT hF;rw[Aa]at hT;simp only at hT;rw[Ab3 (by decide)]at hT;exact mkW hZ hF hT
  ·rw[Aau (by rw[Ae,Ac];simp;omega)]at hT hF;have h8':(p.take 8).length=8:=by rw[Afa];omega
   rw[Dg,Aa,VU o ho,Aa]at hT;rw[Vr,OT,Dg,Aa,show(8:Int).toNat=8 from rfl,YG h8' ho,Aa]at hF;rw[show(8:Int).toNat=8 from rfl]at hT;simp only at hF;rw[NG,NT,Aau (by decide)]at hF;by_cases he:(p.take 8==Rc (Rp o).toNat 8)=true
   ·rw[Aau (by rw[bne,he];decide)]at hT;rw[Aau (by rw[he];decide)]at hF;exact Ak1 hd hp hpw 8 (by omega) hT hF
   ·have he':(p.take 8==Rc (Rp o).toNat 8)=false:=by simpa using he
    rw[Ab3 (by rw[bne,he'];decide),Aa]at hT;simp only at hT;rw[Ab3 (by decide)]at hT;rw[Ab3 (by rw[he'];decide),Al,Aa]at hF;simp only at hF;exact mkE (by decide) (hF.trans f75) hT
 ·rw[Aau h2]at hT hF;exact Ak1 hd hp hpw 0 (by omega) hT hF
theorem Aps(ho:o.length<=64)(hpw:(o==([]:LB))=decide (F=1))(hg:Ru g=true)(hl:g.length=(Ah (Am R) N).length)(A:Nat)(hA:A<=g.length)(hZ:SzD p g (A:Int) x):StepR bk o p f c w r n g (A:Int) x u v:=by
 have hp:=hZ.hp;have hx:=hZ.hx;have hc:=hd.ec;subst hc;have hg':=hg;rw[Ru,Acl,Acj,BN g 100000 (by omega)]at hg';obtain⟨⟨g1,g2⟩,g5,g6⟩:=hg';have hgn:¬(geq (Ac g) 0=true):=by rw[Ar,Ac];simp;intro e;subst e;simp at g1
 have hT:Aj o p f (C:Int) w r n g (A:Int) x u v=Aj o p f (C:Int) w r n g (A:Int) x u v:=rfl
 conv at hT=>rhs;rw[Aj,Bo,Aau hd.ne0,By,Bz,Aau hgn]
 have hF:YL bk o u v p f (C:Int) w r n (A:Int) g x=YL bk o u v p f (C:Int) w r n (A:Int) g x:=rfl
 conv at hF=>rhs;rw[YL,Jp,Aau hd.ne0,Aau hgn]
 by_cases hA2:A=g.length
 ·subst hA2;rw[Ab3 (by rw[Ar,Ac];simp)]at hT;rw[Aau (by rw[Ae,Ac];simp)]at hF;by_cases h4:4000<p.length
  ·rw[Ab3 (by rw[Aq,Ac];simp;omega)]at hT hF;rw[Al,Aa]at hF;exact mkE (by decide) hF hT
  ·rw[Aau (by rw[Aq,Ac];simp;omega)]at hT hF;exact mkW hZ hF hT
 ·have hlt:A<g.length:=by omega
  have h5:=g5 g[A] (Ams hlt);have hsum:=vB g5 g[A] (Ams hlt);rw[Aau (by rw[Ar,Ac];simp;omega),Dj,El,Bn hlt,Aa]at hT;rw[Ab3 (by rw[Ae,Ac];simp;omega),Bn hlt,Aa,Aa]at hF;by_cases hw:(p.length:Int)<g[A]
  ·rw[Ab3 (by rw[Ae,Ac];simpa using hw)]at hT hF;rw[Aa]at hT;simp only at hT;rw[Ab3 (by decide)]at hT;exact mkW hZ hF hT
  rw[Aau (by rw[Ae,Ac];simpa using hw)]at hT hF;have DR:=hd.num;have hlt2:A<(Ah (Am R) N).length:=by omega
  obtain⟨m,hm,m1,m2⟩:=Ti (Fe R) DR.2.2.2.2.1 (Ams hlt2);have hb:Bu w:=by rw[hd.ew];unfold Bu;omega
  obtain⟨xs,e,d1,d2,d3,d4⟩:=Wd (bits:=w) (ch:=C) (n:=m) (t:=Pk o) (p.take g[A].toNat) hb (Kj o) DR.2.1.1 DR.2.1.2 m1 (by omega);have hnn:=rA hb (Kj o) DR.2.1.1 DR.2.1.2 m1 (by omega) d2;rw[gD o ho,Aa]at hF;simp only at hF;rw[Aau (by decide),hd.zS,Aa]at hF;simp only at hF;rw[Aau (by simp[Ag,Dy,Ac];omega),Ux,NR,Bn hlt2,Aa,Dg,Aa,Aa,DG,Aa]at hF;simp only at hF;rw[hm,d1,Aa]at hF;simp only at hF;rw[JS o ho,Aa]at hT;simp only at hT;rw[Dg,Aa,Fy,Aa]at hT;simp only at hT;rw[hd.Aaq,Aa,Bn hlt2,Aa,Aa,hm]at hT;rw[d2,Aa]at hT;simp only at hT;rw[Em,Ej]at hT;rw[NN,BU]at hF;by_cases he:e≠0
  ·rw[Ab3 (by rw[Ag];simpa using he)]at hT hF;rw[Aa]at hT;simp only at hT;rw[Ab3 (by rw[Ag];simpa using he)]at hT;rw[Al,Aa]at hF;exact mkE (by omega) hF hT
  ·have he0:e=0:=by simpa using he
   obtain⟨k1,k2,k3⟩:=d3 he0;have hbl:=OC w xs;have ht:((A:Int)).toNat=A:=rfl;rw[ht]at hx;rw[Aau (by rw[Ag,he0];simp)]at hT hF;rw[FU hb k2 k1,Aa,Aa]at hT;simp only at hT;rw[Aau (by decide),Bw (by simp;omega),Aa,Auc,Bw,Aa,Aa,Bl,Aa,Ak]at hT;rw[ND hb k2 k1,Aa]at hF;simp only at hF;rw[Aau (by decide),Bw,Aa,Bl,Aa,Ak]at hF;have e1:((A:Int)+1).toNat=A+1:=rfl;refine .next _ _ _ _ _ _ _ _ _ (by exact hF) hT (.tab _ _ _ _ _ (A+1) hd hpw hg hl rfl (by omega)) ⟨by rw[Agy];omega,hZ.hg,by rw[e1,Aci];omega⟩ (by rw[Agy];omega) ?_
   have hne:g≠ []:=by intro e;subst e;simp at g1
   rw[muD,muD,Aau hd.fnz,Aau hd.fnz,Aau hne,Aau hne,e1,ht];omega
end
theorem R7(hf:FitD o f c w r n g a x)(ho:o.length<=64)(hZ:SzD p g a x):StepR bk o p f c w r n g a x u v:=by
 cases hf with
 |new e1 e2 e3 e4 e5 e6 e7 e8=>subst e1 e2 e3 e4 e5 e6 e7 e8;exact Aq7 hZ.hp
 |head F C W R N h hpw e6 e7 e8=>subst e6 e7 e8;exact Amy h ho hZ.hp hpw
 |tab F C W R N A h hpw ht hl ea hA=>subst ea;exact Aps h ho hpw ht hl A hA hZ
end
abbrev Bai:=LB×LB×Int×Int×Int×Int×Int×LI×Int×LB×Bool×Int×Int
theorem Ase:∀(j:Nat) (b:LB) (a:Nat),(Aai j b a).2=0\/ (Aai j b a).2=38
 |0,_,_=> .inr rfl
 |j+1,b,a=>by
  rw[Aai];split
  ·exact .inl rfl
  ·split
   ·exact .inr rfl
   ·exact Ase j _ _
theorem qi(b:LB):(Xe b).2=0\/ (Xe b).2=38:=by
 rw[Xe];split
 ·exact .inr rfl
 ·exact Ase _ _ _
theorem WY{o p:LB}{f c w r n:Int}{g:LI}{a:Int}{x:LB}{u:Bool}{v:Int}(hp:p.length<=100000)(hg:g.length<=2000)(hx:x.length<=13000000):Za o p f c w r n g a x u v=some (o,p,f,c,w,r,n,g,a,x,u,v):=by
 rw[Za,QL,Bw (by simp;omega),Aa,Bw (by simp;omega),Aa,QR,SD,Bw (by simp;omega),Aa];rfl
theorem Amk{o p:LB}{f c w r n:Int}{g:LI}{a:Int}{x:LB}{u:Bool}{v:Int}(hp:p.length<=100000)(hg:g.length<=2000)(hx:x.length<=13000000):Ek o p f c w r n g a x u v=some (o,p,f,c,w,r,n,g,a,x,u,v):=by
 rw[Ek,Is,Bw (by simp;omega),Aa,Aa,Is,Bw (by simp;omega),Aa,Aa,Hn,Bw (by simp;omega),Aa,Aa];rfl
theorem tV{o p:LB}{f c w r n:Int}{g:LI}{a:Int}{x:LB}{u:Bool}{v e:Int}(hx:x.length<=13000000):CB o p f c w r n g a x u v e=some (o,[],0,0,0,0,0,[],0,x,false,e,e):=by
 rw[CB,bW,Bw (by simp;omega),Aa];rfl
theorem Ar2{p:LB}{f:Int}{g:LI}{a:Int}{x:LB}(h:SzD p g a x):muD f g a<1004:=by
 have:=h.hg;unfold muD;split
 ·omega
 ·split<;>omega
section
variable {o p:LB} {f c w r n:Int} {g:LI} {a:Int} {x:LB} {u:Bool} {v:Int} (hp:p.length<=20000) (hg:g.length<=2000) (hx:x.length<=13000000)
include hp hg hx
theorem oW{E:Int}(hE:Pu o p f c w r n g a x u v=some E):Tj o p f c w r n g a x u v=if E≠0 then some ([],[],0,0,0,0,0,[],0,[],false,0,E)else some (o,p,f,c,w,r,n,g,a,x,u,v,if v≠0 then v else if u=true then 36 else 0):=by
 rw[Tj,hE,Aa];by_cases h:E≠0
 ·rw[Ab3 (by rw[Ag];simpa using h),Ab3 h]
 rw[Aau (by rw[Ag];simpa using h),Aau h,Amk (by omega) hg (by omega)];by_cases hv:v≠0
 ·rw[Ab3 (by rw[Ag];simpa using hv),Ab3 hv,Aa]
 ·rw[Aau (by rw[Ag];simpa using hv),Aau hv];cases u<;>simp[Aa]
omit hg hx in
theorem J6:∃e,II o p f c w r n g a x u v=some e/\Cz o p f c w r n g a x u v=some e:=by
 rw[II,Cz];by_cases h0:geq f 0=true
 ·rw[Ab3 h0,Ab3 h0,Eb p (by omega),So p (by omega),Aa,Aa];have hok:=Xs (b:=p);simp only;by_cases h2:(Bc p).2≠0
  ·rw[Ab3 (by rw[Ag];simpa using h2),Ab3 (by rw[Ag];simpa using h2)];exact⟨_,rfl,rfl⟩
  have h3:(Bc p).2=0:=by simpa using h2
  obtain⟨k1,k2,k3⟩:=hok h3;have hl:(Gx p).length<=p.length:=by rw[Gx,Agy];omega
  rw[Aau (by rw[Ag,h3];simp),Aau (by rw[Ag,h3];simp),Bl,Aa,Aa,show p.drop (Bc p).1.toNat=Gx p from rfl,Mj _ (by omega),RG _ (by omega),Aa];exact⟨_,rfl,rfl⟩
 ·rw[Aau h0,Aau h0,Bool.or_comm];by_cases h1:(geq (Ac g) 0||Cj a (Ac g))=true
  ·rw[Ab3 h1,Ab3 h1];exact⟨_,rfl,rfl⟩
  ·rw[Aau h1,Aau h1,J3 p (by omega),vC p (by omega),Aa,Aa];simp only;refine⟨(Xe p).2,rfl,?_⟩;rcases qi p with h|h
   ·rw[Aau (by rw[h];decide),h]
   ·rw[Ab3 (by rw[h];decide),h]
end
theorem bZ{α β:Type}{o:Option α}{f:α->Option β}{r:β}(h:Option.bind o f=some r):∃x,o=some x/\f x=some r:=by
 cases o with
 |none=>cases h
 |some x=>exact⟨x,rfl,h⟩
theorem Atp{α:Type}{l:List α}{i:Int}{x:α}(h:Go.Lv.Ao l i=some x):x∈l:=by
 unfold Go.Lv.Ao at h;split at h
 ·exact List.mem_of_getElem? h
 ·cases h
theorem iw{o p:LB}(q:LB){f c w r n:Int}{g:LI}{a:Int}{x:LB}{u:Bool}{v:Int}{y:LB}{e:Int}(hg:∀z∈g,0<=z)(h:Dj o p f c w r n g a x u v=some (y,e))(he:e≠ -1):Dj o (p++q) f c w r n g a x u v=some (y,e):=by
 rw[Dj,El]at h⊢;obtain⟨l,hl,h⟩:=bZ h;have hl0:=hg l (Atp hl);rw[hl,Aa];by_cases hc:(p.length:Int)<l
 ·rw[Ab3 (by rw[Ae,Ac];simpa using hc)]at h;cases h;exact absurd rfl he
 ·have hc':¬(Cj (Ac (p++q)) l=true):=by rw[Ae,Ac,Aci];simp;omega
  rw[Aau (by rw[Ae,Ac];simpa using hc)]at h;rw[Aau hc',Dg hl0 (by rw[Aci];omega),On (by omega)];rw[Dg hl0]at h;simpa only[Em,Ej]using h
theorem Aeu{f c w r n:Int}{F C W R N:Nat}(hd:HdI f c w r n F C W R N){p:LB}(q:LB)(hp:(p++q).length<=100000){A:Nat}(hA:A<=p.length){k:Int}{l:LI}{e:Int}(h:Du p f c w r n (A:Int)=some (k,l,e))(he:e≠ -1):
  Du (p++q) f c w r n (A:Int)=some (k,l,e)/\ (e=0->0<=k/\k<=p.length):=by
 have hp':p.length<=100000:=by rw[Aci]at hp;omega
 obtain⟨_,t2,t3⟩:=D6 hd [] p hp' A hA 0 [] false 0;obtain⟨_,s2,_⟩:=D6 hd [] (p++q) hp A (by rw[Aci];omega) 0 [] false 0;rw[t2]at h;rw[s2,Bdy hA];by_cases h1:(Ds (p.drop A) (Ah (Am R) N).length).2=24
 ·rw[Ab3 h1]at h;cases h;exact absurd rfl he
 ·rw[Aau h1]at h;rw[Anf q _ h1,Aau h1];refine⟨h,λe0=>?_⟩;cases h;have:=t3 e0;constructor
  ·omega
  ·exact this
theorem U7{f c w r n:Int}{F C W R N:Nat}(hd:HdI f c w r n F C W R N){o p:LB}(q:LB)(hp:(p++q).length<=100000){k:Int}{l:LI}{e:Int}(h:Fc p f c w r n o=some (k,l,e))(he:e≠ -1):
  Fc (p++q) f c w r n o=some (k,l,e)/\ (e=0->0<=k/\k<=p.length):=by
 rw[Fc,Ia]at h⊢;by_cases hf:geq f 2=true
 ·rw[Ab3 hf]at h⊢;by_cases h8:p.length<8
  ·rw[Ab3 (by rw[Ae,Ac];simp;omega)]at h;cases h;exact absurd rfl he
  ·have n1:¬(Cj (Ac p) 8=true):=by rw[Ae,Ac];simp;omega
   have n2:¬(Cj (Ac (p++q)) 8=true):=by rw[Ae,Ac,Aci];simp;omega
   rw[Aau n1,Dg (by decide),Aa]at h;rw[Aau n2,Dg (by decide) (by rw[Aci];omega),Aa,On (show(8:Int).toNat<=p.length from by simp;omega)];obtain⟨y,hy,h⟩:=bZ h;rw[hy,Aa];by_cases hm:(p.take (8:Int).toNat !=y)=true
   ·rw[Ab3 hm]at h⊢;cases h;exact⟨rfl,λe=>by cases e⟩
   ·rw[Aau hm]at h⊢;exact Aeu hd q hp (A:=8) (by omega) h he
 ·rw[Aau hf]at h⊢;exact Aeu hd q hp (A:=0) (by omega) h he
theorem gU{p q af:LB}{n:Int}(h:Bm p n (Ac p)=some af):Bm (p++q) n (Ac (p++q))=some (af++q):=by
 unfold Bm Ac at h⊢;split at h
 ·rename_i hc;cases h;rw[Ab3 ⟨hc.1,by rw[Aci];omega,by omega⟩];simp only[Ae3,Ba9];rw[Bdy (by omega)]
 ·cases h
theorem nE{o p:LB}(q:LB){f c w r n:Int}{g:LI}{a:Int}{x:LB}{u:Bool}{v:Int}(hf:FitD o f c w r n g a x)(hp:(p++q).length<=100000){t1 t2:LB}{t3 t4 t5 t6 t7:Int}{t8:LI}{t9:Int}{t10:LB}{t11:Bool}{t12 e:Int}
  (h:Aj o p f c w r n g a x u v=some (t1,t2,t3,t4,t5,t6,t7,t8,t9,t10,t11,t12,e)) (he:e≠ -1):
  (e=0->Aj o (p++q) f c w r n g a x u v=some (t1,t2++q,t3,t4,t5,t6,t7,t8,t9,t10,t11,t12,0))/\
  (e≠0->∃(s1 s2:LB) (s3 s4 s5 s6 s7:Int) (s8:LI) (s9:Int) (s10:LB) (s11:Bool) (s12:Int),Aj o (p++q) f c w r n g a x u v=some (s1,s2,s3,s4,s5,s6,s7,s8,s9,s10,s11,s12,e)):=by
 have hp':p.length<=100000:=by rw[Aci]at hp;omega
 have zero:¬(Be (0:Int) 0=true):=by decide
 rw[Aj,Bo]at h⊢;cases hf with
 |new e1 e2 e3 e4 e5 e6 e7 e8=>
  subst e1;rw[Ab3 (by decide),AK p hp',Aa]at h;rw[Ab3 (by decide),AK (p++q) hp,Aa];have hst:(stS p).2.2.2.2.2.2≠ -1->stS (p++q)=stS p:=Avg q;generalize stS p=z at h hst;obtain⟨z1,z2,z3,z4,z5,z6,z7⟩:=z;simp only at h hst;by_cases hz:Be z7 0=true
  ·rw[Ab3 hz]at h;simp only[Acm,Agt]at h;obtain⟨-, -, -, -, -, -, -, -, -, -, -, -,rfl⟩:=h;rw[hst he];simp only;rw[Ab3 hz];refine⟨λe0=>?_,λ_=>⟨_,_,_,_,_,_,_,_,_,_,_,_,rfl⟩⟩;rw[e0]at hz;exact absurd hz zero
  ·rw[Aau hz]at h;have z70:z7=0:=by rw[Ag]at hz;simpa using hz
   rw[hst (by rw[z70];decide)];simp only;rw[Aau hz];obtain⟨af,h1,h⟩:=bZ h;rw[gU h1,Aa];rw[Hl,He]at h⊢;obtain⟨aw,h2,h⟩:=bZ h;rw[h2,Aa];simp only[Acm,Agt]at h;obtain⟨rfl,rfl,rfl,rfl,rfl,rfl,rfl,rfl,rfl,rfl,rfl,rfl,rfl⟩:=h;exact⟨λe0=>by rw[e0],λ_=>⟨_,_,_,_,_,_,_,_,_,_,_,_,rfl⟩⟩
 |head F C W R N hd hpw e6 e7 e8=>
  subst e6;have hfn:¬(geq f 0=true):=by rw[Ar];simpa using hd.fnz
  rw[Aau hfn,By,Bz,Ab3 (by decide)]at h⊢;obtain⟨⟨k,l,e1⟩,h1,h⟩:=bZ h;simp only at h;by_cases hz:Be e1 0=true
  ·rw[Ab3 hz]at h;simp only[Acm,Agt]at h;obtain⟨-, -, -, -, -, -, -, -, -, -, -, -,rfl⟩:=h;rw[(U7 hd q hp h1 he).1,Aa];simp only;rw[Ab3 hz];refine⟨λe0=>?_,λ_=>⟨_,_,_,_,_,_,_,_,_,_,_,_,rfl⟩⟩;rw[e0]at hz;exact absurd hz zero
  ·rw[Aau hz]at h;have z70:e1=0:=by rw[Ag]at hz;simpa using hz
   rw[(U7 hd q hp h1 (by rw[z70];decide)).1,Aa];simp only;rw[Aau hz];obtain⟨af,h2,h⟩:=bZ h;rw[gU h2,Aa];simp only[Acm,Agt]at h;obtain⟨rfl,rfl,rfl,rfl,rfl,rfl,rfl,rfl,rfl,rfl,rfl,rfl,rfl⟩:=h;exact⟨λe0=>rfl,λe0=>absurd rfl e0⟩
 |tab F C W R N A hd hpw ht hl ea hA=>
  have hfn:¬(geq f 0=true):=by rw[Ar];simpa using hd.fnz
  have ht':=ht;rw[Ru,Acl,Acj]at ht';have hgl:¬(geq (Ac g) 0=true):=by
   intro e;rw[Ar,Ac]at e;have hl1:=ht'.1.1;simp only[Aug,Acj]at e;omega
  rw[Aau hfn,By,Bz,Aau hgl]at h⊢;by_cases hend:geq a (Ac g)=true
  ·rw[Ab3 hend]at h⊢;by_cases hm:Ex (Ac p) 4000=true
   ·have hm':Ex (Ac (p++q)) 4000=true:=by rw[Aq,Ac]at hm⊢;simp only[Acj]at hm⊢;rw[Aci];omega
    rw[Ab3 hm]at h;rw[Ab3 hm'];simp only[Acm,Agt]at h;obtain⟨-, -, -, -, -, -, -, -, -, -, -, -,rfl⟩:=h;exact⟨(λe0=>by cases e0),λ_=>⟨_,_,_,_,_,_,_,_,_,_,_,_,rfl⟩⟩
   ·rw[Aau hm]at h;simp only[Acm,Agt]at h;obtain⟨-, -, -, -, -, -, -, -, -, -, -, -,rfl⟩:=h;exact absurd rfl he
  ·rw[Aau hend]at h⊢;have hpos:∀z∈g,0<=z:=by
    have:=(BN g 100000 (by omega)).1 ht'.2;intro z hz;have:=this.1 z hz;omega
   obtain⟨⟨y,e1⟩,h1,h⟩:=bZ h;simp only at h;by_cases hz:Be e1 0=true
   ·rw[Ab3 hz]at h;simp only[Acm,Agt]at h;obtain⟨-, -, -, -, -, -, -, -, -, -, -, -,rfl⟩:=h;rw[iw q hpos h1 he,Aa];simp only;rw[Ab3 hz];refine⟨λe0=>?_,λ_=>⟨_,_,_,_,_,_,_,_,_,_,_,_,rfl⟩⟩;rw[e0]at hz;exact absurd hz zero
   ·rw[Aau hz]at h;have z70:e1=0:=by rw[Ag]at hz;simpa using hz
    rw[iw q hpos h1 (by rw[z70];decide),Aa];simp only;rw[Aau hz];obtain⟨an,h2,h⟩:=bZ h;rw[h2,Aa];obtain⟨ah,h3,h⟩:=bZ h;rw[h3,Aa];obtain⟨ad,h4,h⟩:=bZ h;rw[h4,Aa];obtain⟨ae,h5,h⟩:=bZ h;rw[gU h5,Aa];simp only[Acm,Agt]at h;obtain⟨rfl,rfl,rfl,rfl,rfl,rfl,rfl,rfl,rfl,rfl,rfl,rfl,rfl⟩:=h;exact⟨λe0=>rfl,λe0=>absurd rfl e0⟩
def Bbv(o:LB)(K:Nat)(u:Bool)(v:Int)(X Y:Option Bai):Prop:=∃(t1 t2:LB) (t3 t4 t5 t6 t7:Int) (t8:LI) (t9:Int) (t10:LB) (t11:Bool) (t12 e:Int),X=some (t1,t2,t3,t4,t5,t6,t7,t8,t9,t10,t11,t12,e)/\Y=some (t1,t2,t3,t4,t5,t6,t7,t8,t9,t10,t11,t12,e)/\t10.length<=13000000/\
 (e=0->t1=o/\t2.length<=K/\FitD o t3 t4 t5 t6 t7 t8 t9 t10/\SzD t2 t8 t9 t10/\t11=u/\t12=v)
theorem mh(K:Nat):∀(k q1 q2:Nat) (o p:LB) (f c w r n:Int) (g:LI) (a:Int) (x:LB) (u:Bool) (v:Int),FitD o f c w r n g a x->o.length<=64->SzD p g a x->p.length<=K->muD f g a<k->k<=q1->k<=q2->
  Bbv o K u v (Bd o u v q1 p f c w r n a g x) (Bj q2 o p f c w r n g a x u v)
 |0,_,_,_,_,_,_,_,_,_,_,_,_,_,_,_,_,_,_,h,_,_=>by omega
 |k+1,q1,q2,o,p,f,c,w,r,n,g,a,x,u,v,hf,ho,hZ,hK,hm,h1,h2=>by
  obtain⟨q1,rfl⟩:∃q,q1=q+1:=⟨q1-1,by omega⟩;obtain⟨q2,rfl⟩:∃q,q2=q+1:=⟨q2-1,by omega⟩;have hx:x.length<=13000000:=by have:=hZ.hx;omega
  rw[Bd,Bj,Cp];have hS:StepR (Bd o u v q1) o p f c w r n g a x u v:=R7 hf ho hZ;cases hS with
  |wait hF hT=>
   rw[hT,Aa];simp only;rw[Ab3 (by decide),WY hZ.hp (by have:=hZ.hg;omega) hx,Aa];exact⟨_,_,_,_,_,_,_,_,_,_,_,_,_,hF,rfl,hx,λ_=>⟨rfl,hK,hf,hZ,rfl,rfl⟩⟩
  |err e he hF hT=>
   rw[hT,Aa];simp only;rw[Aau (by rw[jG (by omega)];decide),Ab3 (by rw[Ag];simp;omega),tV hx,Aa];exact⟨_,_,_,_,_,_,_,_,_,_,_,_,_,hF,rfl,hx,λh=>absurd h (by omega)⟩
  |next p' f' c' w' r' n' g' a' x' hF hT hf' hZ' hle hmu=>
   rw[hT,Aa];simp only;rw[Aau (by decide),Aau (by decide)];have ih:=mh K k q1 q2 o p' f' c' w' r' n' g' a' x' u v hf' ho hZ' (by omega) (by omega) (by omega) (by omega);have hF':Jp (Px (Bd o u v q1) o u v) (Wa (Bd o u v q1) o u v) (Mg (Bd o u v q1) o u v) (Vr (Bd o u v q1) o u v) (Ml (Bd o u v q1) o u v) (Qc (Bd o u v q1) o u v) (Ux (Bd o u v q1) o u v) (Cq (Bd o u v q1) o u v) (BP (Bd o u v q1) o u v) o u v p f c w r n a g x=Bd o u v q1 p' f' c' w' r' n' a' g' x':=hF;rw[hF'];exact ih
theorem Bcf{o p:LB}{f c w r n:Int}{g:LI}{a:Int}{x:LB}(ho:o.length<=64)(hf:FitD o f c w r n g a x)(hZ:SzD p g a x)(b:LB)(hp:p.length<=20000)(hb:b.length<=20000):
  Bbv o (p.length+b.length) false 0 (Ki o p f c w r n g a x false 0 b) (Kc o p f c w r n g a x false 0 b):=by
 have hx:x.length<=13000000:=by have:=hZ.hx;omega
 have hg:g.length<=2000:=by have:=hZ.hg;omega
 obtain⟨E,e1,e2⟩:=lq o p f c w r n g a x false 0 (by omega) (by omega) (by omega);rw[Ki,Xq,oW hp hg hx e1,Kc,Tg,e2,Aa];by_cases h:E≠0
 ·rw[Ab3 h,Aa,Ab3 (by rw[Ag];simpa using h)];simp only;rw[Ab3 (by rw[Ag];simpa using h)];exact⟨_,_,_,_,_,_,_,_,_,_,_,_,_,rfl,rfl,by simp,λh'=>absurd h' h⟩
 have h0:E=0:=by simpa using h
 subst h0;have hE:¬(Be (0:Int) 0=true):=by decide
 rw[Aau h,Aa,Aau hE,WY (by omega) hg (by omega),Aa];simp only;have hF:¬(false=true):=by decide
 rw[Sm,Aau (show ¬((0:Int)≠0)from λh=>h rfl),Aau hF]
 repeat (first|rw[Aa]|rw[Aau hE]|rw[Aau hF])
 rw[Bw];rw[Aa,Aa];have hZ':SzD (p++b) g a x:=⟨by rw[Aci];omega,hZ.hg,hZ.hx⟩;exact mh _ 1004 Ax Ax o (p++b) f c w r n g a x false 0 hf ho hZ' (by rw[Aci];exact Am4 _) (Ar2 hZ') (by have:=As;omega) (by have:=As;omega)
def OutB(f c w r n:Int)(g:LI)(a:Int)(x:LB):Prop:=∀(F C W R N A:Nat),HdI f c w r n F C W R N->g≠ []->a=(A:Int)-> (x.length:Int)<=Uw C W (Ah (Am R) N) A
theorem OutB.nil{f c w r n:Int}{a:Int}{x:LB}:OutB f c w r n [] a x:=λ_ _ _ _ _ _ _ h=>absurd rfl h
theorem OutB.zero{f c w r n:Int}{g:LI}:OutB f c w r n g 0 []:=λF C W R N A h hg ha=>by
 obtain rfl:A=0:=by omega
 rw[Ag5];simp
theorem Ahk{o p:LB}{f c w r n:Int}{F C W R N:Nat}(hd:HdI f c w r n F C W R N)(ho:o.length<=64)(hp:p.length<=100000){g:LI}(ht:Ru g=true)(hl:g.length=(Ah (Am R) N).length){A:Nat}(hA:A<g.length){x:LB}{u:Bool}{v:Int}{y:LB}{e:Int}
  (h:Dj o p f c w r n g (A:Int) x u v=some (y,e)) (he:e=0):∃m:Nat,(Ah (Am R) N)[A]'(by omega)=(m:Int)/\y.length=m*C*wB (W:Int):=by
 subst he;have hlt2:A<(Ah (Am R) N).length:=by omega
 have DR:=hd.num;rw[Ru,Acl,Acj,BN g 100000 (by omega)]at ht;obtain⟨ht1,g5,gs⟩:=ht;have h5:=g5 g[A] (Ams hA);rw[Dj,El,Bn hA,Aa]at h;by_cases hw:(p.length:Int)<g[A]
 ·rw[Ab3 (by rw[Ae,Ac];simpa using hw)]at h;cases h
 rw[Aau (by rw[Ae,Ac];simpa using hw)]at h;obtain⟨m,hm,m1,m2⟩:=Ti (Fe R) DR.2.2.2.2.1 (Ams hlt2);have hb:Bu w:=by rw[hd.ew];unfold Bu;omega
 obtain⟨xs,e,d1,d2,d3,d4⟩:=Wd (bits:=w) (ch:=C) (n:=m) (t:=Pk o) (p.take g[A].toNat) hb (Kj o) DR.2.1.1 DR.2.1.2 m1 (by omega);rw[JS o ho,Aa]at h;simp only at h;rw[Dg,Aa,Fy,Aa]at h;simp only at h;rw[hd.Aaq,Aa,Bn hlt2,Aa,Aa,hm,hd.ec]at h;rw[d2,Aa]at h;simp only at h;rw[Em,Ej]at h;by_cases he:e≠0
 ·rw[Ab3 (by rw[Ag];simpa using he)]at h;cases h;exact absurd rfl he
 ·have he0:e=0:=by simpa using he
  obtain⟨k1,k2,k3⟩:=d3 he0;rw[Aau (by rw[Ag,he0];simp),FU hb k2 k1,Aa]at h;cases h;refine⟨m,hm,?_⟩;rw[FJ hb,k3,hd.ew]
theorem Aqe{o p:LB}{f c w r n:Int}{g:LI}{a:Int}{x:LB}{u:Bool}{v:Int}(hf:FitD o f c w r n g a x)(ho:o.length<=64)(hZ:SzD p g a x)(hO:OutB f c w r n g a x){t1 t2:LB}{t3 t4 t5 t6 t7:Int}{t8:LI}{t9:Int}{t10:LB}{t11:Bool}{t12:Int}
  (h:Aj o p f c w r n g a x u v=some (t1,t2,t3,t4,t5,t6,t7,t8,t9,t10,t11,t12,0)):OutB t3 t4 t5 t6 t7 t8 t9 t10:=by
 have hp':=hZ.hp;have zero:¬(Be (0:Int) 0=true):=by decide
 rw[Aj,Bo]at h;cases hf with
 |new e1 e2 e3 e4 e5 e6 e7 e8=>
  subst e1 e6 e7 e8;rw[Ab3 (by decide),AK p hp',Aa]at h;generalize stS p=z at h;obtain⟨z1,z2,z3,z4,z5,z6,z7⟩:=z;simp only at h;by_cases hz:Be z7 0=true
  ·rw[Ab3 hz]at h;simp only[Acm,Agt]at h;obtain⟨-, -, -, -, -, -, -,rfl, -⟩:=h;exact OutB.nil
  ·rw[Aau hz]at h;obtain⟨af,h1,h⟩:=bZ h;rw[Hl,He]at h;obtain⟨aw,h2,h⟩:=bZ h;simp only[Acm,Agt]at h;obtain⟨-, -, -, -, -, -, -,rfl, -⟩:=h;exact OutB.nil
 |head F C W R N hd hpw e6 e7 e8=>
  subst e6 e7 e8;have hfn:¬(geq f 0=true):=by rw[Ar];simpa using hd.fnz
  rw[Aau hfn,By,Bz,Ab3 (by decide)]at h;obtain⟨⟨k,l,e1⟩,h1,h⟩:=bZ h;simp only at h;by_cases hz:Be e1 0=true
  ·rw[Ab3 hz]at h;simp only[Acm,Agt]at h;obtain⟨-, -, -, -, -, -, -,rfl, -⟩:=h;exact OutB.nil
  ·rw[Aau hz]at h;obtain⟨af,h2,h⟩:=bZ h;simp only[Acm,Agt]at h;obtain⟨-, -, -, -, -, -, -, -,rfl,rfl, -⟩:=h;exact OutB.zero
 |tab F C W R N A hd hpw ht hl ea hA=>
  subst ea;have hfn:¬(geq f 0=true):=by rw[Ar];simpa using hd.fnz
  have ht':=ht;rw[Ru,Acl,Acj]at ht';have hgl:¬(geq (Ac g) 0=true):=by
   intro e;rw[Ar,Ac]at e;have hl1:=ht'.1.1;simp only[Aug,Acj]at e;omega
  have hne:g≠ []:=by intro e;subst e;simp at ht'
  rw[Aau hfn,By,Bz,Aau hgl]at h;by_cases hend:geq (A:Int) (Ac g)=true
  ·rw[Ab3 hend]at h;by_cases hm:Ex (Ac p) 4000=true
   ·rw[Ab3 hm]at h;simp only[Acm,Agt]at h;exact absurd h.2.2.2.2.2.2.2.2.2.2.2.2 (by decide)
   ·rw[Aau hm]at h;simp only[Acm,Agt]at h;exact absurd h.2.2.2.2.2.2.2.2.2.2.2.2 (by decide)
  ·rw[Aau hend]at h;have hlt:A<g.length:=by
    rw[Ar,Ac]at hend;simp only[Aug]at hend;omega
   obtain⟨⟨y,e1⟩,h1,h⟩:=bZ h;simp only at h;by_cases hz:Be e1 0=true
   ·rw[Ab3 hz]at h;simp only[Acm,Agt]at h;have:=h.2.2.2.2.2.2.2.2.2.2.2.2;rw[this]at hz;exact absurd hz zero
   ·rw[Aau hz]at h;have z70:e1=0:=by rw[Ag]at hz;simpa using hz
    obtain⟨m,hm,hy⟩:=Ahk hd ho hp' ht hl hlt h1 z70;obtain⟨an,h2,h⟩:=bZ h;obtain⟨ah,h3,h⟩:=bZ h;obtain⟨ad,h4,h⟩:=bZ h;obtain⟨ae,h5,h⟩:=bZ h;simp only[Acm,Agt]at h;obtain⟨-, -,rfl,rfl,rfl,rfl,rfl,rfl,rfl,rfl, -⟩:=h;intro F' C' W' R' N' A' hd' _ ha';have eqs:C'=C/\W'=W/\R'=R/\N'=N:=by
     have q1:=hd.ec.symm.trans hd'.ec;have q2:=hd.ew.symm.trans hd'.ew;have q3:=hd.er.symm.trans hd'.er;have q4:=hd.en.symm.trans hd'.en;omega
    obtain⟨rfl,rfl,rfl,rfl⟩:=eqs;have hold:=hO F C' W' R' N' A hd hne rfl;have e2:Ad (A:Int) 1=((A+1:Nat):Int):=by rw[Ak];omega
    rw[e2]at ha';obtain rfl:A'=A+1:=by omega
    have hah:ah.length=x.length+y.length:=by
     unfold Et at h2 h3;split at h2
     ·cases h2;split at h3
      ·cases h3;simp
      ·cases h3
     ·cases h2
    have hpos:∀z∈Ah (Am R') N',0<=z:=by
     intro z hz;obtain⟨m,hm,m1,m2⟩:=Ti (Fe R') hd.num.2.2.2.2.1 hz;omega
    rw[Ag2 C' W' hpos (by omega) hm,hah,hy];omega
theorem jk{o p:LB}{f c w r n:Int}{g:LI}{a:Int}{x:LB}(hf:FitD o f c w r n g a x)(ho:o.length<=64)(hO:OutB f c w r n g a x){t1 t2:LB}{t3 t4 t5 t6 t7:Int}{t8:LI}{t9:Int}{t10:LB}{t11:Bool}{t12:Int}
  (h:Aj o p f c w r n g a x false 0=some (t1,t2,t3,t4,t5,t6,t7,t8,t9,t10,t11,t12, -1)):Ea o p f c w r n g a x false 0=some 0:=by
 have h4:Cv o p f c w r n g a x false 0=some true:=by
  rw[Cv,Yu,h,Aa];rfl
 have hr:Mm o p f c w r n g a x false 0=some true:=by
  rw[Mm,Yj];cases hf with
  |new e1 e2 e3 e4 e5 e6 e7 e8=>
   subst e1 e2 e3 e4 e5 e6 e7 e8;rw[Ab3 (by decide),Aau (by decide)];exact h4
  |head F C W R N hd hpw e6 e7 e8=>
   subst e6 e7 e8;have hz:¬(((geq f 0)&&((geq c 0)&&((geq w 0)&&((geq r 0)&&((geq n 0)&&true)))))=true):=by
    simp only[Acl,Ar,Aug,Bf0];exact λe=>hd.fnz e.1
   have hff:geq f 1=decide (F=1):=by rw[hd.ef,Ar,Ajf];simp;omega
   rw[Aau hz,hd.check,Aa,Aau (by decide),Es,hff,hpw,Aau (by simp),Aa,Aau (by decide),Rh,Re,Ab3 (by decide),Aau (by decide)];exact h4
  |tab F C W R N A hd hpw ht hl ea hA=>
   subst ea;have hz:¬(((geq f 0)&&((geq c 0)&&((geq w 0)&&((geq r 0)&&((geq n 0)&&true)))))=true):=by
    simp only[Acl,Ar,Aug,Bf0];exact λe=>hd.fnz e.1
   have hff:geq f 1=decide (F=1):=by rw[hd.ef,Ar,Ajf];simp;omega
   have ht':=ht;rw[Ru,Acl,Acj]at ht';have hgl:¬(geq (Ac g) 0=true):=by
    intro e;rw[Ar,Ac]at e;have hl1:=ht'.1.1;simp only[Aug,Acj]at e;omega
   have hne:g≠ []:=by intro e;subst e;simp at ht'
   have hout:=hO F C W R N A hd hne rfl;rw[Aau hz,hd.check,Aa,Aau (by decide),Es,hff,hpw,Aau (by simp),Aa,Aau (by decide),Rh,Re,Aau hgl,dD,Aa,Ab3 ht,Aau (by decide),hd.Aaq,Aa];rw[Aau (by simp[Ag,Ae,Aq,Ac];omega)];obtain⟨rfl,rfl,rfl,rfl,rfl,hs,hfit⟩:=hd;rw[Adn hs hfit A (by omega),Aa,Aau (by rw[Aq,Ac];simp;omega)];exact h4
 have hO':¬(Ex (Ac o) 64=true):=by rw[Aq,Ac];simp;omega
 rw[Ea,Aau hO',Ab3 (by decide),hr,Aa];rfl
theorem Ao8{o p:LB}{f c w r n:Int}{F C W R N:Nat}(hd:HdI f c w r n F C W R N)(ho:o.length<=64)(hp:p.length<=100000){g:LI}(ht:Ru g=true)(hl:g.length=(Ah (Am R) N).length){A:Nat}(hA:A<g.length){x:LB}{u:Bool}{v:Int}{y:LB}{e:Int}
  (h:Dj o p f c w r n g (A:Int) x u v=some (y,e)) (he:e≠ -1):Cd e:=by
 have hlt2:A<(Ah (Am R) N).length:=by omega
 have DR:=hd.num;rw[Ru,Acl,Acj,BN g 100000 (by omega)]at ht;obtain⟨ht1,g5,gs⟩:=ht;have h5:=g5 g[A] (Ams hA);rw[Dj,El,Bn hA,Aa]at h;by_cases hw:(p.length:Int)<g[A]
 ·rw[Ab3 (by rw[Ae,Ac];simpa using hw)]at h;cases h;exact absurd rfl he
 rw[Aau (by rw[Ae,Ac];simpa using hw)]at h;obtain⟨m,hm,m1,m2⟩:=Ti (Fe R) DR.2.2.2.2.1 (Ams hlt2);have hb:Bu w:=by rw[hd.ew];unfold Bu;omega
 obtain⟨xs,e',d1,d2,d3,d4⟩:=Wd (bits:=w) (ch:=C) (n:=m) (t:=Pk o) (p.take g[A].toNat) hb (Kj o) DR.2.1.1 DR.2.1.2 m1 (by omega);have hcd:=xk hb (Kj o) DR.2.1.1 DR.2.1.2 m1 (by omega) d2;rw[JS o ho,Aa]at h;simp only at h;rw[Dg,Aa,Fy,Aa]at h;simp only at h;rw[hd.Aaq,Aa,Bn hlt2,Aa,Aa,hm,hd.ec]at h;rw[d2,Aa]at h;simp only at h;rw[Em,Ej]at h;by_cases he:e'≠0
 ·rw[Ab3 (by rw[Ag];simpa using he)]at h;cases h;exact hcd
 ·have he0:e'=0:=by simpa using he
  obtain⟨k1,k2,k3⟩:=d3 he0;rw[Aau (by rw[Ag,he0];simp),FU hb k2 k1,Aa]at h;cases h;exact .inl rfl
theorem Ak7{f c w r n:Int}{F C W R N:Nat}(hd:HdI f c w r n F C W R N){p:LB}(hp:p.length<=100000){A:Nat}(hA:A<=p.length){k:Int}{l:LI}{e:Int}(h:Du p f c w r n (A:Int)=some (k,l,e))(he:e≠ -1):Cd e:=by
 obtain⟨_,t2,t3⟩:=D6 hd [] p hp A hA 0 [] false 0;rw[t2]at h;by_cases h1:(Ds (p.drop A) (Ah (Am R) N).length).2=24
 ·rw[Ab3 h1]at h;cases h;exact absurd rfl he
 ·rw[Aau h1]at h;cases h;exact Ap7 _ (pY hd.fit)
theorem Anh{f c w r n:Int}{F C W R N:Nat}(hd:HdI f c w r n F C W R N){o p:LB}(hp:p.length<=100000){k:Int}{l:LI}{e:Int}(h:Fc p f c w r n o=some (k,l,e))(he:e≠ -1):Cd e:=by
 rw[Fc,Ia]at h;by_cases hf:geq f 2=true
 ·rw[Ab3 hf]at h;by_cases h8:p.length<8
  ·rw[Ab3 (by rw[Ae,Ac];simp;omega)]at h;cases h;exact absurd rfl he
  ·have n1:¬(Cj (Ac p) 8=true):=by rw[Ae,Ac];simp;omega
   rw[Aau n1]at h;obtain⟨z,hz,h⟩:=bZ h;obtain⟨y,hy,h⟩:=bZ h;by_cases hm:(z !=y)=true
   ·rw[Ab3 hm]at h;cases h;decide
   ·rw[Aau hm]at h;exact Ak7 hd hp (A:=8) (by omega) h he
 ·rw[Aau hf]at h;exact Ak7 hd hp (A:=0) (by omega) h he
theorem Bav(p:LB):(stS p).2.2.2.2.2.2= -1\/Cd (stS p).2.2.2.2.2.2:=by
 unfold stS
 repeat' split
 ·exact .inl rfl
 ·exact .inr (zI p)
 ·exact .inl rfl
 ·exact .inl rfl
 ·exact .inr (Y2 _)
theorem Au6{o p:LB}{f c w r n:Int}{g:LI}{a:Int}{x:LB}{u:Bool}{v:Int}(hf:FitD o f c w r n g a x)(ho:o.length<=64)(hp':p.length<=100000){t1 t2:LB}{t3 t4 t5 t6 t7:Int}{t8:LI}{t9:Int}{t10:LB}{t11:Bool}{t12 e:Int}
  (h:Aj o p f c w r n g a x u v=some (t1,t2,t3,t4,t5,t6,t7,t8,t9,t10,t11,t12,e)) (he:e≠ -1):Cd e:=by
 have zero:¬(Be (0:Int) 0=true):=by decide
 rw[Aj,Bo]at h;cases hf with
 |new e1 e2 e3 e4 e5 e6 e7 e8=>
  subst e1 e6 e7 e8;rw[Ab3 (by decide),AK p hp',Aa]at h;have hcd:=Bav p;generalize stS p=z at h hcd;obtain⟨z1,z2,z3,z4,z5,z6,z7⟩:=z;simp only at h hcd;by_cases hz:Be z7 0=true
  ·rw[Ab3 hz]at h;simp only[Acm,Agt]at h;obtain⟨-, -, -, -, -, -, -, -, -, -, -, -,rfl⟩:=h;exact hcd.resolve_left he
  ·rw[Aau hz]at h;obtain⟨af,h1,h⟩:=bZ h;rw[Hl,He,Es]at h;obtain⟨aw,h2,h⟩:=bZ h;simp only[Acm,Agt]at h;obtain⟨-, -, -, -, -, -, -, -, -, -, -, -,rfl⟩:=h;split at h2
   ·cases h2;decide
   ·cases h2;decide
 |head F C W R N hd hpw e6 e7 e8=>
  subst e6 e7 e8;have hfn:¬(geq f 0=true):=by rw[Ar];simpa using hd.fnz
  rw[Aau hfn,By,Bz,Ab3 (by decide)]at h;obtain⟨⟨k,l,e1⟩,h1,h⟩:=bZ h;simp only at h;by_cases hz:Be e1 0=true
  ·rw[Ab3 hz]at h;simp only[Acm,Agt]at h;obtain⟨-, -, -, -, -, -, -, -, -, -, -, -,rfl⟩:=h;exact Anh hd hp' h1 he
  ·rw[Aau hz]at h;obtain⟨af,h2,h⟩:=bZ h;simp only[Acm,Agt]at h;obtain⟨-, -, -, -, -, -, -, -, -, -, -, -,rfl⟩:=h;exact .inl rfl
 |tab F C W R N A hd hpw ht hl ea hA=>
  subst ea;have hfn:¬(geq f 0=true):=by rw[Ar];simpa using hd.fnz
  have ht':=ht;rw[Ru,Acl,Acj]at ht';have hgl:¬(geq (Ac g) 0=true):=by
   intro e;rw[Ar,Ac]at e;have hl1:=ht'.1.1;simp only[Aug,Acj]at e;omega
  rw[Aau hfn,By,Bz,Aau hgl]at h;by_cases hend:geq (A:Int) (Ac g)=true
  ·rw[Ab3 hend]at h;by_cases hm:Ex (Ac p) 4000=true
   ·rw[Ab3 hm]at h;simp only[Acm,Agt]at h;obtain⟨-, -, -, -, -, -, -, -, -, -, -, -,rfl⟩:=h;decide
   ·rw[Aau hm]at h;simp only[Acm,Agt]at h;exact absurd h.2.2.2.2.2.2.2.2.2.2.2.2.symm he
  ·rw[Aau hend]at h;have hlt:A<g.length:=by
    rw[Ar,Ac]at hend;simp only[Aug]at hend;omega
   obtain⟨⟨y,e1⟩,h1,h⟩:=bZ h;simp only at h;by_cases hz:Be e1 0=true
   ·rw[Ab3 hz]at h;simp only[Acm,Agt]at h;obtain⟨-, -, -, -, -, -, -, -, -, -, -, -,rfl⟩:=h;exact Ao8 hd ho hp' ht hl hlt h1 he
   ·rw[Aau hz]at h;obtain⟨an,h2,h⟩:=bZ h;obtain⟨ah,h3,h⟩:=bZ h;obtain⟨ad,h4,h⟩:=bZ h;obtain⟨ae,h5,h⟩:=bZ h;simp only[Acm,Agt]at h;obtain⟨-, -, -, -, -, -, -, -, -, -, -, -,rfl⟩:=h;exact .inl rfl
theorem Aru{o:LB}{f c w r n:Int}{g:LI}{a:Int}{x:LB}(hf:FitD o f c w r n g a x)(hO:OutB f c w r n g a x):x.length<=12000:=by
 cases hf with
 |new e1 e2 e3 e4 e5 e6 e7 e8=>subst e8;simp
 |head F C W R N hd hpw e6 e7 e8=>subst e8;simp
 |tab F C W R N A hd hpw ht hl ea hA=>
  have hne:g≠ []:=by intro e;subst e;simp[Ru]at ht
  have h:=hO F C W R N A hd hne ea;obtain⟨g1,g2,g3⟩:=AS hd.shape hd.fit;have b:=PD g1 A;have DR:=hd.num;have hw:=(P1 (W:Int)).2;have hN:N*C<=4000:=by
   have h1:=Agu C DR.2.2.2.2.2.1;have h2:=Bbl 4000 C;omega
  have hs:((Ah (Am R) N).take A).sum.toNat<=N:=by omega
  rw[Uw]at h;have hb:((Ah (Am R) N).take A).sum.toNat*(C*wB (W:Int))<=4000*3:=by
   have h1:=Agu (C*wB (W:Int)) hs;have h2:=Bce hN hw;rw[<-Bb7 N]at h1;omega
  omega
theorem yj{o x:LB}{e:Int}(ho:o.length<=64)(hx:x.length<=12000)(he:Cd e)(h0:0<e):Ea o [] 0 0 0 0 0 [] 0 x false e=some 0:=by
 have hO':¬(Ex (Ac o) 64=true):=by rw[Aq,Ac];simp;omega
 have hX:Ex (Ac x) 12000=false:=by rw[Aq,Ac];simp;omega
 rw[Ea,Aau hO',Aau (by rw[Ar];simp;omega),Ab3 (by decide),hX,Aau (by decide),Ab3 (by rw[Ag];simp;omega),Aau (by decide)];obtain rfl|rfl|rfl|rfl|rfl|rfl|rfl|rfl:=he
 ·omega
 all_goals rfl
theorem zi:∀(k q1 q2:Nat) (o p:LB) (f c w r n:Int) (g:LI) (a:Int) (x:LB) (u:Bool) (v:Int),FitD o f c w r n g a x->o.length<=64->SzD p g a x->muD f g a<k->k<=q1->k<=q2->
  Bj q1 o p f c w r n g a x u v=Bj q2 o p f c w r n g a x u v
 |0,_,_,_,_,_,_,_,_,_,_,_,_,_,_,_,_,_,h,_,_=>by omega
 |k+1,q1,q2,o,p,f,c,w,r,n,g,a,x,u,v,hf,ho,hZ,hm,h1,h2=>by
  obtain⟨q1,rfl⟩:∃q,q1=q+1:=⟨q1-1,by omega⟩;obtain⟨q2,rfl⟩:∃q,q2=q+1:=⟨q2-1,by omega⟩;rw[Bj,Bj,Cp,Cp];have hS:StepR (Bd o u v q1) o p f c w r n g a x u v:=R7 hf ho hZ;cases hS with
  |wait hF hT=>
   rw[hT,Aa,Aa];simp only;rw[Ab3 (by decide),Ab3 (by decide)]
  |err e he hF hT=>
   rw[hT,Aa,Aa];simp only;rw[Aau (by rw[jG (by omega)];decide),Ab3 (by rw[Ag];simp;omega),Aau (by rw[jG (by omega)];decide),Ab3 (by rw[Ag];simp;omega)]
  |next p' f' c' w' r' n' g' a' x' hF hT hf' hZ' hle hmu=>
   rw[hT,Aa,Aa];simp only;rw[Aau (by decide),Aau (by decide),Aau (by decide),Aau (by decide)];exact zi k q1 q2 o p' f' c' w' r' n' g' a' x' u v hf' ho hZ' (by omega) (by omega) (by omega)
structure Wt (o p:LB) (f c w r n:Int) (g:LI) (a:Int) (x:LB):Prop where
 fit:FitD o f c w r n g a x
 sz:SzD p g a x
 out:OutB f c w r n g a x
 wait:Aj o p f c w r n g a x false 0=some (o,p,f,c,w,r,n,g,a,x,false,0, -1)
abbrev Kv(q:Nat)(o p:LB)(f c w r n:Int)(g:LI)(a:Int)(x:LB):=Bj q o p f c w r n g a x false 0
theorem Adb:∀(k q:Nat) (o p:LB) (f c w r n:Int) (g:LI) (a:Int) (x:LB),FitD o f c w r n g a x->o.length<=64->SzD p g a x->OutB f c w r n g a x->p.length<=100000->muD f g a<k->k<=q->
  (∃(t2:LB) (t3 t4 t5 t6 t7:Int) (t8:LI) (t9:Int) (t10:LB),Kv q o p f c w r n g a x=some (o,t2,t3,t4,t5,t6,t7,t8,t9,t10,false,0,0)/\Wt o t2 t3 t4 t5 t6 t7 t8 t9 t10/\t2.length<=p.length/\muD t3 t8 t9<k/\
   ∀b:LB,(p++b).length<=100000->Kv q o (p++b) f c w r n g a x=Kv q o (t2++b) t3 t4 t5 t6 t7 t8 t9 t10)\/
  (∃(x':LB) (e:Int),0<e/\Cd e/\x'.length<=12000/\∀b:LB,(p++b).length<=100000->Kv q o (p++b) f c w r n g a x=some (o,[],0,0,0,0,0,[],0,x',false,e,e))
 |0,_,_,_,_,_,_,_,_,_,_,_,_,_,_,_,_,h,_=>by omega
 |k+1,q,o,p,f,c,w,r,n,g,a,x,hf,ho,hZ,hO,hp,hm,h1=>by
  obtain⟨q,rfl⟩:∃q',q=q'+1:=⟨q-1,by omega⟩;have hx:x.length<=13000000:=by have:=hZ.hx;omega
  have hS:StepR (Bd o false 0 q) o p f c w r n g a x false 0:=R7 hf ho hZ;cases hS with
  |wait hF hT=>
   refine .inl ⟨p,f,c,w,r,n,g,a,x,?_,⟨hf,hZ,hO,hT⟩,Am4 _,hm,λb _=>rfl⟩;rw[Kv,Bj,Cp,hT,Aa];simp only;rw[Ab3 (by decide),WY hZ.hp (by have:=hZ.hg;omega) hx,Aa]
  |err e he hF hT=>
   refine .inr ⟨x,e,he,Au6 hf ho hp hT (by omega),Aru hf hO,λb hL=>?_⟩;obtain⟨s1,s2,s3,s4,s5,s6,s7,s8,s9,s10,s11,s12,hs⟩:=(nE b hf hL hT (by omega)).2 (by omega);rw[Kv,Bj,Cp,hs,Aa];simp only;rw[Aau (by rw[jG (by omega)];decide),Ab3 (by rw[Ag];simp;omega),tV hx,Aa]
  |next p' f' c' w' r' n' g' a' x' hF hT hf' hZ' hle hmu=>
   have hp':p'.length<=100000:=by omega
   rcases Adb k q o p' f' c' w' r' n' g' a' x' hf' ho hZ' (Aqe hf ho hZ hO hT) hp' (by omega) (by omega)with⟨t2,t3,t4,t5,t6,t7,t8,t9,t10,k1,k2,k3,k4,k5⟩|⟨x2,e,k1,k2,k3,k4⟩
   ·refine .inl ⟨t2,t3,t4,t5,t6,t7,t8,t9,t10,?_,k2,by omega,by omega,λb hL=>?_⟩
    ·rw[Kv,Bj,Cp,hT,Aa];simp only;rw[Aau (by decide),Aau (by decide)];exact k1
    ·have hs:=(nE b hf hL hT (by decide)).1 rfl;have hL':(p'++b).length<=100000:=by rw[Aci]at hL⊢;omega
     rw[Kv,Bj,Cp,hs,Aa];simp only;rw[Aau (by decide),Aau (by decide)];refine(k5 b hL').trans ?_;exact zi k q (q+1) o (t2++b) t3 t4 t5 t6 t7 t8 t9 t10 false 0 k2.fit ho ⟨by rw[Aci]at hL⊢;omega,k2.sz.hg,k2.sz.hx⟩ k4 (by omega) (by omega)
   ·refine .inr ⟨x2,e,k1,k2,k3,λb hL=>?_⟩;have hs:=(nE b hf hL hT (by decide)).1 rfl;have hL':(p'++b).length<=100000:=by rw[Aci]at hL⊢;omega
    rw[Kv,Bj,Cp,hs,Aa];simp only;rw[Aau (by decide),Aau (by decide)];exact k4 b hL'
abbrev Fd(o s:LB):=Kv Ax o s 0 0 0 0 0 [] 0 []
inductive Bh (o s:LB):LB->Int->Int->Int->Int->Int->LI->Int->LB->Int->Prop
 |wt {p:LB} {f c w r n:Int} {g:LI} {a:Int} {x:LB}:Wt o p f c w r n g a x->p.length<=s.length-> (∀b:LB,(s++b).length<=100000->Fd o (s++b)=Kv Ax o (p++b) f c w r n g a x)->Bh o s p f c w r n g a x 0
 |er {x:LB} {e:Int}:0<e->Cd e->x.length<=12000-> (∀b:LB,(s++b).length<=100000->Fd o (s++b)=some (o,[],0,0,0,0,0,[],0,x,false,e,e))->Bh o s [] 0 0 0 0 0 [] 0 x e
variable {o s p:LB} {f c w r n:Int} {g:LI} {a:Int} {x:LB} {e:Int}
theorem Wt.stop(W:Wt o p f c w r n g a x):Kv Ax o p f c w r n g a x=some (o,p,f,c,w,r,n,g,a,x,false,0,0):=by
 obtain⟨q,hq⟩:∃q,Ax=q+1:=⟨Ax-1,by have:=As;omega⟩;have hx:x.length<=13000000:=by have:=W.sz.hx;omega
 rw[Kv,hq,Bj,Cp,W.wait,Aa];simp only;rw[Ab3 (by decide),WY W.sz.hp (by have:=W.sz.hg;omega) hx,Aa]
theorem Bh.fd(h:Bh o s p f c w r n g a x e)(hs:s.length<=100000):Fd o s=some (o,p,f,c,w,r,n,g,a,x,false,e,e):=by
 cases h with
 |wt W hl hb=>
  have:=hb [] (by simpa using hs);rw[Aue,Aue]at this;rw[this,W.stop]
 |er h0 hc hx hb=>
  have:=hb [] (by simpa using hs);rw[Aue]at this;exact this
theorem Bh.new(ho:o.length<=64):Bh o [] [] 0 0 0 0 0 [] 0 [] 0:=by
 refine .wt ⟨.new rfl rfl rfl rfl rfl rfl rfl rfl,⟨by simp,by simp,by simp⟩,OutB.nil,?_⟩ (Am4 _) λb _=>rfl;rw[Aj,Bo,Ab3 (by decide),AK [] (by simp),Aa];rfl
theorem Awk(ho:o.length<=64)(W:Wt o p f c w r n g a x)(b:LB)(hp:p.length<=20000)(hb:b.length<=20000):
  Ki o p f c w r n g a x false 0 b=Kv Ax o (p++b) f c w r n g a x/\Kc o p f c w r n g a x false 0 b=Kv Ax o (p++b) f c w r n g a x:=by
 have hR:Kc o p f c w r n g a x false 0 b=Kv Ax o (p++b) f c w r n g a x:=by
  have hx:x.length<=13000000:=by have:=W.sz.hx;omega
  have hg:g.length<=2000:=by have:=W.sz.hg;omega
  have hE:¬(Be (0:Int) 0=true):=by decide
  have hF:¬(false=true):=by decide
  rw[Kc,Tg,jk W.fit ho W.out W.wait,Aa,Aau hE,WY (by omega) hg hx,Aa];simp only;rw[Sm]
  repeat (first|rw[Aa]|rw[Aau hE]|rw[Aau hF])
  rw[Bw,Aa];rfl
 obtain⟨t1,t2,t3,t4,t5,t6,t7,t8,t9,t10,t11,t12,e,h1,h2,_⟩:=Bcf ho W.fit W.sz b hp hb;exact⟨h1.trans (h2.symm.trans hR),hR⟩
theorem Bh.check(ho:o.length<=64)(h:Bh o s p f c w r n g a x e)(hp:p.length<=100000):Pu o p f c w r n g a x false e=some 0/\Ea o p f c w r n g a x false e=some 0:=by
 have key:Ea o p f c w r n g a x false e=some 0/\g.length<=1000/\x.length<=13000000:=by
  cases h with
  |wt W hl hb=>exact⟨jk W.fit ho W.out W.wait,W.sz.hg,by have:=W.sz.hx;omega⟩
  |er h0 hc hx hb=>exact⟨yj ho hx hc h0,by simp,by omega⟩
 obtain⟨k1,k2,k3⟩:=key;obtain⟨E,e1,e2⟩:=lq o p f c w r n g a x false e hp (by omega) (by omega);rw[k1]at e2;cases e2;exact⟨e1,k1⟩
theorem Bh.feed(ho:o.length<=64)(h:Bh o s p f c w r n g a x e)(hp:p.length<=20000)(b:LB)(hb:b.length<=20000)(hs:(s++b).length<=100000):
  ∃(p':LB) (f' c' w' r' n':Int) (g':LI) (a':Int) (x':LB) (e':Int),Ki o p f c w r n g a x false e b=some (o,p',f',c',w',r',n',g',a',x',false,e',e')/\
   Kc o p f c w r n g a x false e b=some (o,p',f',c',w',r',n',g',a',x',false,e',e')/\Bh o (s++b) p' f' c' w' r' n' g' a' x' e':=by
 have hck:=h.check ho (by omega);cases h with
 |wt W hl hB=>
  obtain⟨h1,h2⟩:=Awk ho W b hp hb;have hpb:(p++b).length<=100000:=by rw[Aci];omega
  have hZ:SzD (p++b) g a x:=⟨hpb,W.sz.hg,W.sz.hx⟩;rcases Adb 1004 Ax o (p++b) f c w r n g a x W.fit ho hZ W.out hpb (Ar2 hZ) (by have:=As;omega)with⟨t2,t3,t4,t5,t6,t7,t8,t9,t10,k1,k2,k3,k4,k5⟩|⟨x2,e,k1,k2,k3,k4⟩
  ·refine⟨t2,t3,t4,t5,t6,t7,t8,t9,t10,0,h1.trans k1,h2.trans k1, .wt k2 ?_ λb2 hL=>?_⟩
   ·rw[Aci]at k3⊢;omega
   ·rw[Aej,hB (b++b2) (by rw[<-Aej];exact hL),<-Aej];refine k5 b2 ?_;rw[Aci,Aci]at hL⊢;omega
  ·have k4':=k4 [] (by simpa using hpb);rw[Aue]at k4';refine⟨_,_,_,_,_,_,_,_,_,_,h1.trans k4',h2.trans k4', .er k1 k2 k3 λb2 hL=>?_⟩;rw[Aej,hB (b++b2) (by rw[<-Aej];exact hL),<-Aej];refine k4 b2 ?_;rw[Aci,Aci]at hL⊢;omega
 |er h0 hc hx hB=>
  have hne:Be e 0=true:=by rw[Ag];simp;omega
  refine⟨_,_,_,_,_,_,_,_,_,_,?_,?_, .er h0 hc hx λb2 hL=>?_⟩
  ·rw[Ki,Xq,oW (by simp) (by simp) (by omega) hck.1,Aau (by decide),Aa];simp only;rw[Ab3 (show e≠0 by omega),Ab3 hne]
  ·rw[Kc,Tg,hck.2,Aa,Aau (by decide),WY (by simp) (by simp) (by omega),Aa];simp only;rw[Sm,Ab3 hne,Aa,Ab3 hne]
  ·rw[Aej];exact hB (b++b2) (by rw[<-Aej];exact hL)
end Go.Pl
namespace Go.Pl
open Go Go.Lv
section
variable {o s p:LB} {f c w r n:Int} {g:LI} {a:Int} {x:LB} {e:Int}
theorem FitD.drop(h:FitD o f c w r n g a x)(t:Nat):FitD o f c w r n g a (x.drop t):=by
 cases h with
 |new e1 e2 e3 e4 e5 e6 e7 e8=>subst e8;exact .new e1 e2 e3 e4 e5 e6 e7 (by simp)
 |head F C W R N hd hpw e6 e7 e8=>subst e8;exact .head F C W R N hd hpw e6 e7 (by simp)
 |tab F C W R N A hd hpw ht hl ea hA=>exact .tab F C W R N A hd hpw ht hl ea hA
theorem OutB.drop(h:OutB f c w r n g a x)(t:Nat):OutB f c w r n g a (x.drop t):=by
 intro F C W R N A hd hg ha;have:=h F C W R N A hd hg ha;rw[Agy];omega
theorem Bh.Ayk(h:Bh o s p f c w r n g a x e):p.length<=s.length/\g.length<=1000/\x.length<=12000:=by
 cases h with
 |wt W hl hb=>exact⟨hl,W.sz.hg,Aru W.fit W.out⟩
 |er h0 hc hx hb=>exact⟨by simp,by simp,hx⟩
end
section
variable {o s p:LB} {f c w r n:Int} {g:LI} {a:Int} {x:LB} {e:Int}
theorem Anl{u:Bool}{v:Int}(hp:p.length<=20000)(h:Cz o p f c w r n g a x u v=some e):Cd e:=by
 rw[Cz]at h;split at h
 ·rw[So p (by omega),Aa]at h;have hok:=Xs (b:=p);simp only at h;by_cases h2:(Bc p).2≠0
  ·rw[Ab3 (by rw[Ag];simpa using h2)]at h;cases h;exact zI p
  ·have h3:(Bc p).2=0:=by simpa using h2
   obtain⟨k1,k2,k3⟩:=hok h3;have hl:(Gx p).length<=p.length:=by rw[Gx,Agy];omega
   rw[Aau (by rw[Ag,h3];simp),Bl,Aa,show p.drop (Bc p).1.toNat=Gx p from rfl,RG _ (by omega),Aa]at h;cases h;exact Y2 _
 ·split at h
  ·cases h;decide
  ·obtain⟨⟨z1,z2⟩,hz,h⟩:=bZ h;simp only at h;split at h<;>(cases h;decide)
theorem Azc{u:Bool}{v k:Int}(ho:o.length<=64)(hx:x.length<=12000)(hk:(u=false/\v=k/\0<k/\Cd k)\/ (u=true/\v=0/\k=36)):
  Pu o [] 0 0 0 0 0 [] 0 x u v=some 0/\ (∀b,Ki o [] 0 0 0 0 0 [] 0 x u v b=some (o,[],0,0,0,0,0,[],0,x,u,v,k))/\Gb o [] 0 0 0 0 0 [] 0 x u v=some (o,[],0,0,0,0,0,[],0,x,u,v,k):=by
 have key:Ea o [] 0 0 0 0 0 [] 0 x u v=some 0:=by
  rcases hk with⟨rfl,rfl,h1,h2⟩|⟨rfl,rfl,rfl⟩
  ·exact yj ho hx h2 h1
  ·have hX:Ex (Ac x) 12000=false:=by rw[Aq,Ac];simp;omega
   rw[Ea,Aau (by rw[Aq,Ac];simp;omega),Aau (by decide),Ab3 (by decide),hX,Aau (by decide),Aau (by decide)]
 obtain⟨E,e1,e2⟩:=lq o [] 0 0 0 0 0 [] 0 x u v (by simp) (by simp) (by omega);rw[key]at e2;cases e2;have hv:(if v≠0 then v else if u=true then 36 else 0)=k:=by
  rcases hk with⟨rfl,rfl,h1,h2⟩|⟨rfl,rfl,rfl⟩
  ·rw[Ab3 (by omega)]
  ·rfl
 have hk0:Be k 0=true:=by
  rw[Ag];rcases hk with⟨rfl,rfl,h1,h2⟩|⟨rfl,rfl,rfl⟩
  ·simp;omega
  ·rfl
 have hb:=oW (o:=o) (p:=[]) (f:=0) (c:=0) (w:=0) (r:=0) (n:=0) (g:=[]) (a:=0) (x:=x) (u:=u) (v:=v) (by simp) (by simp) (by omega) e1;rw[Aau (by decide),hv]at hb;refine⟨e1,λb=>?_,?_⟩
 ·rw[Ki,Xq,hb,Aa];simp only;rw[Ab3 hk0]
 ·rw[Gb,hb,Aa];simp only;rw[Ab3 hk0]
theorem Bh.finish(ho:o.length<=64)(h:Bh o s p f c w r n g a x e)(hp:p.length<=20000):
  ∃(u:Bool) (v k:Int),Gb o p f c w r n g a x false e=some (o,[],0,0,0,0,0,[],0,x,u,v,k)/\ ((u=false/\v=k/\0<k/\Cd k/\ (e=0\/e=k))\/ (u=true/\v=0/\k=0)):=by
 have hs:=h.Ayk;have hck:=(h.check ho (by omega)).1;have hb:=oW (o:=o) (p:=p) (f:=f) (c:=c) (w:=w) (r:=r) (n:=n) (g:=g) (a:=a) (x:=x) (u:=false) (v:=e) (by omega) (by omega) (by omega) hck;rw[Aau (by decide)]at hb;cases h with
 |wt W hl hB=>
  obtain⟨e1,d1,d2⟩:=J6 (o:=o) (p:=p) (f:=f) (c:=c) (w:=w) (r:=r) (n:=n) (a:=a) (u:=false) (v:=0) (g:=g) (x:=x) hp;have hcd:=Anl hp d2;rw[Gb,hb,Aa];simp only;rw[Aau (by decide),d1,Aa];by_cases he:Be e1 0=true
  ·rw[Ab3 he];refine⟨false,e1,e1,rfl, .inl ⟨rfl,rfl,?_,hcd,by simp⟩⟩;have:=hcd.nn;rw[Ag]at he;simp only[Bfp]at he;omega
  ·rw[Aau he];exact⟨true,0,0,rfl, .inr ⟨rfl,rfl,rfl⟩⟩
 |er h0 hc hx hB=>
  have hne:Be e 0=true:=by rw[Ag];simp;omega
  rw[Gb,hb,Aa];simp only;rw[Ab3 (show e≠0 by omega),Ab3 hne];exact⟨false,e,e,rfl, .inl ⟨rfl,rfl,h0,hc, .inr rfl⟩⟩
end
section
variable {o p:LB} {f c w r n:Int} {g:LI} {a:Int} {x:LB} {q:Nat}
theorem BI(hp:p.length<=100000)(hg:g.length<=1000)(hx:x.length<=13000000)(h:Aj o p f c w r n g a x false 0=some (o,p,f,c,w,r,n,g,a,x,false,0, -1)):Kv (q+1) o p f c w r n g a x=some (o,p,f,c,w,r,n,g,a,x,false,0,0):=by
 rw[Kv,Bj,Cp,h,Aa];simp only;rw[Ab3 (by decide),WY hp (by omega) hx,Aa]
theorem QU(hx:x.length<=13000000){e:Int}(he:0<e){t2:LB}{t3 t4 t5 t6 t7:Int}{t8:LI}{t9:Int}{t11:Bool}{t12:Int}(h:Aj o p f c w r n g a x false 0=some (o,t2,t3,t4,t5,t6,t7,t8,t9,x,t11,t12,e)):Kv (q+1) o p f c w r n g a x=some (o,[],0,0,0,0,0,[],0,x,false,e,e):=by
 rw[Kv,Bj,Cp,h,Aa];simp only;rw[Aau (by rw[jG (by omega)];decide),Ab3 (by rw[Ag];simp;omega),tV hx,Aa]
theorem rV{p':LB}{f' c' w' r' n':Int}{g':LI}{a':Int}{x':LB}(h:Aj o p f c w r n g a x false 0=some (o,p',f',c',w',r',n',g',a',x',false,0,0)):Kv (q+1) o p f c w r n g a x=Kv q o p' f' c' w' r' n' g' a' x':=by
 rw[Kv,Bj,Cp,h,Aa];simp only;rw[Aau (by decide),Aau (by decide)]
end
def Ends(o:LB)(R:Option Bai)(x:LB)(e:Int):Prop:=(0<e/\R=some (o,[],0,0,0,0,0,[],0,x,false,e,e))\/ (∃(p:LB) (f c w r n:Int) (g:LI) (a:Int),p.length<=100000/\R=some (o,p,f,c,w,r,n,g,a,x,false,0,0)/\Cz o p f c w r n g a x false 0=some e)
theorem tZ(b p:LB)(hb:b.length<=20000)(hp:p.length<=64)(q:Nat):
  (∃e:Int,e≠0/\Ba b p=some (Ph e)/\Ends p (Kv (q+2) p b 0 0 0 0 0 [] 0 []) [] e)\/ (∃f c w r n A l,Opn b p f c w r n A l/\Kv (q+2) p b 0 0 0 0 0 [] 0 []=Kv q p (b.drop A) (f:Int) (c:Int) (w:Int) (r:Int) (n:Int) l 0 []):=by
 have hx0:([]:LB).length<=13000000:=by simp
 have hg0:([]:LI).length<=1000:=by simp
 have hT:Aj p b 0 0 0 0 0 [] 0 [] false 0=Aj p b 0 0 0 0 0 [] 0 [] false 0:=rfl
 conv at hT=>rhs;rw[Aj,Bo,Ab3 (by decide),AK b (by omega),Aa,stS]
 have hE:Cz p b 0 0 0 0 0 [] 0 [] false 0=Cz p b 0 0 0 0 0 [] 0 [] false 0:=rfl
 conv at hE=>rhs;rw[Cz,Ab3 (by decide),So b (by omega),Aa]
 have hP:Ba b p=Ba b p:=rfl
 conv at hP=>rhs;rw[Ba,Hk,Aau (by rw[Aq,Ac];simp;omega),Aau (by rw[Aq,Ac];simp;omega),Eb b (by omega),Aa]
 have hfn:=D2 b;have hrn:=T9 (Gx b);have hopen:=jB b p (by omega) hp;simp only at hE;by_cases h2:(Bc b).2=0
 ·obtain⟨p0,p1,p2⟩:=Xs h2;have hc:=Bl (l:=b) p0 p1;have hlen:(Gx b).length=b.length-(Bc b).1.toNat:=by simp[Gx]
  simp only[h2]at hP hE;rw[Aau (show ¬(Bc b).2=24 by omega),Aau (show ¬(Bc b).2≠0 by omega)]at hT;rw[Aau (by rw[Ag];simp),hc,Aa,show b.drop (Bc b).1.toNat=Gx b from rfl,Mj _ (by simp[Gx];omega),Aa]at hP;rw[Aau (by rw[Ag];simp),hc,Aa,show b.drop (Bc b).1.toNat=Gx b from rfl,RG _ (by simp[Gx];omega),Aa]at hE;by_cases h3:(Dm (Gx b)).2.2.2.2.2=0
  ·obtain⟨g1,g2,g3,g4⟩:=RM h3;have Ax7:¬((Pe (Gx b) G5||Pe (Gx b) K1)=true):=by
    have i1:Pe (Gx b) G5=false:=by rw[Pe,Ayn (by simp[G5];omega)];rfl
    have i2:Pe (Gx b) K1=false:=by rw[Pe,Ayn (by simp[K1];omega)];rfl
    rw[i1,i2];decide
   rw[Aau Ax7,Aau (show ¬(Dm (Gx b)).2.2.2.2.2=24 by omega),h3]at hT;simp only at hT;rw[Aau (by decide)]at hT;have hd:HdI (f0 (Gx b):Int) (f1 (Gx b):Int) (f2 (Gx b):Int) (f3 (Gx b):Int) (f4 (Gx b):Int) (f0 (Gx b)) (f1 (Gx b)) (f2 (Gx b)) (f3 (Gx b)) (f4 (Gx b)):=⟨rfl,rfl,rfl,rfl,rfl,g3,g4⟩;generalize hF:(Bc b).1.toNat=F at*
   have hF':(Bc b).1=(F:Int):=by omega
   rw[g1,hF']at hP hT;simp only at hP hT;generalize f0 (Gx b)=f at*
   generalize f1 (Gx b)=c at*
   generalize f2 (Gx b)=w at*
   generalize f3 (Gx b)=r at*
   generalize f4 (Gx b)=n at*
   have t22:Ad (F:Int) 22=((F+22:Nat):Int):=by rw[Ak];omega
   have t30:Ad ((F+22:Nat):Int) 8=((F+30:Nat):Int):=by rw[Ak];omega
   have Aub:f=1\/f=2:=by simp only[Eo,Acj]at g3;omega
   have hf1:geq (f:Int) 1=decide (f=1):=by rw[Ar,Ajf];simp;omega
   rw[Aau (by rw[Ag];simp),t22,t30]at hP;rw[Bl,Aa,Hl,He,Es,show((F:Int)+22).toNat=F+22 by omega]at hT;by_cases Wb:((p==([]:List UInt8)) !=(geq (f:Int) (1:Int)))=true
   ·rw[Ab3 Wb]at hP hT;rw[Aa]at hT;exact .inl ⟨26,by omega,hP, .inl ⟨by omega,QU (q:=q+1) hx0 (by decide) hT⟩⟩
   ·rw[Aau Wb]at hP hT;rw[Aa]at hT;have hl1:=rV (q:=q+1) hT;have hpf:(p=[]↔f=1):=by
     rw[Ar]at Wb;have h5:(p==([]:List UInt8))=((f:Int)==1):=by simpa using Wb
     have h6:(p==([]:List UInt8))=true↔((f:Int)==1)=true:=by rw[h5]
     rw[Aug,Aug]at h6;rw[h6];omega
    have hpw:(p==([]:LB))=decide (f=1):=by rw[<-hf1];simpa using Wb
    have hdl:(b.drop (F+22)).length=b.length-(F+22):=Agy;have hE2:Cz p (b.drop (F+22)) (f:Int) (c:Int) (w:Int) (r:Int) (n:Int) [] 0 [] false 0=some 24:=by
     rw[Cz,Aau (by rw[Ar];simp;omega),Ab3 (by decide)]
    have E1:Aj p (b.drop (F+22)) (f:Int) (c:Int) (w:Int) (r:Int) (n:Int) [] 0 [] false 0=Aj p (b.drop (F+22)) (f:Int) (c:Int) (w:Int) (r:Int) (n:Int) [] 0 [] false 0:=rfl
    conv at E1=>rhs;rw[Aj,Bo,Aau (by rw[Ar];simp;omega),By,Bz,Ab3 (by decide),Fc,Ia]
    have hend:∀D:Nat,F+22+D<=b.length->D=(if f=2 then 8 else 0)->Ba b p=Ja b (f:Int) (c:Int) (w:Int) (r:Int) (n:Int) ((F+22+D:Nat):Int)->
      Aj p (b.drop (F+22)) (f:Int) (c:Int) (w:Int) (r:Int) (n:Int) [] 0 [] false 0=((Du (b.drop (F+22)) (f:Int) (c:Int) (w:Int) (r:Int) (n:Int) (D:Int)).bind (λ(ag,ak,w1)=>if(Be w1 0)then some (p,b.drop (F+22),(f:Int),(c:Int),(w:Int),(r:Int),(n:Int),([]:LI),(0:Int),([]:LB),false,(0:Int),w1)else(Bm (b.drop (F+22)) ag (Ac (b.drop (F+22)))).bind λal=>some (p,al,(f:Int),(c:Int),(w:Int),(r:Int),(n:Int),ak,(0:Int),([]:LB),false,(0:Int),(0:Int))))->
      (∃e:Int,e≠0/\Ba b p=some (Ph e)/\Ends p (Kv (q+2) p b 0 0 0 0 0 [] 0 []) [] e)\/ (∃f c w r n A l,Opn b p f c w r n A l/\Kv (q+2) p b 0 0 0 0 0 [] 0 []=Kv q p (b.drop A) (f:Int) (c:Int) (w:Int) (r:Int) (n:Int) l 0 []):=by
     intro D hD hD2 e1 e2;obtain⟨_,k2,k3⟩:=D6 hd p (b.drop (F+22)) (by omega) D (by omega) 0 [] false 0;rw[VY g3 g4 b (by omega) (F+22+D) hD]at e1;rw[k2,Aa]at e2;have hnn:=Y7 ((b.drop (F+22)).drop D) (Ah (Am r) n).length;have hok:=gC (b:=(b.drop (F+22)).drop D) (n:=(Ah (Am r) n).length);rw[Bbj]at e2 hnn hok k3;generalize hz:Ds (b.drop (F+22+D)) (Ah (Am r) n).length=z at*
     obtain⟨z1,z2⟩:=z;simp only at e1 e2 hnn hok k3;by_cases h:z2≠0
     ·rw[Ab3 h]at e1;refine .inl ⟨z2,h,e1,?_⟩;by_cases h24:z2=24
      ·rw[Ab3 h24]at e2;simp only at e2;rw[Ab3 (by decide)]at e2;rw[h24];exact .inr ⟨_,_,_,_,_,_,_,_,by omega,hl1.trans (BI (by omega) hg0 hx0 e2),hE2⟩
      ·rw[Aau h24]at e2;simp only at e2;rw[Ab3 (by rw[Ag];simpa using h)]at e2;exact .inl ⟨by omega,hl1.trans (QU hx0 (by omega) e2)⟩
     ·have h0:z2=0:=by simpa using h
      subst h0;obtain⟨k1,m2,m3,m4,m5,m6⟩:=hok rfl;have hk3:=k3 rfl;simp only[Agt,Bf0]at k1;have gl:z1.length=(Ah (Am r) n).length:=by rw[k1];exact Uu _ _
      rw[Aau (show ¬((0:Int)≠0) by decide)]at e1;rw[Aau (show ¬((0:Int)=24) by decide)]at e2;simp only at e2;rw[Aau (by decide),Bl,Aa,Bbj]at e2;rcases hopen with⟨e,he,h1,_⟩|⟨f',c',w',r',n',A',l',o'⟩
      ·rw[e1]at h1;have:=Apf h1;simp only[Ph,Agt]at this;exact absurd this.2.2.2.2.2.2.2.symm he
      ·have hpr:=o'.prog;rw[e1]at hpr;simp only[Acm,Agt]at hpr;obtain⟨v1,v2,v3,v4,v5,v6,v7,_⟩:=hpr;refine .inr ⟨f',c',w',r',n',A',l',o',?_⟩;rw[<-v1,<-v2,<-v3,<-v4,<-v5,<-v7];refine hl1.trans ((rV e2).trans ?_);congr 2;omega
    by_cases h5:f=2
    ·have Agw:p≠ []:=λe=>by have:=hpf.1 e;omega
     have h64:(p !=([]:List UInt8))=true:=by simpa using Agw
     rw[Ab3 h64]at hP;rw[Ab3 (by rw[Ar,h5];rfl)]at E1;by_cases h6:b.length<F+30
     ·rw[Ab3 (by rw[Ae,Ac];simp;omega)]at hP E1;rw[Aa]at E1;simp only at E1;rw[Ab3 (by decide)]at E1;exact .inl ⟨24,by omega,hP, .inr ⟨_,_,_,_,_,_,_,_,by omega,hl1.trans (BI (by omega) hg0 hx0 E1),hE2⟩⟩
     ·have hseg:((b.take (F+30)).drop (F+22)).length=8:=by simp;omega
      have Bey:(b.drop (F+22)).take 8=(b.take (F+30)).drop (F+22):=by rw[Bd5];congr 1;omega
      rw[Aau (by rw[Ae,Ac];simp;omega),Oa,Aa]at hP;rw[Aau (by rw[Ae,Ac,hdl];simp;omega),Dg,Aa,VU p hp,Aa,show(8:Int).toNat=8 from rfl,Bey]at E1;rw[Pg,rQ p hp,Aa]at hP;simp only at hP;rw[Aau (by rw[Ag,Ag,Ac,Ac,Ca,show((F+30:Nat):Int).toNat=F+30 from rfl,show((F+22:Nat):Int).toNat=F+22 from rfl,hseg];simp),Iq,Aa,Aa]at hP;simp only at hP;rw[Aau (by rw[Ag];simp),show((F+30:Nat):Int).toNat=F+30 from rfl,show((F+22:Nat):Int).toNat=F+22 from rfl]at hP;generalize(b.take (F+30)).drop (F+22)=mY at*
      by_cases h7:mY=Rc (Rp p).toNat 8
      ·rw[Aau (by simp[h7])]at hP E1;exact hend 8 (by omega) (by rw[Ab3 h5]) hP E1
      ·rw[Ab3 (by simpa using h7)]at hP;rw[Ab3 (by simpa using h7),Aa]at E1;simp only at E1;rw[Ab3 (by decide)]at E1;exact .inl ⟨26,by omega,hP, .inl ⟨by omega,hl1.trans (QU hx0 (by decide) E1)⟩⟩
    ·have hpe:p=[]:=hpf.2 (by omega);rw[Aau (by rw[hpe];simp)]at hP;rw[Aau (by rw[Ar];simp;omega)]at E1;exact hend 0 (by omega) (by rw[Aau h5]) hP E1
  ·have h3':=h3;generalize Dm (Gx b)=v at*
   obtain⟨v1,v2,v3,v4,v5,v6⟩:=v;simp only at h3 hP hE hrn;rw[Ab3 (by rw[Ag];simpa using h3)]at hP;refine .inl ⟨v6,h3,hP,?_⟩;by_cases Ax7:(Pe (Gx b) G5||Pe (Gx b) K1)=true
   ·rw[Ab3 Ax7]at hT;simp only at hT;rw[Ab3 (by decide)]at hT;exact .inr ⟨_,_,_,_,_,_,_,_,by omega,BI (by omega) hg0 hx0 hT,hE⟩
   ·rw[Aau Ax7]at hT;by_cases h24:v6=24
    ·rw[Ab3 h24]at hT;simp only at hT;rw[Ab3 (by decide)]at hT;exact .inr ⟨_,_,_,_,_,_,_,_,by omega,BI (by omega) hg0 hx0 hT,hE⟩
    ·rw[Aau h24]at hT;simp only at hT;rw[Ab3 (by rw[Ag];simpa using h3)]at hT;exact .inl ⟨by omega,QU hx0 (by omega) hT⟩
 ·have h2':=h2;generalize Bc b=v at*
  obtain⟨v,e⟩:=v;simp only at h2 hP hT hE hfn;rw[Ab3 (by rw[Ag];simpa using h2)]at hP hE;refine .inl ⟨e,h2,hP,?_⟩;by_cases h24:e=24
  ·rw[Ab3 h24]at hT;simp only at hT;rw[Ab3 (by decide)]at hT;exact .inr ⟨_,_,_,_,_,_,_,_,by omega,BI (by omega) hg0 hx0 hT,hE⟩
  ·rw[Aau h24,Ab3 h2]at hT;simp only at hT;rw[Ab3 (by rw[Ag];simpa using h2)]at hT;exact .inl ⟨by omega,QU hx0 (by omega) hT⟩
section
variable {b p:List UInt8} {f c w r n A:Nat} {l:List Int} (o:Opn b p f c w r n A l) (hb:b.length<=20000)
include o hb
theorem I0:∀(j k q:Nat) (acc:List UInt8),k+j=l.length->j<q-> (A:Int)+(l.take k).sum<=b.length->acc.length<=12000*k->
  ∃X,Ends p (Kv q p (b.drop ((A:Int)+(l.take k).sum).toNat) (f:Int) (c:Int) (w:Int) (r:Int) (n:Int) l (k:Int) acc) X (lD (Gu b p f c w r n A l) (sN b A l) j k acc).2/\
   ((lD (Gu b p f c w r n A l) (sN b A l) j k acc).2=0->X=(lD (Gu b p f c w r n A l) (sN b A l) j k acc).1)
 |j,k,0,_,_,h,_,_=>absurd h (Bc8 _)
 |j,k,q+1,acc,hk,hq,hA,ha=>by
  have hd:HdI (f:Int) (c:Int) (w:Int) (r:Int) (n:Int) f c w r n:=⟨rfl,rfl,rfl,rfl,rfl,o.shape,o.fit⟩;have hs1:=o.some1;have hsum:=o.sum;have DR:=hd.num;have hlen:=o.len;have b1:=Fh o.five k;have hfn:¬(geq (f:Int) 0=true):=by rw[Ar];simp;omega
  have hgl:¬(geq (Ac l) 0=true):=by rw[Ar,Ac,Aug];omega
  have hgf:geq (Ac l) 0=false:=by simpa using hgl
  generalize hIn:b.drop ((A:Int)+(l.take k).sum).toNat=In;have Ba5:In.length=b.length-((A:Int)+(l.take k).sum).toNat:=by rw[<-hIn,Agy]
  have hT:Aj p In (f:Int) (c:Int) (w:Int) (r:Int) (n:Int) l (k:Int) acc false 0=Aj p In (f:Int) (c:Int) (w:Int) (r:Int) (n:Int) l (k:Int) acc false 0:=rfl
  conv at hT=>rhs;rw[Aj,Bo,Aau hfn,By,Bz,Aau hgl]
  have hE:Cz p In (f:Int) (c:Int) (w:Int) (r:Int) (n:Int) l (k:Int) acc false 0=Cz p In (f:Int) (c:Int) (w:Int) (r:Int) (n:Int) l (k:Int) acc false 0:=rfl
  conv at hE=>rhs;rw[Cz,Aau hfn]
  cases j with
  |zero=>
   obtain rfl:k=l.length:=by omega
   rw[Ba9]at hIn Ba5;have hbe:sN b A l=(Xe In).2:=by rw[sN,hIn]
   rw[Ab3 (by rw[Ar,Ac];simp)]at hT;have hgt:Cj (l.length:Int) (Ac l)=false:=by rw[Ae,Ac,Bbe];omega
   rw[Aau (by rw[hgf,hgt];decide),vC In (by omega),Aa]at hE;rw[lD,hbe];have hbz:=qi In;have hb4:4000<In.length-> (Xe In).2=38:=λh4=>by rw[Xe,Ab3 h4]
   generalize Xe In=z at*
   obtain⟨z1,z2⟩:=z;simp only at hE hbz hb4⊢;by_cases h4:4000<In.length
   ·rw[Ab3 (by rw[Aq,Ac];simp;omega)]at hT;rw[hb4 h4,Ab3 (by decide)];exact⟨acc, .inl ⟨by decide,QU (by omega) (by decide) hT⟩,λh=>by cases h⟩
   ·rw[Aau (by rw[Aq,Ac];simp;omega)]at hT;have hlw:=BI (q:=q) (by omega:In.length<=100000) hs1.2 (by omega) hT;rcases hbz with h|h
    ·rw[h,Aau (by decide)];rw[h,Aau (by decide)]at hE;exact⟨acc, .inr ⟨_,_,_,_,_,_,_,_,by omega,hlw,hE⟩,λ_=>rfl⟩
    ·rw[h,Ab3 (by decide)];rw[h,Ab3 (by decide)]at hE;exact⟨acc, .inr ⟨_,_,_,_,_,_,_,_,by omega,hlw,hE⟩,λh=>by cases h⟩
  |succ j=>
   have hlt:k<l.length:=by omega
   have hlt2:k<(Ah (Am r) n).length:=by omega
   obtain⟨m,x,s,e,g⟩:=Qa o k hlt;have hw:Bu (w:Int):=(Kz o.shape).2.1;have Ajg:=g.lens hw;have b2:=Fh o.five (k+1);have e1:=Gd hlt;have h5:=o.five l[k] (Ams _);have hm:=g.mom;rw[Aau (by rw[Ar,Ac];simp;omega),Dj,El,Bn hlt,Aa]at hT;have hgt:Cj (k:Int) (Ac l)=true:=by rw[Ae,Ac,Acj];omega
   rw[Ab3 (by rw[hgf,hgt];decide)]at hE;rw[lD,g.eq];simp only;rcases g.way with⟨w1,rfl⟩|⟨w1,_,w2⟩
   ·rw[Ab3 (by rw[Ae,Ac];simp;omega),Aa]at hT;simp only at hT;rw[Ab3 (by decide)]at hT;rw[Ab3 (by decide)];exact⟨acc, .inr ⟨_,_,_,_,_,_,_,_,by omega,BI (by omega) hs1.2 (by omega) hT,hE⟩,λh=>by cases h⟩
   ·have hseg:In.take l[k].toNat=sH b A l k:=by
     rw[sH,<-hIn,Bd5];congr 1;omega
    have hnn:=rA hw (Kj p) DR.2.1.1 DR.2.1.2 g.pos.1 (by
     have hlt3:=Bn hlt2;rw[hlt3]at hm;have hm':=Apf hm;obtain⟨m',hm2,m1,m2⟩:=Ti (Fe r) DR.2.2.2.2.1 (Ams hlt2);omega) w2
    rw[Aau (by rw[Ae,Ac];simp;omega),JS p o.pass,Aa]at hT;simp only at hT;rw[Dg,Aa,hseg,Fy,Aa]at hT;simp only at hT;rw[hd.Aaq,Aa,hm,Aa,Aa,w2,Aa]at hT;simp only at hT;rw[Em,Ej]at hT;by_cases he:e≠0
    ·rw[Ab3 (by rw[Ag];simpa using he),Aa]at hT;simp only at hT;rw[Ab3 (by rw[Ag];simpa using he)]at hT;rw[Ab3 he];exact⟨acc, .inl ⟨by simp only;omega,QU (by omega) (by omega) hT⟩,λh=>absurd h he⟩
    ·have he0:e=0:=by simpa using he
     obtain⟨q1,q2,q3,q4,q5⟩:=g.some' he0;rw[Aau (by rw[Ag];simpa using he),FU hw (by omega) q3,<-q1,Aa,Aa]at hT;simp only at hT;rw[Aau (by decide),Bw (by simp;omega),Aa,Auc,Bw,Aa,Aa,Bl,Aa,Ak]at hT;rw[Aau he,rV hT];have Ba6:In.drop l[k].toNat=b.drop ((A:Int)+(l.take (k+1)).sum).toNat:=by rw[<-hIn,Bbj];congr 1;omega
     rw[Ba6];exact I0 j (k+1) q (acc++s) (by omega) (by omega) q5 (by rw[Aci];omega)
end
theorem Ao9(b p:LB)(hb:b.length<=20000)(hp:p.length<=64):∃(X:LB) (x1 x2 x3:Int) (x4:LX) (E:Int),Ends p (Fd p b) X E/\Ra b p=some (x1,x2,x3,x4,E)/\ (E=0->Jq x2 x4=some (X,0)):=by
 obtain⟨q,hq⟩:∃q,Ax=q+1002+2:=⟨Ax-1004,by have:=As;omega⟩;rw[Fd,hq];rcases tZ b p hb hp (q+1002)with⟨e,he,h1,h2⟩|⟨f,c,w,r,n,A,l,o,h2⟩
 ·rcases M4 b p (by omega) hp with⟨e',he',k1,_,k3,_⟩|⟨f,c,w,r,n,A,l,o,_,_⟩
  ·rw[h1]at k1;have:=Apf k1;simp only[Ph,Agt]at this;obtain rfl:=this.2.2.2.2.2.2.2;exact⟨[],0,0,0,[],e,h2,k3,λh=>absurd h he⟩
  ·have:=o.prog;rw[h1]at this;have:=Apf this;simp only[Ph,Agt]at this;exact absurd this.2.2.2.2.2.2.2 he
 ·rcases M4 b p (by omega) hp with⟨e',he',k1,_,k3,_⟩|⟨f',c',w',r',n',A',l',o',k3,_⟩
  ·have:=o.prog;rw[k1]at this;have:=Apf this;simp only[Ph,Agt]at this;exact absurd this.2.2.2.2.2.2.2 he'
  ·have hpr:=o'.prog;rw[o.prog]at hpr;simp only[Acm,Agt]at hpr;obtain⟨v1,v2,v3,v4,v5,v6,v7,_⟩:=hpr;obtain rfl:f=f':=by omega
   obtain rfl:c=c':=by omega
   obtain rfl:w=w':=by omega
   obtain rfl:r=r':=by omega
   obtain rfl:n=n':=by omega
   obtain rfl:A=A':=by omega
   subst v7;have hs1:=o.some1;have hat:=o.at';obtain⟨X,g1,g2⟩:=I0 o hb l.length 0 (q+1002) [] (by omega) (by omega) (by rw[Bbi,Bd3];omega) (by simp);rw[Bbi,Bd3,Int.add_zero,Ae3]at g1;have hrc:=Adm w (Gu b p f c w r n A l) (sN b A l) l.length 0 [] [];have hgd:=Ac3 (λk=>pg w (Gu b p f c w r n A l k)) (λk=>(Gu b p f c w r n A l k).2) (sN b A l) l.length 0 [];rw[Afg,gR]at k3;rw[h2];by_cases hC:(fO (λk=>pg w (Gu b p f c w r n A l k)) (λk=>(Gu b p f c w r n A l k).2) (sN b A l) l.length 0 []).2≠0
   ·rw[Ab3 hC,O2]at k3;rw[<-hrc]at hC k3;exact⟨X,0,0,0,[],_,g1,k3,λh=>absurd h hC⟩
   ·have hC0:(fO (λk=>pg w (Gu b p f c w r n A l k)) (λk=>(Gu b p f c w r n A l k).2) (sN b A l) l.length 0 []).2=0:=by simpa using hC
    obtain⟨hbe,hE',hC1⟩:=hgd hC0;have hE:∀i,i<l.length-> (Gu b p f c w r n A l i).2=0:=λi hi=>hE' i (by omega) (by omega);rw[Auc]at hC1;rw[Aau hC,hC1]at k3;rw[hC0]at hrc;have hX:=g2 hrc;rw[hbe,zf _ _ _ _ λi h1 h2=>hE i (by omega),Auc]at hX;rw[hrc]at g1;exact⟨X,_,_,_,_,0,g1,k3,λ_=>by rw[hX];exact Amz o hE⟩
section
variable {b p:List UInt8} {f c w r n A:Nat} {l:List Int} (o:Opn b p f c w r n A l) (hb:b.length<=20000)
include o hb
theorem vT{k:Nat}(hk:k<l.length)(h0:(A:Int)+(l.take k).sum<=b.length)(acc:LB)(hacc:acc.length<=12000*k):
  (b.length<(A:Int)+(l.take (k+1)).sum->∀q,Kv (q+1) p (b.drop ((A:Int)+(l.take k).sum).toNat) (f:Int) (c:Int) (w:Int) (r:Int) (n:Int) l (k:Int) acc=some (p,b.drop ((A:Int)+(l.take k).sum).toNat,(f:Int),(c:Int),(w:Int),(r:Int),(n:Int),l,(k:Int),acc,false,0,0))/\
  ((A:Int)+(l.take (k+1)).sum<=b.length-> ((Gu b p f c w r n A l k).2=0->∀q,Kv (q+1) p (b.drop ((A:Int)+(l.take k).sum).toNat) (f:Int) (c:Int) (w:Int) (r:Int) (n:Int) l (k:Int) acc=Kv q p (b.drop ((A:Int)+(l.take (k+1)).sum).toNat) (f:Int) (c:Int) (w:Int) (r:Int) (n:Int) l ((k+1:Nat):Int) (acc++(Gu b p f c w r n A l k).1))/\
   ((Gu b p f c w r n A l k).2≠0->∀q,Kv (q+1) p (b.drop ((A:Int)+(l.take k).sum).toNat) (f:Int) (c:Int) (w:Int) (r:Int) (n:Int) l (k:Int) acc=some (p,[],0,0,0,0,0,[],0,acc,false,(Gu b p f c w r n A l k).2,(Gu b p f c w r n A l k).2))):=by
 have hd:HdI (f:Int) (c:Int) (w:Int) (r:Int) (n:Int) f c w r n:=⟨rfl,rfl,rfl,rfl,rfl,o.shape,o.fit⟩;have hs1:=o.some1;have hsum:=o.sum;have DR:=hd.num;have hlen:=o.len;have b1:=Fh o.five k;have hfn:¬(geq (f:Int) 0=true):=by rw[Ar];simp;omega
 have hgl:¬(geq (Ac l) 0=true):=by rw[Ar,Ac,Aug];omega
 generalize hIn:b.drop ((A:Int)+(l.take k).sum).toNat=In;have Ba5:In.length=b.length-((A:Int)+(l.take k).sum).toNat:=by rw[<-hIn,Agy]
 have hT:Aj p In (f:Int) (c:Int) (w:Int) (r:Int) (n:Int) l (k:Int) acc false 0=Aj p In (f:Int) (c:Int) (w:Int) (r:Int) (n:Int) l (k:Int) acc false 0:=rfl
 conv at hT=>rhs;rw[Aj,Bo,Aau hfn,By,Bz,Aau hgl]
 have hlt2:k<(Ah (Am r) n).length:=by omega
 obtain⟨m,x,s,e,g⟩:=Qa o k hk;have hw:Bu (w:Int):=(Kz o.shape).2.1;have Ajg:=g.lens hw;have b2:=Fh o.five (k+1);have e1:=Gd hk;have h5:=o.five l[k] (Ams _);have hm:=g.mom;rw[Aau (by rw[Ar,Ac];simp;omega),Dj,El,Bn hk,Aa]at hT;rw[g.eq];simp only;refine⟨λhlt q=>?_,λhge=>?_⟩
 ·rw[Ab3 (by rw[Ae,Ac];simp;omega),Aa]at hT;simp only at hT;rw[Ab3 (by decide)]at hT;exact BI (by omega) hs1.2 (by omega) hT
 rcases g.way with⟨w1,_⟩|⟨w1,_,w2⟩
 ·omega
 have hseg:In.take l[k].toNat=sH b A l k:=by
  rw[sH,<-hIn,Bd5];congr 1;omega
 have hnn:=rA hw (Kj p) DR.2.1.1 DR.2.1.2 g.pos.1 (by
  have hlt3:=Bn hlt2;rw[hlt3]at hm;have hm':=Apf hm;obtain⟨m',hm2,m1,m2⟩:=Ti (Fe r) DR.2.2.2.2.1 (Ams hlt2);omega) w2
 rw[Aau (by rw[Ae,Ac];simp;omega),JS p o.pass,Aa]at hT;simp only at hT;rw[Dg,Aa,hseg,Fy,Aa]at hT;simp only at hT;rw[hd.Aaq,Aa,hm,Aa,Aa,w2,Aa]at hT;simp only at hT;rw[Em,Ej]at hT;refine⟨λhe q=>?_,λhe q=>?_⟩
 ·obtain⟨q1,q2,q3,q4,q5⟩:=g.some' he;rw[Aau (by rw[Ag];simpa using he),FU hw (by omega) q3,<-q1,Aa,Aa]at hT;simp only at hT;rw[Aau (by decide),Bw (by simp;omega),Aa,Auc,Bw,Aa,Aa,Bl,Aa,Ak]at hT;rw[rV hT];have Ba6:In.drop l[k].toNat=b.drop ((A:Int)+(l.take (k+1)).sum).toNat:=by rw[<-hIn,Bbj];congr 1;omega
  rw[Ba6];rfl
 ·rw[Ab3 (by rw[Ag];simpa using he),Aa]at hT;simp only at hT;rw[Ab3 (by rw[Ag];simpa using he)]at hT;exact QU (by omega) (by omega) hT
theorem vU:∀(j k q:Nat) (acc:LB),k+j<=l.length-> (A:Int)+(l.take (k+j)).sum<=b.length-> (∀i,k<=i->i<k+j-> (Gu b p f c w r n A l i).2=0)->acc.length<=12000*k->
  Kv (q+j) p (b.drop ((A:Int)+(l.take k).sum).toNat) (f:Int) (c:Int) (w:Int) (r:Int) (n:Int) l (k:Int) acc=Kv q p (b.drop ((A:Int)+(l.take (k+j)).sum).toNat) (f:Int) (c:Int) (w:Int) (r:Int) (n:Int) l ((k+j:Nat):Int) (acc++Qi (λi=>(Gu b p f c w r n A l i).1) j k)
 |0,k,q,acc,_,_,_,_=>by simp[Qi]
 |j+1,k,q,acc,hk,hA,hg,hacc=>by
  have hnn:∀z∈l,0<=z:=λz hz=>by have:=o.five z hz;omega
  have m0:=vY hnn (show k<=k+(j+1) by omega);have m1:=vY hnn (show k+1<=k+(j+1) by omega);obtain⟨_,h2⟩:=vT (hb:=hb) o (k:=k) (by omega) (by omega) acc hacc;have h3:=(h2 (by omega)).1 (hg k (by omega) (by omega)) (q+j);obtain⟨m,x,s,e,g⟩:=Qa o k (by omega);have Ajg:=g.lens (Kz o.shape).2.1;have hs:(Gu b p f c w r n A l k).1.length<=12000:=by rw[g.eq];exact Ajg.1
  have ih:=vU j (k+1) q (acc++(Gu b p f c w r n A l k).1) (by omega) (by rw[show k+1+j=k+(j+1) by omega];exact hA) (λi h1 h2=>hg i (by omega) (by omega)) (by rw[Aci];omega);rw[show q+(j+1)=q+j+1 by omega,h3,ih,show k+1+j=k+(j+1) by omega,Qi,Aej]
theorem Asx{acc:LB}(hacc:acc.length<=13000000)(h0:(A:Int)+l.sum<=b.length)(h4:b.length<= (A:Int)+l.sum+4000)(q:Nat):Kv (q+1) p (b.drop ((A:Int)+l.sum).toNat) (f:Int) (c:Int) (w:Int) (r:Int) (n:Int) l (l.length:Int) acc=some (p,b.drop ((A:Int)+l.sum).toNat,(f:Int),(c:Int),(w:Int),(r:Int),(n:Int),l,(l.length:Int),acc,false,0,0):=by
 have hd:HdI (f:Int) (c:Int) (w:Int) (r:Int) (n:Int) f c w r n:=⟨rfl,rfl,rfl,rfl,rfl,o.shape,o.fit⟩;have hs1:=o.some1;have DR:=hd.num;have hfn:¬(geq (f:Int) 0=true):=by rw[Ar];simp;omega
 have hgl:¬(geq (Ac l) 0=true):=by rw[Ar,Ac,Aug];omega
 have hl0:0<=l.sum:=Amx l o.five;generalize hIn:b.drop ((A:Int)+l.sum).toNat=In;have Ba5:In.length=b.length-((A:Int)+l.sum).toNat:=by rw[<-hIn,Agy]
 have hT:Aj p In (f:Int) (c:Int) (w:Int) (r:Int) (n:Int) l (l.length:Int) acc false 0=Aj p In (f:Int) (c:Int) (w:Int) (r:Int) (n:Int) l (l.length:Int) acc false 0:=rfl
 conv at hT=>rhs;rw[Aj,Bo,Aau hfn,By,Bz,Aau hgl]
 rw[Ab3 (by rw[Ar,Ac];simp),Aau (by rw[Aq,Ac];simp;omega)]at hT;exact BI (by omega) hs1.2 hacc hT
theorem wh(q:Nat):Kv (q+2) p b 0 0 0 0 0 [] 0 []=Kv q p (b.drop A) (f:Int) (c:Int) (w:Int) (r:Int) (n:Int) l 0 []:=by
 rcases tZ b p hb o.pass q with⟨e,he,h1,_⟩|⟨f',c',w',r',n',A',l',o',h2⟩
 ·have:=o.prog;rw[h1]at this;have:=Apf this;simp only[Ph,Agt]at this;exact absurd this.2.2.2.2.2.2.2 he
 ·have hpr:=o'.prog;rw[o.prog]at hpr;simp only[Acm,Agt]at hpr;obtain⟨v1,v2,v3,v4,v5,v6,v7,_⟩:=hpr;obtain rfl:f=f':=by omega
  obtain rfl:c=c':=by omega
  obtain rfl:w=w':=by omega
  obtain rfl:r=r':=by omega
  obtain rfl:n=n':=by omega
  obtain rfl:A=A':=by omega
  subst v7;exact h2
theorem Axu{K:Nat}(hK:K<=l.length)(hA:(A:Int)+(l.take K).sum<=b.length)(hg:∀i,i<K-> (Gu b p f c w r n A l i).2=0)(hend:(K<l.length/\b.length<(A:Int)+(l.take (K+1)).sum)\/ (K=l.length/\b.length<= (A:Int)+l.sum+4000)):
  Fd p b=some (p,b.drop ((A:Int)+(l.take K).sum).toNat,(f:Int),(c:Int),(w:Int),(r:Int),(n:Int),l,(K:Int),Qi (λi=>(Gu b p f c w r n A l i).1) K 0,false,0,0):=by
 obtain⟨q,hq⟩:∃q,Ax=(q+1+K)+2:=⟨Ax-(K+3),by have:=As;have:=o.some1;omega⟩;have hr:=vU o hb K 0 (q+1) [] (by omega) (by rw[Azm];exact hA) (λi _ h2=>hg i (by omega)) (by simp);rw[Bbi,Bd3,Int.add_zero,Ae3,Azm,Auc,show((0:Nat):Int)=0 from rfl]at hr;have hcl:(Qi (λi=>(Gu b p f c w r n A l i).1) K 0).length<=12000*K:=by
  have:∀j,j<=l.length-> (Qi (λi=>(Gu b p f c w r n A l i).1) j 0).length<=12000*j:=by
   intro j
   induction j with
   |zero=>intro _;simp[Qi]
   |succ j ih=>
    intro hj;obtain⟨m,x,s,e,g⟩:=Qa o j (by omega);have Ajg:=g.lens (Kz o.shape).2.1;have:=ih (by omega);have hs:(Gu b p f c w r n A l j).1.length<=12000:=by rw[g.eq];exact Ajg.1
    rw[B3,Aci,Azm];omega
  exact this K hK
 rw[Fd,hq,wh o hb,hr];rcases hend with⟨h1,h2⟩|⟨rfl,h2⟩
 ·exact(vT o hb h1 hA _ hcl).1 h2 q
 ·rw[Ba9]at hA⊢;exact Asx o hb (by have:=o.some1;omega) hA h2 q
theorem Bap{K:Nat}(hK:K<l.length)(hA:(A:Int)+(l.take (K+1)).sum<=b.length)(hg:∀i,i<K-> (Gu b p f c w r n A l i).2=0)(he:(Gu b p f c w r n A l K).2≠0):
  Fd p b=some (p,[],0,0,0,0,0,[],0,Qi (λi=>(Gu b p f c w r n A l i).1) K 0,false,(Gu b p f c w r n A l K).2,(Gu b p f c w r n A l K).2):=by
 have hnn:∀z∈l,0<=z:=λz hz=>by have:=o.five z hz;omega
 have m0:=vY hnn (show K<=K+1 by omega);obtain⟨q,hq⟩:∃q,Ax=(q+1+K)+2:=⟨Ax-(K+3),by have:=As;have:=o.some1;omega⟩;have hr:=vU o hb K 0 (q+1) [] (by omega) (by rw[Azm];omega) (λi _ h2=>hg i (by omega)) (by simp);rw[Bbi,Bd3,Int.add_zero,Ae3,Azm,Auc,show((0:Nat):Int)=0 from rfl]at hr;have hcl:(Qi (λi=>(Gu b p f c w r n A l i).1) K 0).length<=12000*K:=by
  have:∀j,j<=l.length-> (Qi (λi=>(Gu b p f c w r n A l i).1) j 0).length<=12000*j:=by
   intro j
   induction j with
   |zero=>intro _;simp[Qi]
   |succ j ih=>
    intro hj;obtain⟨m,x,s,e,g⟩:=Qa o j (by omega);have Ajg:=g.lens (Kz o.shape).2.1;have:=ih (by omega);have hs:(Gu b p f c w r n A l j).1.length<=12000:=by rw[g.eq];exact Ajg.1
    rw[B3,Aci,Azm];omega
  exact this K (by omega)
 rw[Fd,hq,wh o hb,hr];exact((vT o hb hK (by omega) _ hcl).2 hA).2 he q
end
theorem Atc{b b' p:LB}{f c w r n A:Nat}{l:LI}(o:Opn b p f c w r n A l)(o':Opn b' p f c w r n A l){k:Nat}(hk:k<l.length)(h1:(A:Int)+(l.take (k+1)).sum<=b.length)(h2:(A:Int)+(l.take (k+1)).sum<=b'.length)(hs:sH b A l k=sH b' A l k):Gu b p f c w r n A l k=Gu b' p f c w r n A l k:=by
 obtain⟨m,x,s,e,g⟩:=Qa o k hk;obtain⟨m',x',s',e',g'⟩:=Qa o' k hk;have hm:=g.mom;rw[g'.mom]at hm;have hm:=Apf hm;obtain rfl:m'=m:=by omega
 rcases g.way with⟨w1,_⟩|⟨_,w2,_⟩
 ·omega
 rcases g'.way with⟨w1,_⟩|⟨_,w2',_⟩
 ·omega
 rw[hs,w2']at w2;simp only[Acm,Agt]at w2;obtain⟨rfl,rfl⟩:=w2;rw[g.eq,g'.eq];by_cases he:e'=0
 ·rw[(g.some' he).1,(g'.some' he).1]
 ·rw[(g.none' he).1,(g'.none' he).1]
theorem Agq{c w r n:Nat}{x:List Int32}(h:ClipOk c w r n x){p:LB}(hp:p.length<=64){t:Nat}(ht:FG 0 p (Mr c w r n x p).length<=t):Opn ((Ev c w r n x p).take t) p (Gj p) c w r n (FG 0 p (Mr c w r n x p).length) (Bv (Mr c w r n x p)):=by
 have fo:=fE h hp;have hl:(Bv (Mr c w r n x p)).length=(Ah (Am r) n).length:=by rw[Ig];exact jU p
 have e2:(Iu (Gj p) c w r n++(Po p++GV (Bv (Mr c w r n x p)))).length=FG 0 p (Mr c w r n x p).length:=by
  rw[Aci,Aci,Kt,QC,RF,Ig];unfold FG;omega
 have e1:(Ev c w r n x p).take t=Iu (Gj p) c w r n++(Po p++(GV (Bv (Mr c w r n x p))++(Mr c w r n x p).flatten.take (t-FG 0 p (Mr c w r n x p).length))):=by
  have:Ev c w r n x p=(Iu (Gj p) c w r n++(Po p++GV (Bv (Mr c w r n x p))))++(Mr c w r n x p).flatten:=by simp[Ev]
  rw[this,List.take_append,Aqt (by omega),e2];simp
 have hA4:4<=t:=by unfold FG at ht;omega
 have:=Afj (b:=(Ev c w r n x p).take t) (T:=0) (z:=(Mr c w r n x p).flatten.take (t-FG 0 p (Mr c w r n x p).length)) hp rfl (h.shape _ (gN p)) h.fit (cH (by
  rw[Ayu,show min 4 t=4 by omega,Ev,Qd];rfl)) (by rw[Afa];have:=fo.le;omega) (by rw[Bcs];exact e1) hl (xP h p)
 rw[Ig]at this;exact this
theorem Au8{c w r n:Nat}{x:List Int32}(h:ClipOk c w r n x){p:LB}(hp:p.length<=64){t:Nat}(ht:FG 0 p (Mr c w r n x p).length<=t)(ht2:t<= (Ev c w r n x p).length){k:Nat}(hk:k<(Mr c w r n x p).length)(hin:(FG 0 p (Mr c w r n x p).length:Int)+((Bv (Mr c w r n x p)).take (k+1)).sum<=t):
  Gu ((Ev c w r n x p).take t) p (Gj p) c w r n (FG 0 p (Mr c w r n x p).length) (Bv (Mr c w r n x p)) k=(Cy (w:Int) ((CD c r n x).getD k []),0):=by
 have fo:=fE h hp;have hg:=(fo.B8 hk rfl).1;rw[<-hg];refine Atc (Agq h hp ht) fo.Ga (by rw[Ig];exact hk) (by rw[Afa];omega) (by omega) ?_;rw[sH,sH,Ayu];congr 2;omega
theorem Ag6{w:Nat}(hw:Bu (w:Int)){X:LX}(hl:X.length<=4000)(hr:inR (w:Int) X):Jq (w:Int) X=some (Cy (w:Int) X,0):=ND hw hl (rO hw hl hr)
theorem yg(w:Nat)(ys:List LX):∀(j k:Nat),k+j<=ys.length->Qi (λi=>Cy (w:Int) (ys.getD i [])) j k=Cy (w:Int) ((ys.drop k).take j).flatten
 |0,k,_=>by simp[Qi,Cy]
 |j+1,k,h=>by
  have e:ys.getD k []=ys[k]:=by rw[List.getD_eq_getElem?_getD,List.getElem?_eq_getElem (by omega)];rfl
  rw[Qi,yg w ys j (k+1) (by omega),drop_cons (show k<ys.length by omega),Bfr,Bdd,uH,e]
section
variable {c w r n:Nat} {x:List Int32} (h:ClipOk c w r n x) {p:LB} (hp:p.length<=64) (h4:x.length<=400)
include h hp h4
omit hp in
theorem uN:(Ev c w r n x p).length<=8000:=by
 have h1:=Aee h p;have h2:=jU (c:=c) (w:=w) (r:=r) (n:=n) (x:=x) p;rw[Zw]at h2;have h3:(n-1)/Am r<=n-1:=Auf _ _;have h5:n*1<=n*c:=Bfu n h.ch.1;have h6:=h.len;have:=h.cnt;omega
end
theorem Axe:Wq=some true:=by kernel_rfl
def iR(f:LB)(n:Nat):Bool:=(f.getD (n/8) 0).toNat.testBit (n %8)
def bfl(f:LB)(n:Nat):LB:=f.set (n/8) ((f.getD (n/8) 0)^^^UInt8.ofNat (2^(n %8)))
def bB(a g:Nat):Nat->Nat->LB->LB
 |0,_,f=>f
 |q+1,k,f=>bB a g q (k+1) (if g.testBit k=true/\a+k<8*f.length then bfl f (a+k)else f)
def bF(a g n:Nat):Nat->Nat->Bool
 |0,_=>false
 |q+1,k=>(g.testBit k&&decide (a+k<8*n))||bF a g n q (k+1)
theorem Ak8(f:LB)(n:Nat):(bfl f n).length=f.length:=by simp[bfl]
theorem Aa6(a g:Nat):∀(q k:Nat) (f:LB),(bB a g q k f).length=f.length
 |0,_,_=>rfl
 |q+1,k,f=>by
  rw[bB,Aa6 a g q];split
  ·exact Ak8 _ _
  ·rfl
theorem Ala(f:LB){n m:Nat}(hn:n<8*f.length)(hm:m<8*f.length):iR (bfl f n) m=(iR f m^^decide (m=n)):=by
 unfold iR bfl;by_cases h:m/8=n/8
 ·rw[h,List.getD_eq_getElem?_getD,List.getElem?_set_self (by omega),Option.getD_some,UInt8.toNat_xor,Be7];have h1:(UInt8.ofNat (2^(n %8))).toNat=2^(n %8):=by
   rw[Apd];exact Ack (Nat.pow_lt_pow_right (by omega) (by omega:n %8<8))
  rw[h1,Nat.testBit_two_pow];congr 1;exact decide_eq_decide.2 ⟨λe=>by omega,λe=>by subst e;rfl⟩
 ·rw[List.getD_eq_getElem?_getD,List.getElem?_set_ne (Bf9 h),<-List.getD_eq_getElem?_getD];have:decide (m=n)=false:=Ayn (λe=>h (by rw[e]));rw[this,Bool.xor_false]
theorem Abv(a g:Nat):∀(q k:Nat) (f:LB) {m:Nat},m<8*f.length->iR (bB a g q k f) m=(iR f m^^ (decide (a+k<=m/\m<a+k+q)&&g.testBit (m-a)))
 |0,k,f,m,hm=>by
  have:decide (a+k<=m/\m<a+k+0)=false:=Ayn (by omega);rw[this];simp[bB]
 |q+1,k,f,m,hm=>by
  rw[bB];have hl:(if g.testBit k=true/\a+k<8*f.length then bfl f (a+k)else f).length=f.length:=by
   split
   ·exact Ak8 _ _
   ·rfl
  rw[Abv a g q (k+1) _ (by rw[hl];exact hm)];by_cases he:m=a+k
  ·subst he;have h1:decide (a+(k+1)<=a+k/\a+k<a+(k+1)+q)=false:=Ayn (by omega);have h2:decide (a+k<=a+k/\a+k<a+k+(q+1))=true:=Bbc (by omega);rw[h1,h2,Bba,Bdu,Bool.xor_false,Bdj];by_cases hg:g.testBit k=true
   ·rw[Ab3 ⟨hg,hm⟩,Ala f hm hm,hg];simp
   ·rw[Aau (λh=>hg h.1)];simp only[Bool.not_eq_true]at hg;rw[hg,Bool.xor_false]
  ·have h1:decide (a+(k+1)<=m/\m<a+(k+1)+q)=decide (a+k<=m/\m<a+k+(q+1)):=decide_eq_decide.2 (by omega);rw[h1];congr 1;split
   ·rename_i h;rw[Ala f h.2 hm,Ayn he,Bool.xor_false]
   ·rfl
theorem Ars{f g:LB}(hl:f.length=g.length)(h:∀m,m<8*f.length->iR f m=iR g m):f=g:=by
 refine Bae hl λi h1 h2=>?_;apply UInt8.toNat_inj.1;apply Bdl;intro j;by_cases hj:j<8
 ·have:=h (8*i+j) (by omega);unfold iR at this;rw[show(8*i+j)/8=i by omega,show(8*i+j) %8=j by omega]at this;simpa [List.getD_eq_getElem?_getD,h1,h2]using this
 ·have e:∀c:UInt8,c.toNat.testBit j=false:=λc=>Bci (Ai7 c.toNat_lt (Afq (by omega) (by omega:8<=j)));rw[e,e]
theorem Asc{a g n:Nat}:∀{q k:Nat},bF a g n q k=true->∃j,k<=j/\j<k+q/\g.testBit j=true/\a+j<8*n
 |0,k,h=>by simp[bF]at h
 |q+1,k,h=>by
  simp only[bF,Azv,Acl,Acj]at h;rcases h with⟨h1,h2⟩|h
  ·exact⟨k,Am4 _,by omega,h1,h2⟩
  ·obtain⟨j,h1,h2,h3⟩:=Asc h;exact⟨j,by omega,by omega,h3⟩
theorem Bbs{a g:Nat}{f:LB}(h:bF a g f.length 32 0=true):bB a g 32 0 f≠f:=by
 obtain⟨j,h1,h2,h3,h4⟩:=Asc h;intro e;have:=Abv a g 32 0 f (m:=a+j) h4;rw[e,Bba,h3,Bbc (by omega:a+0<=a+j/\a+j<a+0+32)]at this;cases hb:iR f (a+j)<;>rw[hb]at this<;>simp at this
theorem Axl(f:LB)(at_:Int)(g:UInt8)(hl:f.length<=100000):PO f at_ g=if 0<=at_/\at_<f.length/\g≠0 then some (f.set at_.toNat ((f.getD at_.toNat 0)^^^g),0)else some ([],2):=by
 unfold PO;have hc:Is f=some f:=by unfold Is;rw[Bw (by simp;omega)];rfl
 rw[hc,Aa];by_cases hb:0<=at_/\at_<f.length/\g≠0
 ·obtain⟨h1,h2,h3⟩:=hb;have e1:((Cj at_ 0||Nj at_ (Ac f))||geq g 0)=false:=by
   rw[WO];simp[Cj,Nj,GI.toZ,Ac,h3];omega
  rw[e1];obtain⟨a,rfl⟩:=Ag0 h1;have hlt:a<f.length:=by omega
  rw[Bn hlt];simp only[Aa];rw[Uq _ hlt,Aa,Aa7,Ae3,List.getD_eq_getElem?_getD,List.getElem?_eq_getElem hlt];exact(Ab3 ⟨h1,h2,h3⟩).symm
 ·have e1:((Cj at_ 0||Nj at_ (Ac f))||geq g 0)=true:=by
   rw[WO];simp only[Cj,Nj,GI.toZ,Ac,Azv,Acj,Aug];by_cases h:g=0
   ·exact .inr h
   ·refine .inl ?_;by_cases h1:at_<0
    ·exact .inl h1
    ·exact .inr (Bbc (Int.not_lt.1 λh2=>hb ⟨by omega,h2,h⟩))
  rw[e1];exact(Aau hb).symm
theorem Anv(f:LB){a:Nat}(g:UInt8)(ha:a<f.length){m:Nat}(hm:m<8*f.length):iR (f.set a ((f.getD a 0)^^^g)) m=(iR f m^^ (decide (m/8=a)&&g.toNat.testBit (m %8))):=by
 unfold iR;by_cases h:m/8=a
 ·subst h;rw[List.getD_eq_getElem?_getD,List.getElem?_set_self ha,Option.getD_some,UInt8.toNat_xor,Be7];simp
 ·rw[List.getD_eq_getElem?_getD,List.getElem?_set_ne (Bf9 h),<-List.getD_eq_getElem?_getD,Ayn h,Bdu,Bool.xor_false]
theorem tb8(c:UInt8){j:Nat}(hj:8<=j):c.toNat.testBit j=false:=Bci (Ai7 c.toNat_lt (Afq (by omega) hj))
theorem Ai6(f:LB){a:Nat}(g:UInt8)(ha:a<f.length):bB (8*a) g.toNat 32 0 f=f.set a ((f.getD a 0)^^^g):=by
 refine Ars (by rw[Aa6,Bco]) λm hm=>?_;rw[Aa6]at hm;rw[Abv _ _ _ _ _ hm,Anv f g ha hm];congr 1;by_cases h1:m/8=a
 ·rw[Bbc h1,Bbc (by omega),show m-8*a=m %8 by omega]
 ·rw[Ayn h1,Bdu];by_cases h2:8*a+0<=m/\m<8*a+0+32
  ·rw[tb8 g (by omega),Bool.and_false]
  ·rw[Ayn h2,Bdu]
theorem Axf{a n:Nat}{g:UInt8}(ha:a<n)(hg:g≠0):bF (8*a) g.toNat n 32 0=true:=by
 have key:∀(q k j:Nat),k<=j->j<k+q->g.toNat.testBit j=true->8*a+j<8*n->bF (8*a) g.toNat n q k=true:=by
  intro q
  induction q with
  |zero=>intro k j h1 h2;omega
  |succ q ih=>
   intro k j h1 h2 h3 h4;rw[bF];by_cases e:j=k
   ·subst e;rw[h3,Bbc h4];rfl
   ·rw[ih (k+1) j (by omega) (by omega) h3 h4,Bool.or_true]
 obtain⟨j,hj⟩:∃j,g.toNat.testBit j=true:=Nat.exists_testBit_of_ne_zero (λe=>hg (UInt8.toNat_inj.1 e));have hj8:j<8:=Nat.lt_of_not_le λh=>by rw[tb8 g h]at hj;cases hj
 exact key 32 0 j (Nat.zero_le _) (by omega) hj (by omega)
theorem Aan{c n:Nat}(h:c<2^n)(L:Nat):2^n*L+c=(2^n*L)^^^c:=by
 rw[Bbb h];apply Bdl;intro i;rw[Nat.testBit_or,Be7];by_cases hi:i<n
 ·have:(2^n*L).testBit i=false:=by rw[Bfa];simp;omega
  rw[this];simp
 ·have:c.testBit i=false:=Bci (Ai7 h (Afq (by omega) (by omega)));rw[this];simp
theorem Ak0(n a b:Nat):2^n*(a^^^b)=(2^n*a)^^^ (2^n*b):=by
 rw[Ape,Ape _ a,Ape _ b,<-Bf8,<-Bf8,<-Bf8,Nat.shiftLeft_xor_distrib]
theorem A8:∀(a b s:Nat),Mv (a+b) s=Mv b (Mv a s)
 |0,b,s=>by rw[Azm];rfl
 |a+1,b,s=>by rw[show a+1+b=(a+b)+1 by omega,Mv,A8 a b,Mv]
theorem nk:∀k:Nat,Mv k 0=0
 |0=>rfl
 |k+1=>by rw[Mv,show GD 0=0 from rfl,nk k]
theorem Ag7(k:Nat):256^k=2^(8*k):=by rw[Nat.pow_mul]
theorem wX(c:UInt8)(r:LB):Df (c::r)=c.toNat^^^ (2^8*Df r):=by
 have:=Aan (n:=8) c.toNat_lt (Df r);rw[Df,Bd0,<-this];omega
theorem rC:∀(l:LB) (s:Nat),TL s l=Mv (8*l.length) (s^^^Df l)
 |[],s=>by simp[TL,Df,Mv]
 |c::r,s=>by
  have ih:=rC r (oH s c.toNat);have e:TL s (c::r)=TL (oH s c.toNat) r:=rfl;rw[e,ih,oH,Akt,show 8*(r.length+1)=8+8*r.length by omega,A8,wX,<-Az4,rR 8 _ (2^8*Df r),qT]
theorem FI(a b:LB):Df (a++b)=Df a^^^ (2^(8*a.length)*Df b):=by
 have h:=uZ a;rw[Ag7]at h;rw[uS,Ag7,Be5,Aan h,Bd0]
theorem cK(a b c:Nat):(a^^^b)^^^ (a^^^c)=b^^^c:=by
 rw[Bd0 a b,Az4,<-Az4 a a c,Bf4,Nat.zero_xor]
structure Brst (b x:LB):Prop where
 len:x.length=b.length
 win:∃k W:Nat,0<W/\W<2^32/\Df b^^^Df x=2^k*W
theorem Brst.mid{a m m' z:LB}(hm:m'.length=m.length)(h:Brst (a++(m++z)) (a++(m'++z))):Brst m m':=by
 obtain⟨_,k,W,h1,h2,h3⟩:=h;refine⟨hm,?_⟩;rw[FI,FI a,cK,<-Ak0,FI,FI m',hm,Bd0 (Df m) _,Bd0 (Df m') _,cK]at h3;generalize Df m^^^Df m'=Z at*
 generalize 8*a.length=j at*
 by_cases hk:j<=k
 ·refine⟨k-j,W,h1,h2,?_⟩;have:2^j*Z=2^j*(2^(k-j)*W):=by rw[h3,<-Bb7,<-Bfc];congr 2;omega
  exact Nat.eq_of_mul_eq_mul_left (Nat.two_pow_pos j) this
 ·have e:2^k*(2^(j-k)*Z)=2^k*W:=by rw[<-h3,<-Bb7,<-Bfc];congr 2;omega
  have e:=Nat.eq_of_mul_eq_mul_left (Nat.two_pow_pos k) e;have hp:=Nat.two_pow_pos (j-k);have hZ:Z<=W:=by
   have:=Agu Z hp;omega
  refine⟨0,Z,?_,by omega,by rw[Nat.pow_zero,Bgb]⟩;rcases Bfg Z with h0|h0
  ·rw[h0,Nat.mul_zero]at e;omega
  ·exact h0
theorem Brst.ne{b x:LB}(h:Brst b x):b≠x:=by
 obtain⟨_,k,W,h1,h2,h3⟩:=h;intro e;rw[e,Bf4]at h3;have:=Bge (Nat.two_pow_pos k) h1;omega
theorem Amm{N:Nat}(h:N<2^32):N^^^4294967295=4294967295-N:=by
 apply Bdl;intro i;have e1:4294967295-N=2^32-(N+1):=by omega
 have e2:(4294967295:Nat)=2^32-1:=by decide
 rw[Be7,e1,Nat.testBit_two_pow_sub_succ h,e2,Nat.testBit_two_pow_sub_one];by_cases hi:i<32
 ·simp[hi]
 ·have:N.testBit i=false:=Bci (Ai7 h (Afq (by omega) (by omega)));simp[hi,this]
theorem Afd(d q:LB)(hq:q.length=4):((Dn d).toNat=Df q)↔TL 4294967295 (d++q)=Mv 32 4294967295:=by
 have hN:TL 4294967295 d<2^32:=Aff d (by decide);have Bez:Df q<2^32:=by have:=zx (l:=q) (by omega);omega
 have e1:(Dn d).toNat=4294967295-TL 4294967295 d:=by
  have h1:(UInt32.ofNat (TL 4294967295 d)).toNat=TL 4294967295 d:=by rw[Ajz];exact Ack hN
  rw[Dn,Bfy]
  ·rw[h1];rfl
  ·rw[Bfz,h1];show _<=4294967295;omega
 rw[e1,<-Amm hN,Aqo,rC q,hq];generalize TL 4294967295 d=N at*
 constructor
 ·intro h;rw[<-h,<-Az4,Bf4,Nat.zero_xor]
 ·intro h;have:=D3 32 (Ae8 hN Bez) (by decide) h;rw[<-this,<-Az4,Bf4,Nat.zero_xor]
theorem Aqb{b x:LB}(h:Brst b x)(s:Nat):TL s b≠TL s x:=by
 obtain⟨hl,k,W,h1,h2,h3⟩:=h;rw[rC,rC,hl];intro e;have e2:Mv (8*b.length) (Df b^^^Df x)=0:=by
  have:=rR (8*b.length) (s^^^Df b) (s^^^Df x);rw[cK,e,Bf4]at this;exact this
 have hlt:Df b^^^Df x<2^(8*b.length):=by
  have a1:=uZ b;have a2:=uZ x;rw[Ag7]at a1 a2;rw[hl]at a2;exact Bag a1 a2
 rw[h3]at e2 hlt;have hk:k<=8*b.length:=by
  refine Nat.le_of_not_lt λhh=>?_;have h4:2^(8*b.length)<=2^k:=Afq (by omega) (by omega);have h5:2^k*1<=2^k*W:=Bfu _ h1;omega
 rw[show 8*b.length=k+(8*b.length-k) by omega,A8,qT]at e2;have:=D3 (8*b.length-k) h2 (by decide:0<2^32) (by rw[e2,nk]);omega
theorem C2{d q d' q':LB}(hq:q.length=4)(hq':q'.length=4)(h:Brst (d++q) (d'++q'))(hs:(Dn d).toNat=Df q):(Dn d').toNat≠Df q':=by
 intro h';rw[Afd _ _ hq]at hs;rw[Afd _ _ hq']at h';exact Aqb h _ (hs.trans h'.symm)
theorem Aig{b x:LB}(h:Brst b x)(hs:Nt b=0):Nt x=22:=by
 have hl:=S2 hs;have hx:=h.len;rw[Nt,Aau (by omega),Aau (by omega)]at hs;have h0:(Dn (b.take (b.length-4))).toNat=Df (b.drop (b.length-4)):=by
  by_cases h:(Dn (b.take (b.length-4))).toNat≠Df (b.drop (b.length-4))
  ·rw[Ab3 h]at hs;cases hs
  ·simpa using h
 have:=C2 (d:=b.take (b.length-4)) (q:=b.drop (b.length-4)) (d':=x.take (x.length-4)) (q':=x.drop (x.length-4)) (by rw[Agy];omega) (by rw[Agy];omega) (by rw[Aph,Aph];exact h) h0;rw[Nt,Aau (by omega),Aau (by omega),Ab3 this]
theorem Acd:∀(f:LB) (m:Nat),(Df f).testBit m=iR f m
 |[],m=>by simp[Df,iR]
 |c::r,m=>by
  rw[wX,Be7,Bfa,Acd r,iR,iR];by_cases h:m<8
  ·have e1:m/8=0:=by omega
   have e2:m %8=m:=by omega
   have e3:¬8<=m:=by omega
   simp[e1,e2,e3]
  ·have e1:m/8=(m-8)/8+1:=by omega
   have e2:m %8=(m-8) %8:=by omega
   have e3:c.toNat.testBit m=false:=tb8 c (by omega);rw[e1,<-e2,e3];simp[show 8<=m by omega]
theorem Ahu{f:LB}{a g:Nat}(h:bF a g f.length 32 0=true):Brst f (bB a g 32 0 f):=by
 have hlen:=Aa6 a g 32 0 f;refine⟨hlen,a,(Df f^^^Df (bB a g 32 0 f))/2^a,?_,?_,?_⟩
 all_goals
  have hbit:∀m,(Df f^^^Df (bB a g 32 0 f)).testBit m=true->a<=m/\m<a+32:=by
   intro m hm;rw[Be7,Acd,Acd]at hm;by_cases hml:m<8*f.length
   ·rw[Abv a g 32 0 f hml]at hm;have:decide (a+0<=m/\m<a+0+32)=true:=by
     cases iR f m<;>simp at hm<;>simp<;>omega
    simp at this;exact this
   ·have z:∀q:LB,q.length=f.length->iR q m=false:=λq hq=>by
     rw[iR,List.getD_eq_getElem?_getD,List.getElem?_eq_none (by omega)];simp
    rw[z f rfl,z _ hlen]at hm;cases hm
  have hD:Df f^^^Df (bB a g 32 0 f)=2^a*((Df f^^^Df (bB a g 32 0 f))/2^a):=by
   apply Bdl;intro i;rw[Bfa,Nat.testBit_div_two_pow];by_cases hi:a<=i
   ·simp[hi]
   ·have:(Df f^^^Df (bB a g 32 0 f)).testBit i=false:=by
     cases hh:(Df f^^^Df (bB a g 32 0 f)).testBit i
     ·rfl
     ·exact absurd (hbit i hh).1 hi
    rw[this];simp[hi]
 ·rcases Bfg ((Df f^^^Df (bB a g 32 0 f))/2^a)with h0|h0
  ·rw[h0,Nat.mul_zero]at hD;have h1:Df f=Df (bB a g 32 0 f):=by
    have:=congrArg (λz=>Df f^^^z) hD;simp only[Nat.xor_zero]at this;rw[<-Az4,Bf4,Nat.zero_xor]at this;exact this.symm
   exact absurd (M1 hlen.symm h1).symm (Bbs h)
  ·exact h0
 ·refine Nat.lt_pow_two_of_testBit _ λi hi=>?_;rw[Nat.testBit_div_two_pow];cases hh:(Df f^^^Df (bB a g 32 0 f)).testBit (i+a)
  ·rfl
  ·have:=hbit _ hh;omega
 ·exact hD
theorem Aov{f:LB}{a:Nat}{g:UInt8}(ha:a<f.length)(hg:g≠0):Brst f (f.set a ((f.getD a 0)^^^g)):=by
 rw[<-Ai6 f g ha];exact Ahu (Axf ha hg)
inductive Pl (S D A:Int) (G:Nat->Int) (l:List Int) (a:Int):UInt8->Int->Int->Prop
 |t:a<S->Pl S D A G l a 1 0 0
 |h:S<=a->a<S+22->Pl S D A G l a 2 0 0
 |d:S+22<=a->a<D->Pl S D A G l a 3 0 0
 |s:S+22<=a->D<=a->a<A->Pl S D A G l a 4 0 0
 |f (i:Nat):S+22<=a->D<=a->A<=a->i<l.length->A+(l.take i).sum<=a->a<A+(l.take (i+1)).sum->Pl S D A G l a 5 i (G i)
 |b:S+22<=a->D<=a->A<=a->A+l.sum<=a->Pl S D A G l a 6 0 0
theorem Asw{b p:LB}(hb:b.length<=20000)(hp:p.length<=64){e:Int}(he:e≠0)(h:Ba b p=some (Ph e)){g:UInt8}(hf:Ec b p e=some g):
  Sr b p=some (e,g,0,0,0)/\Pw b p=some e/\Ends p (Fd p b) [] e:=by
 have Al8:Ra b p=some (O2 e):=by
  rcases M4 b p (by omega) hp with⟨e',he',h1,_,h3,_⟩|⟨f,c,w,r,n,A,l,o,_,_⟩
  ·rw[h]at h1;have:=Apf h1;simp only[Ph,Agt]at this;rw[this.2.2.2.2.2.2.2];exact h3
  ·have:=o.prog;rw[h]at this;have:=Apf this;simp only[Ph,Agt]at this;exact absurd this.2.2.2.2.2.2.2 he
 refine⟨?_,?_,?_⟩
 ·rw[Sr,IV,Aau (by rw[Aq,Ac];simp;omega),Pw,Al8,Aa,Aa,h,Aa,O2,Ph];simp only;rw[Ab3 (by rw[Ag];simpa using he),hf,Aa]
 ·rw[Pw,Al8,Aa];rfl
 ·obtain⟨q,hq⟩:∃q,Ax=q+2:=⟨Ax-2,by have:=As;omega⟩;rw[Fd,hq];rcases tZ b p hb hp q with⟨e',he',h1,h2⟩|⟨f,c,w,r,n,A,l,o,_⟩
  ·rw[h]at h1;have:=Apf h1;simp only[Ph,Agt]at this;rw[this.2.2.2.2.2.2.2];exact h2
  ·have:=o.prog;rw[h]at this;have:=Apf this;simp only[Ph,Agt]at this;exact absurd this.2.2.2.2.2.2.2 he
theorem Als(X:Nat->List Int32)(E:Nat->Int)(be:Int){K:Nat}(hK:E K≠0):∀(j k:Nat) (acc:List Int32),k<=K->K<k+j-> (∀i,k<=i->i<K->E i=0)-> (fO X E be j k acc).2=E K
 |0,k,acc,h1,h2,_=>by omega
 |j+1,k,acc,h1,h2,h3=>by
  rw[fO];by_cases hk:k=K
  ·subst hk;rw[Ab3 hK]
  ·rw[Aau (by rw[h3 k (Am4 _) (by omega)];simp)];exact Als X E be hK j (k+1) _ (by omega) (by omega) (λi a b=>h3 i (by omega) b)
theorem Alp(G:Nat->List UInt8×Int)(ce:Int)(B8:Nat->Int)(L:Nat){K:Nat}(hK:(G K).2≠0):∀(j v:Nat),v<=K->K<v+j-> (∀i,v<=i->i<K-> (G i).2=0)->Adq G ce B8 L j v=(ce,5,(K:Int),B8 K,0)
 |0,v,h1,h2,_=>by omega
 |j+1,v,h1,h2,h3=>by
  rw[Adq];by_cases hk:v=K
  ·subst hk;rw[Ab3 hK]
  ·rw[Aau (by rw[h3 v (Am4 _) (by omega)];simp)];exact Alp G ce B8 L hK j (v+1) (by omega) (by omega) (λi a b=>h3 i (by omega) b)
theorem Aii{b p:LB}{f c w r n A:Nat}{l:LI}(o:Opn b p f c w r n A l){K:Nat}(hK:K<l.length)(hg:∀i,i<K-> (Gu b p f c w r n A l i).2=0){e:Int}(he:(Gu b p f c w r n A l K).2=e)(he0:e≠0):
  Sr b p=some (e,5,(K:Int),Uw c w (Ah (Am r) n) K,0)/\Pw b p=some e:=by
 have hp:=o.pass;have hs1:=o.some1;have oq:=o.file;rcases M4 b p (by omega) hp with⟨e',he',h1,_,_,_⟩|⟨f',c',w',r',n',A',l',o',k3,_⟩
 ·have:=o.prog;rw[h1]at this;have:=Apf this;simp only[Ph,Agt]at this;exact absurd this.2.2.2.2.2.2.2 he'
 have hpr:=o'.prog;rw[o.prog]at hpr;simp only[Acm,Agt]at hpr;obtain⟨v1,v2,v3,v4,v5,v6,v7,_⟩:=hpr;obtain rfl:f=f':=by omega
 obtain rfl:c=c':=by omega
 obtain rfl:w=w':=by omega
 obtain rfl:r=r':=by omega
 obtain rfl:n=n':=by omega
 obtain rfl:A=A':=by omega
 subst v7;have hce:(fO (λk=>pg w (Gu b p f c w r n A l k)) (λk=>(Gu b p f c w r n A l k).2) (sN b A l) l.length 0 []).2=e:=by
  have:=Als (λk=>pg w (Gu b p f c w r n A l k)) (λk=>(Gu b p f c w r n A l k).2) (sN b A l) (K:=K) (by rw[he];exact he0) l.length 0 [] (by omega) (by omega) (λi _ h=>hg i h);rw[this];exact he
 have hcl:(Afg b p f c w r n A l).2.2.2.2=e:=by
  rw[Afg,gR,hce,Ab3 he0];rfl
 have Bdc:Pw b p=some e:=by rw[Pw,k3,Aa];exact congrArg some hcl
 refine⟨?_,Bdc⟩;have htl:=xg o e he0 l.length 0 Ax (by omega) (by have:=As;omega);rw[Alp _ e _ l.length (K:=K) (by rw[he];exact he0) l.length 0 (by omega) (by omega) (λi _ h=>hg i h)]at htl;rw[Sr,IV,Aau (by rw[Aq,Ac];simp;omega),Bdc,Aa,o.prog,Aa];simp only;rw[Aau (by rw[Ag];simp),Ab3 (by rw[Ag];simpa using he0),WM,ZY];exact htl
theorem qy{b p:LB}(hp:p.length<=64)(hb:b.length<=20000)(hf:Bc b=(0,0)){v:H6}(hr:Dm b=v)(he:v.2.2.2.2.2≠0):Ba b p=some (Ph v.2.2.2.2.2)/\Ec b p v.2.2.2.2.2=some 2:=by
 obtain⟨v1,v2,v3,v4,v5,v6⟩:=v;simp only at he⊢;constructor
 ·rw[Ba,Hk,Aau (by rw[Aq,Ac];simp;omega),Aau (by rw[Aq,Ac];simp;omega),Eb b (by omega),hf,Aa];simp only;rw[Aau (by decide),Bl,Aa,Be3,Bcs,Mj _ (by omega),hr,Aa];simp only;rw[Ab3 (by rw[Ag];simpa using he)];rfl
 ·rw[Ec,Aau (by rw[Aq,Ac];simp;omega),Eb b (by omega),hf,Aa];simp only;rw[Aau (by decide),Bl,Aa,Be3,Bcs,Mj _ (by omega),hr,Aa];simp only;rw[Ab3 (by rw[Ag];simpa using he)]
theorem Aiz{b:LB}(h3:b.take 3≠ [73,68,51])(h8:b.take 8≠zA):Bc b=(0,0):=by
 have hs:Ce b=(0,6):=by
  have h1:Na b=(0,6):=by rw[Na,Ab3 (by intro hh;exact h3 hh.2)]
  rw[Ce,h1,Aau (by decide),fa1 (by intro hh;exact h8 hh.2)]
 rw[Bc,A7,Bp,Bcs,hs];rfl
theorem Aoa{f c w r n:Nat}(h1:Eo f c w r n=true){H z p:LB}(hB:Brst (Iu f c w r n) H)(h3:H.take 3≠ [73,68,51])(hp:p.length<=64)(hb:(H++z).length<=20000):
  ∃e:Int,(e=22\/e=12)/\Ba (H++z) p=some (Ph e)/\Ec (H++z) p e=some 2:=by
 have hHl:=hB.len;rw[Kt]at hHl;have hs:(f=1\/f=2):=by simp only[Eo,Acj]at h1;omega
 have h8:H.take 8≠zA:=by
  intro e;obtain⟨_,k,W,w1,w2,w3⟩:=hB;have e4:H=[65,80,69,84]++H.drop 4:=by
   have:H.take 4=[65,80,69,84]:=by rw[show H.take 4=(H.take 8).take 4 by rw[Ayu];rfl,e];rfl
   rw[<-this,Aph]
  have e5:(H.drop 4).take 1=[65]:=by
   have:(H.drop 4).take 1=((H.take 8).drop 4).take 1:=by rw[Bd5,Ayu];rfl
   rw[this,e];rfl
  have e6:Iu f c w r n=[84,84,65,49]++(Iu f c w r n).drop 4:=by
   have:(Iu f c w r n).take 4=[84,84,65,49]:=by
    have:=Qd f c w r n [];rw[Aue]at this;rw[this];rfl
   rw[<-this,Aph]
  have e7:((Iu f c w r n).drop 4).take 1=[UInt8.ofNat f]:=by
   have:=Qd f c w r n [];rw[Aue]at this;rw[this];rfl
  rw[e4,e6,FI,FI [65,80,69,84]]at w3;have hx:(Df ([84,84,65,49]:LB)^^^ (2^(8*([84,84,65,49]:LB).length)*Df ((Iu f c w r n).drop 4)))^^^ (Df ([65,80,69,84]:LB)^^^ (2^(8*([65,80,69,84]:LB).length)*Df (H.drop 4)))=2^32*(Df ((Iu f c w r n).drop 4)^^^Df (H.drop 4))+(Df ([84,84,65,49]:LB)^^^Df ([65,80,69,84]:LB)):=by
   rw[Aan (by decide),Ak0];show(Df ([84,84,65,49]:LB)^^^ (2^32*_))^^^ (Df ([65,80,69,84]:LB)^^^ (2^32*_))=_;generalize 2^32*Df ((Iu f c w r n).drop 4)=X;generalize 2^32*Df (H.drop 4)=Y;generalize Df ([84,84,65,49]:LB)=a;generalize Df ([65,80,69,84]:LB)=b;rw[Bd0 a X,Az4,<-Az4 a b Y,Bd0 (a^^^b) Y,<-Az4]
  rw[hx]at w3;have hc:Df ([84,84,65,49]:LB)^^^Df ([65,80,69,84]:LB)=1694762005:=by decide
  rw[hc]at w3;have hk:k=0:=by
   rcases Bfg k with h|h
   ·exact h
   ·obtain⟨k',rfl⟩:∃k',k=k'+1:=⟨k-1,by omega⟩;have e9:2^(k'+1)*W=2*(2^k'*W):=by rw[Ayo,Ape (2^k') 2,Bb7]
    rw[e9]at w3;omega
  rw[hk,Nat.pow_zero,Bgb]at w3;have hz:Df ((Iu f c w r n).drop 4)^^^Df (H.drop 4)=0:=by omega
  have heq:Df ((Iu f c w r n).drop 4)=Df (H.drop 4):=by
   have:=congrArg (λz=>Df ((Iu f c w r n).drop 4)^^^z) hz;simp only[Nat.xor_zero]at this;rw[<-Az4,Bf4,Nat.zero_xor]at this;exact this.symm
  have hl:=M1 (by rw[Agy,Agy,Kt,hHl]) heq;rw[hl,e5]at e7;have:=congrArg (λl:LB=>(l.getD 0 0).toNat) e7;simp only[List.getD_cons_zero]at this;rcases hs with rfl|rfl
  ·exact absurd this (by decide)
  ·exact absurd this (by decide)
 have t3:(H++z).take 3=H.take 3:=At4 (by omega);have t8:(H++z).take 8=H.take 8:=At4 (by omega);have hfr:=Aiz (b:=H++z) (by rw[t3];exact h3) (by rw[t8];exact h8);have hlen:22<= (H++z).length:=by rw[Aci];omega
 by_cases hm:(H++z).take (min 4 (H++z).length)=Mt.take (min 4 (H++z).length)
 ·have Be0:(H++z).take 18=H.take 18:=At4 (by omega);have Be1:part (H++z) 18 4=H.drop 18:=by
   have:H++z=H.take 18++(H.drop 18++z):=by rw[<-Aej,Aph]
   rw[this];exact AH (by rw[Afa];omega) (by rw[Agy];omega)
  have hlt:=(Dn (sO f c w r n)).toNat_lt;have hne:=C2 (d:=sO f c w r n) (q:=Rc (Dn (sO f c w r n)).toNat 4) (d':=H.take 18) (q':=H.drop 18) (Ca _ _) (by rw[Agy];omega) (by rw[Aph];exact hB) (by rw[Yz];omega);have hr:=rs3 hm (by omega) (by rw[Be0,Be1];exact hne);obtain⟨k1,k2⟩:=qy hp hb hfr hr (by simp);exact⟨22, .inl rfl,k1,k2⟩
 ·have hr:=rs1 hm;obtain⟨k1,k2⟩:=qy hp hb hfr hr (by simp);exact⟨12, .inr rfl,k1,k2⟩
section
variable {f c w r n:Nat} (h1:Eo f c w r n=true) (h2:Xm c r n=true) {p:LB} (hp:p.length<=64) (hf:f=Gj p)
include h1 h2 hp hf
omit h1 h2 hp hf in
theorem D1(z:LB):Bc (Iu f c w r n++z)=(0,0):=cH (by rw[Qd];rfl)
theorem Aur{D z:LB}(hD:D≠Po p)(hDl:D.length=(Po p).length)(hb:(Iu f c w r n++(D++z)).length<=20000):
  Ba (Iu f c w r n++(D++z)) p=some (Ph 26)/\Ec (Iu f c w r n++(D++z)) p 26=some 3:=by
 have hfr:=D1 (f:=f) (c:=c) (w:=w) (r:=r) (n:=n) (D++z);have hrd:=qX h1 h2 (D++z);have hne:p≠ []:=by
  intro e;have e2:Po p=[]:=by rw[Po,Ab3 e]
  rw[e2]at hD hDl;exact hD (Bbd (by simpa using hDl))
 have hdg:Po p=Rc (Rp p).toNat 8:=by rw[Po,Aau hne]
 have e1:f=2:=by rw[hf,Gj,Aau hne]
 rw[hdg,Ca]at hDl;have hl:(Iu f c w r n++(D++z)).length=30+z.length:=by rw[Aci,Aci,Kt];omega
 have hseg:((Iu f c w r n++(D++z)).take 30).drop 22=D:=AH (Kt _ _ _ _ _) hDl;generalize Iu f c w r n++(D++z)=b at*
 constructor
 ·rw[Ba,Hk,Aau (by rw[Aq,Ac];simp;omega),Aau (by rw[Aq,Ac];simp;omega),Eb b (by omega),hfr,Aa];simp only;rw[Aau (by decide),Bl,Aa,Be3,Bcs,Mj _ (by omega),hrd,Aa];simp only;have Ba7:(p !=([]:LB))=true:=by simpa using hne
  have hne2:(p==([]:LB))=false:=by simpa using hne
  have t22:Ad (0:Int) 22=((22:Nat):Int):=rfl;have t30:Ad ((22:Nat):Int) 8=((30:Nat):Int):=rfl;rw[Aau (by decide),Aau (by rw[hne2,e1];decide),Ab3 Ba7,t22,t30,Aau (by rw[Ae,Ac];simp;omega),Oa,Aa,Ae3,Ae3,hseg,YG hDl hp,Aa];simp only;rw[Aau (by decide),Ab3 (by rw[hdg]at hD;simp[hD])];rfl
 ·rw[Ec,Aau (by rw[Aq,Ac];simp;omega),Eb b (by omega),hfr,Aa];simp only;rw[Aau (by decide),Bl,Aa,Be3,Bcs,Mj _ (by omega),hrd,Aa];simp only;rw[Aau (by decide),Ab3 (by decide),Ab3 (by decide)]
theorem Ave{l:LI}(ht:Ru l=true)(hl:l.length=(Ah (Am r) n).length){T z:LB}(hT:Brst (GV l) T)(hb:(Iu f c w r n++(Po p++(T++z))).length<=20000):
  Ba (Iu f c w r n++(Po p++(T++z))) p=some (Ph 22)/\Ec (Iu f c w r n++(Po p++(T++z))) p 22=some 4:=by
 have hfr:=D1 (f:=f) (c:=c) (w:=w) (r:=r) (n:=n) (Po p++(T++z));have hrd:=qX h1 h2 (Po p++(T++z));have hTl:=hT.len;rw[RF]at hTl;have h:=ht;simp only[Ru,Acl,Acj]at h;obtain⟨hn,h3⟩:=h;have hlt:=(Dn (TY l)).toNat_lt;have hne:=C2 (d:=TY l) (q:=Rc (Dn (TY l)).toNat 4) (d':=T.take (4*l.length)) (q':=T.drop (4*l.length)) (Ca _ _) (by rw[Agy];omega) (by rw[Aph];exact hT) (by rw[Yz];omega);have hsk:Ds (T++z) l.length=([],22):=by
  have e1:(T++z).take (4*l.length)=T.take (4*l.length):=At4 (by omega);have e2:part (T++z) (4*l.length) 4=T.drop (4*l.length):=by
   have:T++z=T.take (4*l.length)++(T.drop (4*l.length)++z):=by rw[<-Aej,Aph]
   rw[this];exact AH (by rw[Afa];omega) (by rw[Agy];omega)
  exact ss3 hn (by rw[Aci];omega) (by rw[e1,e2];exact hne)
 have hDl:=QC p;rw[<-hf]at hDl;have hl':(Iu f c w r n++(Po p++(T++z))).length=22+(if f=2 then 8 else 0)+(4*l.length+4)+z.length:=by rw[Aci,Aci,Aci,Kt,hDl,hTl];omega
 have d22:(Iu f c w r n++(Po p++(T++z))).drop 22=Po p++(T++z):=by
  conv=>lhs;rw[<-Kt f c w r n,Bdf]
 have dA:(Iu f c w r n++(Po p++(T++z))).drop (22+(if f=2 then 8 else 0))=T++z:=by
  rw[<-Bbj,d22,<-hDl,Bdf]
 have Aub:f=1\/f=2:=by rw[hf];exact gN p
 generalize Iu f c w r n++(Po p++(T++z))=b at*
 have hend:∀A:Nat,A<=b.length->A=22+(if f=2 then 8 else 0)->Ba b p=Ja b (f:Int) (c:Int) (w:Int) (r:Int) (n:Int) (A:Int)->Ba b p=some (Ph 22):=by
  intro A hA hA2 e;rw[e,VY h1 h2 b (by omega) A hA,hA2,dA,<-hl,hsk,Ab3 (by simp)]
 constructor
 ·refine hend (22+(if f=2 then 8 else 0)) (by omega) rfl ?_;rw[Ba,Hk,Aau (by rw[Aq,Ac];simp;omega),Aau (by rw[Aq,Ac];simp;omega),Eb b (by omega),hfr,Aa];simp only;rw[Aau (by decide),Bl,Aa,Be3,Bcs,Mj _ (by omega),hrd,Aa];simp only;have t22:Ad (0:Int) 22=((22:Nat):Int):=rfl;have t30:Ad ((22:Nat):Int) 8=((30:Nat):Int):=rfl;rw[Aau (by decide)];by_cases h0:p=[]
  ·have e1:f=1:=by rw[hf,Gj,Ab3 h0]
   rw[Aau (by rw[h0,e1];decide),Aau (by rw[h0];decide),t22,e1];rfl
  ·have e1:f=2:=by rw[hf,Gj,Aau h0]
   have Ba7:(p !=([]:LB))=true:=by simpa using h0
   have hne2:(p==([]:LB))=false:=by simpa using h0
   have hdg:Po p=Rc (Rp p).toNat 8:=by rw[Po,Aau h0]
   have hseg:(b.take 30).drop 22=Rc (Rp p).toNat 8:=by
    rw[Bd5,show 30-22=8 from rfl,d22,hdg,At4 (by rw[Ca];omega),Aqt (by rw[Ca];omega)]
   rw[e1,Ab3 rfl]at hl';rw[Aau (by rw[hne2,e1];decide),Ab3 Ba7,t22,t30,Aau (by rw[Ae,Ac];simp;omega),Oa,Aa,Ae3,Ae3,hseg,YG (Ca _ _) hp,Aa];simp only;rw[Aau (by decide),Aau (by simp),e1];rfl
 ·rw[Ec,Aau (by rw[Aq,Ac];simp;omega),Eb b (by omega),hfr,Aa];simp only;rw[Aau (by decide),Bl,Aa,Be3,Bcs,Mj _ (by omega),hrd,Aa];simp only;rw[Aau (by decide),Aau (by decide),Aau];intro hh;rcases Aub with e1|e1
  ·rw[e1]at hh;simp[Ar]at hh
  ·rw[e1,Ab3 rfl]at hl';rw[Ac,Bs]at hh;simp[Ae]at hh;omega
end
theorem zu{F x U M V:LB}(hF:F=U++(M++V))(hl:x.length=F.length){a1 a2:Nat}(h1:U.length<=a1)(h2:a2<U.length+M.length)(e1:x.take a1=F.take a1)(e2:x.drop (a2+1)=F.drop (a2+1)):
  x=U++((x.drop U.length).take M.length++V)/\ ((x.drop U.length).take M.length).length=M.length:=by
 have hFl:=congrArg List.length hF;rw[Aci,Aci]at hFl;have u1:x.take U.length=U:=by
  have:x.take U.length=(x.take a1).take U.length:=by rw[Ayu,Apg h1]
  rw[this,e1,Ayu,Apg h1,hF,Bf7]
 have u2:x.drop (U.length+M.length)=V:=by
  have:x.drop (U.length+M.length)=(x.drop (a2+1)).drop (U.length+M.length-(a2+1)):=by rw[Bbj];congr 1;omega
  rw[this,e2,Bbj,show a2+1+(U.length+M.length-(a2+1))=U.length+M.length by omega,hF,<-Bbj,Bdf,Bdf]
 refine⟨?_,by rw[Afa,Agy];omega⟩
 conv=>lhs;rw[<-Aph U.length x,u1,<-Aph M.length (x.drop U.length),Bbj,u2]
theorem Ash{o b X:LB}{E:Int}(ho:o.length<=64)(hb:b.length<=20000)(Ajh:Ends o (Fd o b) X E):∃(p2:LB) (f2 c2 w2 r2 n2:Int) (g2:LI) (a2 e3:Int) (u:Bool) (v:Int),Ki o [] 0 0 0 0 0 [] 0 [] false 0 b=some (o,p2,f2,c2,w2,r2,n2,g2,a2,X,false,e3,e3)/\Gb o p2 f2 c2 w2 r2 n2 g2 a2 X false e3=some (o,[],0,0,0,0,0,[],0,X,u,v,E)/\ (e3=0\/e3=E):=by
 obtain⟨p2,f2,c2,w2,r2,n2,g2,a2,y2,e3,d1,_,d3⟩:=(Bh.new ho).feed ho (by simp) b (by omega) (by simp;omega);rw[Auc]at d3;have hs:=d3.Ayk;have hfd:=d3.fd (by omega);have hck:=d3.check ho (by omega);rcases Ajh with⟨h0,h1⟩|⟨p,f,c,w,r,n,g,a,hpl,h1,h2⟩
 ·rw[hfd]at h1;simp only[Acm,Agt]at h1;obtain⟨_,rfl,rfl,rfl,rfl,rfl,rfl,rfl,rfl,rfl,_,rfl,_⟩:=h1;obtain⟨u,v,k,k1,k2⟩:=d3.finish ho (by simp);rcases k2 with⟨rfl,rfl,k3,_,k4⟩|⟨rfl,rfl,rfl⟩
  ·have hk:v=e3:=by rcases k4 with h|h<;>omega
   subst hk;exact⟨_,_,_,_,_,_,_,_,_,_,_,d1,k1, .inr rfl⟩
  ·
   exfalso;cases d3 with
   |wt W=>omega
   |er h0 hc hx hB=>
    have:=(Azc (o:=o) (u:=false) (v:=e3) (k:=e3) ho hx (.inl ⟨rfl,rfl,h0,hc⟩)).2.2;rw[this]at k1;simp only[Acm,Agt]at k1;exact absurd k1.2.2.2.2.2.2.2.2.2.2.1 (by decide)
 ·rw[hfd]at h1;simp only[Acm,Agt]at h1;obtain⟨_,rfl,rfl,rfl,rfl,rfl,rfl,rfl,rfl,rfl,_,rfl,_⟩:=h1;have hbg:=oW (o:=o) (p:=p2) (f:=f2) (c:=c2) (w:=w2) (r:=r2) (n:=n2) (g:=g2) (a:=a2) (x:=y2) (u:=false) (v:=0) (by omega) (by omega) (by omega) hck.1;rw[Aau (by decide)]at hbg;obtain⟨e1,q1,q2⟩:=J6 (o:=o) (p:=p2) (f:=f2) (c:=c2) (w:=w2) (r:=r2) (n:=n2) (a:=a2) (u:=false) (v:=0) (g:=g2) (x:=y2) (by omega);rw[h2]at q2;cases q2;have hF:Gb o p2 f2 c2 w2 r2 n2 g2 a2 y2 false 0=Gb o p2 f2 c2 w2 r2 n2 g2 a2 y2 false 0:=rfl
  conv at hF=>rhs;rw[Gb,hbg,Aa]
  simp only at hF;rw[Aau (by decide),q1,Aa]at hF;by_cases he:Be E 0=true
  ·rw[Ab3 he,VI,Aa]at hF;exact⟨_,_,_,_,_,_,_,_,_,_,_,d1,hF, .inl rfl⟩
  ·have hE0:E=0:=by rw[Ag]at he;simpa using he
   rw[Aau he,<-hE0]at hF;exact⟨_,_,_,_,_,_,_,_,_,_,_,d1,by rw[hE0]at hF⊢;exact hF, .inl rfl⟩
theorem qx{o X C:LB}{R:Option Bai}{E:Int}(h:Ends o R X E){t1 t2:LB}{t3 t4 t5 t6 t7:Int}{t8:LI}{t9:Int}{t11:Bool}{t12 e:Int}(hR:R=some (t1,t2,t3,t4,t5,t6,t7,t8,t9,C,t11,t12,e)):X=C:=by
 rcases h with⟨_,h1⟩|⟨p,f,c,w,r,n,g,a,_,h1,_⟩
 ·rw[hR]at h1;simp only[Acm,Agt]at h1;exact h1.2.2.2.2.2.2.2.2.2.1.symm
 ·rw[hR]at h1;simp only[Acm,Agt]at h1;exact h1.2.2.2.2.2.2.2.2.2.1.symm
section
variable {c w r n:Nat} {x:List Int32} (h:ClipOk c w r n x) {p:LB} (hp:p.length<=64) (h4:x.length<=400)
include h hp h4
theorem An0{t:Nat}(ht:t<FG 0 p (Mr c w r n x p).length):∃e:Int,e≠0/\Ba ((Ev c w r n x p).take t) p=some (Ph e):=by
 have hsm:=uN h (p:=p) h4;have fo:=fE h hp;have hAF:=fo.Ga.at';rcases jB ((Ev c w r n x p).take t) p (by rw[Afa];omega) hp with⟨e,he,h1,_⟩|⟨f',c',w',r',n',A',l',o⟩
 ·exact⟨e,he,h1⟩
 exfalso;have hA:=o.at';have hpos:=o.pos;rw[Afa]at hA;have t22:22<=t:=by omega
 have hfr:Bc ((Ev c w r n x p).take t)=(0,0):=cH (by rw[Ayu,show min 4 t=4 by omega,Ev,Qd];rfl);have hread:Dm (Ev c w r n x p)=((Gj p:Int),(c:Int),(w:Int),(r:Int),(n:Int),0):=by
  rw[Ev];exact qX (h.shape _ (gN p)) h.fit _
 have hh:=o.head;rw[Gx,hfr,Be3,Bcs,kv (by rw[hread]) t22,hread]at hh;simp only[Agt]at hh;obtain⟨v1,v2,v3,v4,v5,_⟩:=hh;have j1:Gj p=f':=by omega
 have j4:r=r':=by omega
 have j5:n=n':=by omega
 have hl:=o.len;subst j1 j4 j5;rw[hfr,hl,<-jU (c:=c) (w:=w) (x:=x) p]at hpos;have:A'=FG 0 p (Mr c w r n x p).length:=by unfold FG;rw[hpos];simp
 omega
theorem Al9{x':LB}(hB:Brst (Ev c w r n x p) x'){a1 a2:Nat}(h12:a1<=a2)(e1:x'.take a1=(Ev c w r n x p).take a1)(e2:x'.drop (a2+1)=(Ev c w r n x p).drop (a2+1)):
  (a2<22->x'.take 3≠ [73,68,51]->∃e:Int,(e=22\/e=12)/\Ba x' p=some (Ph e)/\Ec x' p e=some 2)/\
  (22<=a1->a2<22+(Po p).length->Ba x' p=some (Ph 26)/\Ec x' p 26=some 3)/\
  (22+(Po p).length<=a1->a2<FG 0 p (Mr c w r n x p).length->Ba x' p=some (Ph 22)/\Ec x' p 22=some 4)/\
  (∀K,(hK:K<(Mr c w r n x p).length)-> (FG 0 p (Mr c w r n x p).length:Int)+((Bv (Mr c w r n x p)).take K).sum<=a1-> (a2:Int)<(FG 0 p (Mr c w r n x p).length:Int)+((Bv (Mr c w r n x p)).take (K+1)).sum->
   ∃g':LB,g'.length=(Mr c w r n x p)[K].length/\Nt g'=22/\FileOf c w r n x p 0 ((Mr c w r n x p).set K g') [] x'):=by
 have hsm:=uN h (p:=p) h4;have fo:=fE h hp;have hl:=hB.len;have hshape:=h.shape _ (gN p);have hlf:=Ig (Mr c w r n x p);refine⟨λk1 k2=>?_,λk1 k2=>?_,λk1 k2=>?_,λK hK k1 k2=>?_⟩
 ·have hF:Ev c w r n x p=[]++(Iu (Gj p) c w r n++(Po p++(GV (Bv (Mr c w r n x p))++(Mr c w r n x p).flatten))):=rfl;obtain⟨s1,s2⟩:=zu hF hl (a1:=a1) (a2:=a2) (by simp) (by rw[Kt];simp;omega) e1 e2;generalize(x'.drop ([]:LB).length).take (Iu (Gj p) c w r n).length=M at s1 s2;rw[s1,hF]at hB;have hM:=hB.mid s2;rw[Auc]at s1;rw[Kt]at s2;rw[s1];exact Aoa hshape hM (by
   intro e;apply k2;rw[s1,At4 (by omega)];exact e) hp (by rw[<-s1];omega)
 ·have hF:Ev c w r n x p=Iu (Gj p) c w r n++(Po p++(GV (Bv (Mr c w r n x p))++(Mr c w r n x p).flatten)):=rfl;obtain⟨s1,s2⟩:=zu hF hl (a1:=a1) (a2:=a2) (by rw[Kt];omega) (by rw[Kt];omega) e1 e2;generalize(x'.drop (Iu (Gj p) c w r n).length).take (Po p).length=M at s1 s2;rw[s1,hF]at hB;have hM:=hB.mid s2;rw[s1];exact Aur hshape h.fit hp rfl (λe=>hM.ne e.symm) s2 (by rw[<-s1];omega)
 ·have hF:Ev c w r n x p=(Iu (Gj p) c w r n++Po p)++(GV (Bv (Mr c w r n x p))++(Mr c w r n x p).flatten):=by simp[Ev]
  have hdl:=QC p;obtain⟨s1,s2⟩:=zu hF hl (a1:=a1) (a2:=a2) (by rw[Aci,Kt];omega) (by rw[Aci,Kt,RF,hlf];unfold FG at k2;omega) e1 e2;generalize(x'.drop (Iu (Gj p) c w r n++Po p).length).take (GV (Bv (Mr c w r n x p))).length=M at s1 s2;rw[s1,hF]at hB;have hM:=hB.mid s2;rw[Aej]at s1;rw[s1];exact Ave hshape h.fit hp rfl (xP h p) (by rw[hlf];exact jU p) hM (by rw[<-s1];omega)
 ·have e0:(Mr c w r n x p).flatten=((Mr c w r n x p).take K).flatten++((Mr c w r n x p)[K]++((Mr c w r n x p).drop (K+1)).flatten):=by
   conv=>lhs;rw[<-Aph K (Mr c w r n x p),drop_cons hK]
   rw[Bdh,Bdd]
  have hF:Ev c w r n x p=(Iu (Gj p) c w r n++(Po p++(GV (Bv (Mr c w r n x p))++((Mr c w r n x p).take K).flatten)))++((Mr c w r n x p)[K]++((Mr c w r n x p).drop (K+1)).flatten):=by
   rw[Ev,e0];simp
  have hUl:(Iu (Gj p) c w r n++(Po p++(GV (Bv (Mr c w r n x p))++((Mr c w r n x p).take K).flatten))).length=FG 0 p (Mr c w r n x p).length+((Mr c w r n x p).take K).flatten.length:=by
   rw[Aci,Aci,Aci,Kt,QC,RF,hlf];unfold FG;omega
  have s1:((Bv (Mr c w r n x p)).take K).sum=(((Mr c w r n x p).take K).flatten.length:Int):=by rw[sC,EH]
  have s2:=Aoy (l:=Bv (Mr c w r n x p)) (i:=K) (by rw[hlf];exact hK);have s3:(Bv (Mr c w r n x p))[K]'(by rw[hlf];exact hK)=((Mr c w r n x p)[K].length:Int):=by simp[Bv]
  obtain⟨t1,t2⟩:=zu hF hl (a1:=a1) (a2:=a2) (by rw[hUl];omega) (by rw[hUl];omega) e1 e2;generalize(x'.drop (Iu (Gj p) c w r n++(Po p++(GV (Bv (Mr c w r n x p))++((Mr c w r n x p).take K).flatten))).length).take (Mr c w r n x p)[K].length=M at t1 t2;rw[t1,hF]at hB;have hM:=hB.mid t2;have hset:((Mr c w r n x p).set K M).flatten=((Mr c w r n x p).take K).flatten++(M++((Mr c w r n x p).drop (K+1)).flatten):=by
   rw[List.set_eq_take_append_cons_drop,Ab3 hK,Bdh,Bdd]
  have hx:x'=Iu (Gj p) c w r n++(Po p++(GV (Bv (Mr c w r n x p))++(((Mr c w r n x p).set K M).flatten++[]))):=by
   rw[t1,hset];simp
  exact⟨M,t2,Aig hM (Apt h hK),⟨h,hp,by rw[hx];exact D1 _,by omega,Adz hK t2,by rw[Bcs];exact hx⟩⟩
end
section
variable {c w r n:Nat} {x:List Int32} (h:ClipOk c w r n x) {p:LB} (hp:p.length<=64) (h4:x.length<=400)
include h hp h4
theorem As0(b:LB)(hb:b.length<=20000){E:Int}{g:UInt8}{fr B8:Int}{X:LB}(hE:E≠0)(ht:Sr b p=some (E,g,fr,B8,0))(Ajh:Ends p (Fd p b) X E){K:Nat}(hK:K<= (CD c r n x).length)(hX:X=Cy (w:Int) ((CD c r n x).take K).flatten)(hg:B8=(X.length:Int)):
  Ff p true (Cy (w:Int) x) b=some true:=by
 obtain⟨p2,f2,c2,w2,r2,n2,g2,a2,e3,u,v,k1,k2,_⟩:=Ash hp hb Ajh;have hsplit:Cy (w:Int) x=X++Cy (w:Int) ((CD c r n x).drop K).flatten:=by
  rw[hX,<-uH,<-Bdh,Aph,rz h]
 have hl:=congrArg List.length hsplit;rw[Aci]at hl;have hbl:=FJ h.bits x;have hwb:=P1 (w:Int);have hxl:=h.le;have hmul:x.length*wB (w:Int)<=400*3:=Bce h4 hwb.2;rw[Ff,Kx,ht,Aa];simp only;rw[aU,Aau (by rw[Aq,Ac];simp;omega),Aa];simp only;rw[k1,Aa];simp only;rw[k2,Aa];simp only;have hEb:geq E 0=false:=by rw[Ar,beq_eq_false_iff_ne];exact hE
 rw[Aau (by rw[hEb];simp[Ag,Ae,Aq,Ac,hg];omega),Ab3 (by trivial),hg,Dg,Aa,Ae3,hsplit,Bf7];simp
omit h4 hp in
theorem Bah{K:Nat}(hK:K<= (CD c r n x).length):Uw c w (Ah (Am r) n) K=((Cy (w:Int) ((CD c r n x).take K).flatten).length:Int):=by
 rw[Uw,FJ h.bits,sR h K hK,Bb7]
theorem Abc(b:LB)(hb:b.length<=20000){e:Int}(he:e≠0)(ho:Ba b p=some (Ph e)){g:UInt8}(hf:Ec b p e=some g):Ff p true (Cy (w:Int) x) b=some true:=by
 obtain⟨k1,k2,k3⟩:=Asw hb hp he ho hf;exact As0 h hp h4 b hb he k1 k3 (K:=0) (Nat.zero_le _) (by simp[Cy]) (by simp)
theorem Aeh{b:LB}(hb:b.length<=20000){f' A:Nat}{l:LI}(o:Opn b p f' c w r n A l){K:Nat}(hK:K<l.length)(hg:∀i,i<K->Gu b p f' c w r n A l i=(Cy (w:Int) ((CD c r n x).getD i []),0)){e:Int}(he:(Gu b p f' c w r n A l K).2=e)(he0:e≠0)(hA:(A:Int)+(l.take K).sum<=b.length):
  Ff p true (Cy (w:Int) x) b=some true:=by
 obtain⟨k1,k2⟩:=Aii o hK (λi hi=>by rw[hg i hi]) he he0;obtain⟨X,x1,x2,x3,x4,E,Ajh,Al8,_⟩:=Ao9 b p hb hp;have hEe:E=e:=by
  rw[Pw,Al8,Aa]at k2;exact Apf k2
 subst hEe;have hPl:=xO (c:=c) (r:=r) (n:=n) (x:=x);have hlen:=o.len;have Be2:Qi (λi=>(Gu b p f' c w r n A l i).1) K 0=Cy (w:Int) ((CD c r n x).take K).flatten:=by
  rw[yh (λi=>(Gu b p f' c w r n A l i).1) (λi=>Cy (w:Int) ((CD c r n x).getD i [])) K 0 (λi _ hi=>by rw[hg i (by omega)]),yg w _ K 0 (by omega),Bcs]
 have hX:X=Cy (w:Int) ((CD c r n x).take K).flatten:=by
  rw[<-Be2];by_cases hin:(A:Int)+(l.take (K+1)).sum<=b.length
  ·exact qx Ajh (Bap o hb hK hin (λi hi=>by rw[hg i hi]) (by rw[he];exact he0))
  ·exact qx Ajh (Axu o hb (K:=K) (by omega) hA (λi hi=>by rw[hg i hi]) (.inl ⟨hK,by omega⟩))
 exact As0 h hp h4 b hb he0 k1 Ajh (K:=K) (by omega) hX (by rw[hX];exact Bah h (by omega))
end
theorem uB:∀(l:LI) (a:Int),(∀z∈l,0<=z)->0<=a->a<l.sum->∃K,K<l.length/\ (l.take K).sum<=a/\a<(l.take (K+1)).sum
 |[],a,_,h0,h=>by simp at h;omega
 |z::l,a,hn,h0,h=>by
  by_cases hz:a<z
  ·exact⟨0,by simp,by simpa using h0,by simpa using hz⟩
  ·rw[Awb]at h;obtain⟨K,k1,k2,k3⟩:=uB l (a-z) (λy hy=>hn y (Am3 _ hy)) (by omega) (by omega);refine⟨K+1,by simp;omega,?_,?_⟩
   ·rw[Bfr,Awb];omega
   ·rw[Bfr,Awb];omega
theorem Avk(hal:Wq=some true)(C W R:Int)(x:List Int32)(p:LB)(at':Int)(YO:UInt8):Nm C W R x p at' YO=some true:=by
 rw[Nm,Qp,hal,Aa];rcases Acx C W R x with⟨e8,_⟩|⟨c,w,r,n,rfl,rfl,rfl,h,e24,eck⟩
 ·rw[e8,Aa,Ab3 (by simp[Ag])]
 rw[e24,Aa];by_cases hc:(((Be (0:Int) 0||Ex (Ac x) 400)||Ex (Ac p) 64)|| !true)=true
 ·rw[Ab3 hc]
 rw[Aau hc];simp only[Azv,not_or,Aq,Ac,Acj]at hc;obtain⟨⟨⟨_,c2⟩,c3⟩,_⟩:=hc;have hp:p.length<=64:=by omega
 have hx4:x.length<=400:=by omega
 have hsm:=uN h (p:=p) hx4;have fo:=fE h hp;have o:=fo.Ga;have hd:=fo.Apk;have hlen:=congrArg List.length hd;rw[Agy,Aue]at hlen;have hA:=o.at';have hlf:=Ig (Mr c w r n x p);have Bf6:=EH (Mr c w r n x p);have hnn:=Avj (Mr c w r n x p);rw[Adw h eck p hp,Aa];simp only;rw[Ag6 h.bits (by omega) h.rng,Aa];simp only;rw[Aau (by decide)];by_cases hc2:(Cj at' 0||Nj at' (Ac (Ev c w r n x p)))=true
 ·rw[Ab3 hc2]
 rw[Aau hc2];simp only[Azv,not_or,Ae,Dy,Ac,Acj]at hc2;obtain⟨a,rfl⟩:=Ag0 (show 0<=at' by omega);rw[Dg,Aa,Ae3];by_cases hb0:Be YO 0=true
 ·have hy:YO≠0:=by intro e;rw[e]at hb0;exact absurd hb0 (by decide)
  have hfl:=Axl (Ev c w r n x p) (a:Int) YO (by omega);rw[Ab3 ⟨by omega,by omega,hy⟩,Ae3]at hfl;rw[Ab3 hb0,hfl,Aa];simp only;rw[Aau (by decide)];have hB:=Aov (f:=Ev c w r n x p) (a:=a) (g:=YO) (by omega) hy;have hlx:((Ev c w r n x p).set a ((Ev c w r n x p).getD a 0^^^YO)).length=(Ev c w r n x p).length:=Bco;have t1:((Ev c w r n x p).set a ((Ev c w r n x p).getD a 0^^^YO)).take a=(Ev c w r n x p).take a:=List.take_set_of_le (Am4 _);have t2:((Ev c w r n x p).set a ((Ev c w r n x p).getD a 0^^^YO)).drop (a+1)=(Ev c w r n x p).drop (a+1):=by rw[List.drop_set,Ab3 (by omega)]
  have t3:((Ev c w r n x p).set a ((Ev c w r n x p).getD a 0^^^YO)).take 3≠ [73,68,51]:=by
   have hT:(Ev c w r n x p).take 3=[84,84,65]:=by rw[Ev,Qd];rfl
   rw[List.take_set,hT];intro e;rcases Be4 a 1 with h0|h0
   ·have:=congrArg (λl:LB=>l.getD 1 0) e;have ha0:a=0:=by omega
    subst ha0;simp at this
   ·have:=congrArg (λl:LB=>l.getD 0 0) e;obtain⟨a',rfl⟩:∃a',a=a'+1:=⟨a-1,by omega⟩;simp at this
  obtain⟨q1,q2,q3,q4⟩:=Al9 h hp hx4 hB (Am4 a) t1 t2;generalize hx':(Ev c w r n x p).set a ((Ev c w r n x p).getD a 0^^^YO)=x' at*
  have hxl:x'.length<=20000:=by omega
  by_cases r1:a<22
  ·obtain⟨e,he,k1,k2⟩:=q1 r1 t3;exact Abc h hp hx4 x' hxl (by omega) k1 k2
  by_cases r2:a<22+(Po p).length
  ·obtain⟨k1,k2⟩:=q2 (by omega) r2;exact Abc h hp hx4 x' hxl (by decide) k1 k2
  by_cases r3:a<FG 0 p (Mr c w r n x p).length
  ·obtain⟨k1,k2⟩:=q3 (by omega) r3;exact Abc h hp hx4 x' hxl (by decide) k1 k2
  obtain⟨K,k1,k2,k3⟩:=uB (Bv (Mr c w r n x p)) ((a:Int)-(FG 0 p (Mr c w r n x p).length:Int)) hnn (by omega) (by omega);rw[hlf]at k1;obtain⟨g',g1,g2,fo'⟩:=q4 K k1 (by omega) (by omega);have o':=fo'.Ga;have hl':=Adz (fs:=Mr c w r n x p) k1 (g:=g') g1;have hlen':((Mr c w r n x p).set K g').length=(Mr c w r n x p).length:=Bco;have hgood':∀i,(hi:i<(Mr c w r n x p).length)->i≠K-> _:=λi hi hiK=>(fo'.B8 (k:=i) (by rw[hlen'];exact hi) (by rw[List.getElem_set_ne (λe=>hiK e.symm)])).1;have hbd:=fo'.Bdq (k:=K) (by rw[hlen'];exact k1) (by rw[List.getElem_set_self];exact g2);rw[hl',hlen']at o' hgood' hbd;exact Aeh h hp hx4 hxl o' (K:=K) (by rw[hlf];exact k1) (λi hi=>hgood' i (by omega) (by omega)) hbd (by decide) (by omega)
 ·rw[Aau hb0];by_cases hat:FG 0 p (Mr c w r n x p).length<=a
  ·obtain⟨K,k1,k2,k3⟩:=uB (Bv (Mr c w r n x p)) ((a:Int)-(FG 0 p (Mr c w r n x p).length:Int)) hnn (by omega) (by omega);rw[hlf]at k1;have o':=Agq h hp hat;have hll:((Ev c w r n x p).take a).length=a:=by rw[Afa];omega
   have hg:∀i,i<K-> _:=λi hi=>Au8 h hp hat (by omega) (k:=i) (by omega) (by
    have:=vY hnn (show i+1<=K by omega);omega)
   have hbd:(Gu ((Ev c w r n x p).take a) p (Gj p) c w r n (FG 0 p (Mr c w r n x p).length) (Bv (Mr c w r n x p)) K).2=24:=by
    obtain⟨m,y,s,e,g⟩:=Qa o' K (by rw[hlf];exact k1);rw[g.eq];rcases g.way with⟨_,hw⟩|⟨hw,_⟩
    ·exact hw
    ·rw[hll]at hw;omega
   exact Aeh h hp hx4 (by rw[hll];omega) o' (K:=K) (by rw[hlf];exact k1) hg hbd (by decide) (by rw[hll];omega)
  ·obtain⟨e,he,ho⟩:=An0 h hp hx4 (t:=a) (by omega);obtain⟨y,hy,_⟩:=Aic ((Ev c w r n x p).take a) p (by rw[Afa];omega) hp he ho;exact Abc h hp hx4 _ (by rw[Afa];omega) he ho hy
theorem law_DamageGood(C W R:Int)(x:List Int32)(p:LB)(at':Int)(YO:UInt8):Nm C W R x p at' YO=some true:=Avk Axe C W R x p at' YO
end Go.Pl
