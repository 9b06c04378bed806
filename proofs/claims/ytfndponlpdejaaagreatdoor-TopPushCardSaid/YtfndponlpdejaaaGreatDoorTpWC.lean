/- A part of a proof (see the text that ends in Proof). No conditions. -/
import Derived.Test.YtfndponlpdejaaaGreatDoorTpWB
set_option linter.unusedVariables false
set_option linter.unusedSimpArgs false
namespace Go.Pl
open Go Go.Lv
section
variable {c w r n:Nat} {x:LX} (h:ClipOk c w r n x) {p:LB} (hp:p.length<=64) (h4:x.length<=400)
include h hp h4
theorem Ba6{t:Nat}(ht:t<(Ck c w r n x p).length):MF ((Ck c w r n x p).take t) p=some 24:=by
 have hsm:=TG h (p:=p) h4;have fo:=bI h hp;have hAF:=fo.Fm.at';have hM:(Ck c w r n x p).take 4=Kt:=by rw[Ck,AH];rfl
 have hfr:=Atw (c:=c) (w:=w) (r:=r) (n:=n) (x:=x) (p:=p) t;have hll:((Ck c w r n x p).take t).length=t:=by rw[C8];omega
 have hlf:=Gb (Mz c w r n x p);have hfl:=bD (c:=c) (w:=w) (r:=r) (n:=n) (x:=x) p;have hs1:=fo.Fm.some1;have hsh:=h.shape _ (wY p);have hread:Eg (Ck c w r n x p)=((Ep p:Int),(c:Int),(w:Int),(r:Int),(n:Int),0):=by
  rw[Ck];exact zV hsh h.fit _
 by_cases t22:t<22
 ·have hr:Eg ((Ck c w r n x p).take t)=(0,0,0,0,0,24):=rs2 (by
   rw[hll,LD,<-hM,LD,show min (min 4 t) t=min (min 4 t) 4 by omega]) F0
  have ho:Cf ((Ck c w r n x p).take t) p=some (HO 24):=by
   generalize(Ck c w r n x p).take t=b at*
   rw[Cf,Of,A_ C3,A_ C3,Ll b F0,hfr,Aa];simp only;rw[A_ F2,Bu,Aa,WM,LG,FI _ F0,hr,Aa];simp only;rw[B2 F2];rfl
  rw[MF,Ako F0 hp F2 ho,Aa];rfl
 have hr:Eg ((Ck c w r n x p).take t)=((Ep p:Int),(c:Int),(w:Int),(r:Int),(n:Int),0):=by rw[Anu (by rw[hread]) F0,hread]
 have hpos:=fo.Fm.pos;by_cases hat:t<Zp 0 p (Mz c w r n x p).length
 ·have hpos:Zp 0 p (Mz c w r n x p).length=22+(if Ep p=2 then 8 else 0)+4*(Al (Ak r) n).length+4:=by
   rw[<-hfl];unfold Zp;omega
  have Bhs:1<= (Al (Ak r) n).length/\ (Al (Ak r) n).length<=1000:=F0
  have hsk:22+(if Ep p=2 then 8 else 0)<=t->Ez (((Ck c w r n x p).take t).drop (22+(if Ep p=2 then 8 else 0))) (Al (Ak r) n).length=([],24):=λhh=>ss2 Bhs (by rw[D3,hll];omega);have hdg:p≠ []->30<=t-> (((Ck c w r n x p).take t).take 30).drop 22=Uc (Vy p).toNat 8:=by
   intro h0 h30;rw[LD,I? h30,Ck,<-C6,O_ (by rw[B6,EC,XV,Ep,A_ h0];simp),H3 (by rw[B6,EC,XV,Ep,A_ h0];simp),<-EC (Ep p) c w r n,M6,VW,A_ h0]
  have hfit:=h.fit;generalize(Ck c w r n x p).take t=b at*
  have ho:Cf b p=some (HO 24):=by
   rw[Cf,Of,A_ C3,A_ C3,Ll b F0,hfr,Aa];simp only;rw[A_ F2,Bu,Aa,WM,LG,FI _ F0,hr,Aa];simp only;have t22:Ae (0:Int) 22=((22:Nat):Int):=rfl;have t30:Ae ((22:Nat):Int) 8=((30:Nat):Int):=rfl;have hend:∀A:Nat,A<=b.length->A=22+(if Ep p=2 then 8 else 0)->On b (Ep p:Int) (c:Int) (w:Int) (r:Int) (n:Int) (A:Int)=some (HO 24):=by
    intro A hA hA2;rw[mM hsh hfit b F0 A hA,hA2,hsk F0,B2 B3]
   rw[A_ F2];by_cases h0:p=[]
   ·have e1:Ep p=1:=by rw[Ep,B2 h0]
    have:=hend 22 F0 (by rw[e1];rfl);rw[A_ (by rw[e1,h0];decide),A_ (by rw[h0];decide),t22];exact this
   ·have e1:Ep p=2:=by rw[Ep,A_ h0]
    have Bl4:(p !=([]:LB))=true:=by simpa using h0
    have hne2:(p==([]:LB))=false:=by simpa using h0
    rw[A_ (by rw[hne2,e1];decide),B2 Bl4,t22,t30];by_cases h30:b.length<30
    ·rw[B2 F4];rfl
    ·have:=hend 30 F0 (by rw[e1];rfl);rw[A_ F4,Sa,Aa,C2,C2,hdg h0 F0,vU (Cn _ _) hp,Aa];simp only;rw[A_ F2,A_ B3];exact this
  rw[MF,Ako F0 hp F2 ho,Aa];rfl
 ·have o':=B! h hp (t:=t) F0;have hnn:=rY (Mz c w r n x p);have hd:=fo.XJ;have hlen:=congrArg List.length hd;rw[D3,E0]at hlen;have hs:=DF (Mz c w r n x p);obtain⟨K,k1,k2,k3⟩:=Aqh (By (Mz c w r n x p)) ((t:Int)-(Zp 0 p (Mz c w r n x p).length:Int)) hnn F0 F0;have hg:∀i,i<K-> _:=λi hi=>rP h hp (t:=t) F0 F0 (k:=i) F0 (by
   have:=O6 hnn (show i+1<=K by omega);omega)
  have hbd:(Iv ((Ck c w r n x p).take t) p (Ep p) c w r n (Zp 0 p (Mz c w r n x p).length) (By (Mz c w r n x p)) K).2=24:=by
   obtain⟨m,y,s,e,g⟩:=Ua o' K F0;rw[g.eq];rcases g.way with⟨_,hw⟩|⟨hw,_⟩
   ·exact hw
   ·rw[hll]at hw;omega
  exact Akd o' (K:=K) F0 (λi hi=>by rw[hg i hi]) hbd F2
end
theorem Axw{n f d:Nat}(hn:n<=100000)(f1:1<=f)(f2:f<=100000)(hd:d<=100000)(hm:(n+f-1)/f<=99):LC (n:Int) (f:Int) (d:Int)=some (lU f d ((n+f-1)/f),0)/\n<= (n+f-1)/f*f:=by
 have e1:Aq (Ae (n:Int) (f:Int)) 1=((n+f-1:Nat):Int):=by rw[Ah,Cb];omega
 have e2:Ca (Aq (Ae (n:Int) (f:Int)) 1) (f:Int)=(((n+f-1)/f:Nat):Int):=by rw[e1,Tv]
 have e3:∀k:Nat,k<=200000->Ae (Bm 2 (k:Int)) 2=((2*k+2:Nat):Int):=by
  intro k hk;have e4:Bm 2 (k:Int)=((2*k:Nat):Int):=by rw[show(2:Int)=((2:Nat):Int)from rfl,Ex];omega
  rw[e4,Ah];omega
 have hmul:n<= (n+f-1)/f*f:=by
  have:=MK (n+f-1) f;have h2:=HW (n+f-1) (show f>0 by omega);rw[D9]at this;omega
 refine⟨?_,hmul⟩;rw[LC,A_ EE,Br D2,Aa,e2,e3 _ F0];generalize(n+f-1)/f=m at hm⊢;have hl:(uJ f d m).length=2*m:=lP f d m;rw[A_ E7,Bdk _ _ m F0,Aa];change (Dm (uJ f d m) _).bind _=_;rw[Bg B5,Aa];rfl
theorem Bio(n:Nat):(n+(1+n/50)-1)/(1+n/50)<=50:=by
 have h:=MK n 50;have h2:=HW n (show 50>0 by decide);generalize n/50=q at h⊢;refine Nat.le_of_lt_succ ((aG F0).2 ?_);rw[X6];omega
section
variable {c w r n:Nat} {x:LX} (h:ClipOk c w r n x) {p:LB} (hp:p.length<=64) (h4:x.length<=200)
include h hp h4
theorem Ad4:DecAll p (Ck c w r n x p) (Az (w:Int) x) true 0/\Ends p (Fd p (Ck c w r n x p)) (Az (w:Int) x) 0:=by
 have hsm:=TG h (p:=p) F0;obtain⟨X,x1,x2,x3,x4,E,tq,ZL,Bl5⟩:=Aed (Ck c w r n x p) p F0 hp;rw[Aoq h hp]at ZL;simp only[B?,BS]at ZL;obtain⟨rfl,rfl,rfl,rfl,rfl⟩:=ZL;have hX:=Bl5 rfl;rw[yx h.bits F0 h.rng]at hX;simp only[B?,BS]at hX;obtain⟨rfl,_⟩:=hX;obtain⟨u,v,hD,hc⟩:=DecAll.of hp F0 tq;rcases hc with⟨_,rfl,rfl⟩|⟨h0,_⟩
 ·exact⟨hD,tq⟩
 ·exact absurd rfl h0
theorem Awl{t:Nat}(ht:t<(Ck c w r n x p).length){ps:LI}(hps:ps.length<=40)(m:UInt64):EZ p ((Ck c w r n x p).take t) (Az (w:Int) x) ps m=some true:=by
 have hsm:=TG h (p:=p) F0;have hbl:=Vu (w:Int) x;have hbt:((Ck c w r n x p).take t).length=t:=by rw[C8];omega
 obtain⟨X,x1,x2,x3,x4,E,tq,ZL,_⟩:=Aed ((Ck c w r n x p).take t) p F0 hp;have h24:=Ba6 h hp F0 ht;rw[MF,ZL,Aa]at h24;simp only[B?]at h24;subst h24;obtain⟨u,v,hD,hc⟩:=DecAll.of hp F0 tq;rcases hc with⟨h0,_⟩|⟨_,rfl,rfl⟩
 ·exact absurd h0 F2
 obtain⟨q1,f1,c1,w1,r1,n1,g1,a1,e1,K1,hB,hfin⟩:=hD.all;have hpre:∃y,Az (w:Int) x=X++y:=by
  obtain⟨q2,f2,c2,w2,r2,n2,g2,a2,e2,K2,hB2,_⟩:=(Ad4 h hp h4).1.all;have hsz:=hB.gH;obtain⟨p',f',c',w',r',n',g',a',y,e',_,_,d3⟩:=hB.tE hp F0 ((Ck c w r n x p).drop t) IC (by rw[JY];omega) (SJ _);rw[JY]at d3;have k1:=d3.fd F0;have k2:=hB2.fd F0;rw[k1]at k2;simp only[B?,BS,N1]at k2;exact⟨y,k2.2.2.2.2.2.2.2.2.1.symm⟩
 obtain⟨y,hy⟩:=hpre;have hXl:X.length<= (Az (w:Int) x).length:=by rw[hy,B6];omega
 have hsX:=hB.gH;have h50:=Bio t;obtain⟨v1,v2⟩:=Axw (n:=t) (f:=1+t/50) (d:=3) F0 F0 F0 F0 F0;generalize hM:(t+(1+t/50)-1)/(1+t/50)=M at h50 v1 v2;have hl:=Adv (1+t/50) 3 M;have hv:=Axh (1+t/50) 3 M F0 F0;have hv1:∀st∈lU (1+t/50) 3 M,VS st:=λst hs=>(hv st hs).1;have hfn:U_ t (lU (1+t/50) 3 M) 0=(t,true):=by
  rw[lU,Ail _ _ _ _ _ (SJ _),I? F0]
 obtain⟨es,U,inp',ds,tt,s1,s2,s3,s4,s5,s6,s7⟩:=Ax3 hp (show((Ck c w r n x p).take t).length<=12100 by omega) (show(lU (1+t/50) 3 M).length<=200 by omega) hv;have Boo:=s2.szs;have htt:tt=U.X.length:=s7.2 F0 _ (Aod _ _ _) F2;have hlen:=s4.len;have hol:(outs ds).length<=12000:=by rw[s5,C8];omega
 have hend:=o! hp (inp:=(Ck c w r n x p).take t) F0 (n:=0) (SJ _) (by simpa using Bh.new hp) hv1 (show NJ p (lU (1+t/50) 3 M) (((Ck c w r n x p).take t).drop 0) ⟨((Ck c w r n x p).take t).take 0,[],[],0,0,0,0,0,[],0,false,0⟩=some (es,U,inp')from s1);rw[hbt,hfn]at hend;simp only[LD,Nat.min_self]at hend;rcases hend with⟨k1,_⟩|⟨-,q,g,c',w',r',m',l,a,X2,e,k',k2,k3⟩
 ·exact absurd k1 F2
 have h9:=k2.fd F0;have h8:=hB.fd F0;rw[h8]at h9;simp only[B?,BS,N1]at h9;obtain⟨rfl,rfl,rfl,rfl,rfl,rfl,rfl,rfl,rfl,rfl, -⟩:=h9;rw[hfin]at k3;simp only[B?,BS,N1]at k3;obtain⟨-, -, -, -, -, -, -, -,hUX, -,hUv, -⟩:=k3;rw[EZ,GA,hD.pieces hp F0 hps,Aa];simp only;rw[xC F0 hp tq m,Aa];simp only;rw[A_ wQ,Ac,Cx,Aa,C2,hy,WK,A_ B3,GU,Wl,Ac,hbt];have hq:Ae 1 (Ca (t:Int) 50)=((1+t/50:Nat):Int):=by rw[show(50:Int)=((50:Nat):Int)from rfl,Tv,Ah];omega
 rw[hq,show(3:Int)=((3:Nat):Int)from rfl,v1,Aa];simp only;rw[s6,Aa];simp only;rw[<-hUv,B2 F2,Ats F0 F0,Aa,s5,htt,FX,<-hUX];simp
end
theorem Alz:Yu=some true:=by kernel_rfl
theorem Bao(hal:Yu=some true)(C W R:Int)(x:LX)(p:LB)(ps:LI)(m:UInt64)(f z:Int):Yv C W R x p ps m f z=some true:=by
 rw[Yv,Agx];rcases Ajc C W R x with⟨c1,c2⟩|⟨c,w,r,n,rfl,rfl,rfl,h,c1,c2⟩
 ·rw[c1,Aa,B2 N3]
 rw[c1,Aa];by_cases hc:(((Bd (0:Int) 0||Dz (Ac x) 200)||Dz (Ac p) 64)||Dz (Ac ps) 40)=true
 ·rw[B2 hc]
 rw[A_ hc,hal,Aa,A_ F2];simp only[I',not_or,Ap,Ac,B7]at hc;have hp:p.length<=64:=F0
 have h4:x.length<=200:=F0
 have hps:ps.length<=40:=F0
 have hE:=h.enc hp;obtain⟨f1,f2,f3,f4⟩:=oN h hp;have hbl:=Vu (w:Int) x;have hsm:=TG h (p:=p) F0;have hce:=Ano hE (Az (w:Int) x) F0 m;rw[O?,f1,f2,f3,B2 f4,A_ (by have:=h.cnt.1;simp;omega)]at hce;obtain⟨hD,tq⟩:=Ad4 h hp h4;rw[yx h.bits F0 h.rng,Aa];simp only;rw[Ah4 h c2 p hp,Aa];simp only;rw[hce,Aa];simp only;rw[A_ N3,Ahy h hp hps,Aa,A_ F2,Ag8,Ag6,hD.pieces hp F0 hps,Aa];simp only;rw[xC F0 hp tq m,Aa];simp only;rw[A_ N3,Aki h hp h4 f,Aa,A_ F2,Aha,Agy];by_cases hz:(Cj z 1||Dz z (Ac (Ck c w r n x p)))=true
 ·rw[B2 hz]
 rw[A_ hz];simp only[I',not_or,Ad,Ap,Ac,B7]at hz;obtain⟨k,rfl⟩:=FT (show 0<=z by omega);rw[Ac,Cb,show((Ck c w r n x p).length:Int)-(k:Int)=(((Ck c w r n x p).length-k:Nat):Int) by omega,Cx,Aa,C2,Awl h hp h4 F0 hps m,Aa]
theorem law_TopPush(C W R:Int)(x:LX)(p:LB)(ps:LI)(m:UInt64)(f z:Int):Yv C W R x p ps m f z=some true:=Bao Alz C W R x p ps m f z
end Go.Pl
