/- A part of a proof (see the text that ends in Proof). No conditions. -/
import Derived.Test.YtaicmmejgiaafaaGreatDoorVnPA
import Derived.KernelRfl
set_option linter.unusedVariables false
set_option linter.unusedSimpArgs false
namespace Go.Lv
theorem nM:TD=17179869184:=D0
theorem pB{α:Type}{n:Int}{z:α}(h:0<=n:=by omega)(h':n<=17179869184:=by omega):XR n z=some (List.replicate n.toNat z):=by rw[XR,nM,yZ ⟨h,h'⟩]
theorem CY{b:Bool}(h:b=true):Dt b=some ():=by rw[h];rfl
theorem Az{α β:Type}(a:α)(f:α->Option β):Option.bind (some a) f=f a:=rfl
end Go.Lv
namespace Go.Pl
open Go Go.Lv
def Lp:LB:=[84,84,65,49,2,0,2,0,16,0,4,0,0,0,5,0,0,0,53,215,167,173,160,118,203,71,159,71,36,226,16,0,0,0,7,0,0,0,251,214,78,132,4,64,128,6,6,4,107,94,4,96,129,0,174,194,153,9,74,16,0,85,195,142,200]
theorem kO:Cl [120]=some Lp:=by kernel_rfl
theorem wJ:Ac Lp [120] 0=some true:=by kernel_rfl
theorem wK:Ac Lp [] 26=some true:=by kernel_rfl
theorem wN:Ac Lp [121] 26=some true:=by kernel_rfl
theorem wO:Ac (Lp++[0]) [120] 38=some true:=by kernel_rfl
theorem wU:Ac (Lp.take (Lp.length-1)) [120] 24=some true:=by kernel_rfl
def lT:LB:=[84,84,65,49,2,0,2,0,16,0,4,0,0,0,5,0,0,0,53,215,167,173,160,118,203,71,159,71,36,226,16,0,0,0,7,0,0,0,251,214,78,132,4,64,128,6,6,4,107,94,4,96,129,0,174,194,153,9,74,17,0,85,195,142,200]
theorem wG:Ac lT [120] 22=some true:=by kernel_rfl
theorem mJ:Cs=some true:=by
 rw[Cs,kO,Az,zA D0,show Cd [] Lp=some Lp from by kernel_rfl,Az,show Ak Lp (Ah (Aa Lp) 6)=some 16 from by kernel_rfl,Az,show Ew Lp (Ah (Aa Lp) 6) (Qo 16 1)=some lT from by kernel_rfl,Az,
  wJ,Az,zA D0,wK,Az,zA D0,wN,Az,zA D0,show Cd Lp [0]=some (Lp++[0])from by kernel_rfl,Az,wO,Az,zA D0,show Ck Lp 0 (Ah (Aa Lp) 1)=some (Lp.take (Lp.length-1))from by kernel_rfl,Az,wU,Az,zA D0,wG]
def Vf:LB:=[84,84,65,49,1,0,2,0,16,0,4,0,0,0,5,0,0,0,238,242,198,209,15,0,0,0,7,0,0,0,124,245,213,33,4,64,128,6,6,68,107,96,208,184,121,1,216,79,79,74,16,0,85,195,142,200]
theorem VX:Jw (List.replicate 100001 0) []=some (0,0,0,[],4):=by
 have hl:Aa (List.replicate 100001 (0:UInt8))=100001:=by rw[Aa,List.length_replicate];rfl
 rw[Jw,Pz,zA D0,Kl,hl,yZ D0,Az];rfl
theorem pR:Ac (List.replicate 100001 0) [] 4=some true:=by
 rw[Ac,VX,Az];simp only;rw[GJ,VX,Az];simp only;rw[yZ D0,Az];simp only;rw[Yu,VX,Az];rfl
theorem kF:Cm (List.replicate 100001 0)=some (0,0,0,0,0,4):=by
 have hl:Aa (List.replicate 100001 (0:UInt8))=100001:=by rw[Aa,List.length_replicate];rfl
 rw[Cm,Mx,Kl,hl,yZ D0,Az];rfl
abbrev wM:=LB->LB->Int->Int->Int->Int->Int->Int->Int->Int->Int->Int->Bool->Option Bool
theorem tZ(K:wM):Cx K=K Vf Lp 0 22 22 34 56 0 22 30 42 65 true:=by
 unfold Cx
 try simp only[IA]
 rw[show Cl []=some Vf from by kernel_rfl,Az,kO,Az,show Cm Vf=some (0,22,22,34,56,0)from by kernel_rfl,Az];simp only;rw[show Cm Lp=some (0,22,30,42,65,0)from by kernel_rfl,Az];simp only;rw[zA D0,show XR (65:Int) (0:UInt8)=some (List.replicate 65 0)from by kernel_rfl,Az,CY D0,Az,show Ac Vf (List.replicate 65 0) 2=some true from by kernel_rfl,Az,yZ rfl,
  show Ac [] (List.replicate 65 0) 2=some true from by kernel_rfl,Az,yZ rfl,pB,Az,CY D0,Az,show(100001:Int).toNat=100001 from rfl,pR,Az]
theorem uH(K:LB->LB->Bool->Int->Int->Int->Int->Int->Int->Int->Int->Int->Int->Bool->Option Bool):Cy K Vf Lp 0 22 22 34 56 0 22 30 42 65 true=K Vf Lp true 0 22 22 34 56 0 22 30 42 65 true:=by
 unfold Cy
 try simp only[IA]
 kernel_rfl
theorem uC(K:LB->LB->Bool->Bool->Int->Int->Int->Int->Int->Int->Int->Int->Int->Int->Bool->Option Bool):Cw K Vf Lp true 0 22 22 34 56 0 22 30 42 65 true=K Vf Lp true true 0 22 22 34 56 0 22 30 42 65 true:=by
 unfold Cw
 try simp only[IA]
 kernel_rfl
def tS(i:Int):Option Bool:=(Ak Vf i).bind λx=>(Ew Vf i (Qo x 16)).bind λf=>Ac f [] 22
theorem rN(J:LB->LB->Bool->Bool->Bool->Int->Int->Int->Int->Int->Int->Int->Int->Int->Int->Option Bool)(B:Int->Option Bool)(i:Int)(h:tS i=some true)(hi:i<56):
  Bl J B Vf Lp true true true 0 22 22 34 56 0 22 30 42 65 i=B (Ad i 1):=by
 unfold Bl
 try simp only[IA]
 rw[yZ (show Ci i 56=true from decide_eq_true hi),show Cd [] Vf=some Vf from by kernel_rfl,Az];unfold tS at h;obtain⟨x,hx,h⟩:=Option.bind_eq_some_iff.1 h;obtain⟨f,hf,h⟩:=Option.bind_eq_some_iff.1 h;rw[hx,Az,Az,Az,hf,Az,h,Az];rfl
theorem qZ(J:LB->LB->Bool->Bool->Bool->Int->Int->Int->Int->Int->Int->Int->Int->Int->Int->Option Bool)(B:Int->Option Bool):
  Bl J B Vf Lp true true true 0 22 22 34 56 0 22 30 42 65 56=J Vf Lp true true true 0 22 22 34 56 0 22 30 42 65:=by
 unfold Bl;rw[zA D0]
theorem dM:∀(k:Nat) (q:Nat) (i:Int),i+k=56->34<=i->k<q-> (∀j:Nat,j<k->tS (i+j)=some true)->
  Bm Vf Lp true true true 0 22 22 34 56 0 22 30 42 65 q i=Bv Vf Lp true true true 0 22 22 34 56 0 22 30 42 65
 |0,q+1,i,hi,_,_,_=>by
  obtain rfl:i=56:=C8
  rw[Bm,qZ]
 |k+1,q+1,i,hi,h34,hq,h=>by
  have h0:=h 0 C8;rw[show i+((0:Nat):Int)=i by omega]at h0;have hg:Ad i 1=i+1:=by
   show Go.Lv.wrap64 (i+1)=i+1;exact Go.Lv.Jt C8 C8
  rw[Bm,rN _ _ _ h0 C8,hg];exact dM k q (i+1) C8 C8 C8 λj hj=>by
   have:=h (j+1) C8;rwa [show i+((j+1:Nat):Int)=i+1+(j:Int) by omega]at this
theorem pQ:((List.range 22).all λj=>tS (34+(j:Int))==some true)=true:=by kernel_rfl
theorem rR:Bv Vf Lp true true true 0 22 22 34 56 0 22 30 42 65=some true:=by
 rw[Bv,Gg]
 try simp only[IA]
 rw[show Cd [] Vf=some Vf from by kernel_rfl,Az,show Ak Vf 34=some 4 from by kernel_rfl,Az,Az,Az,show Ew Vf 34 (Qo 4 1)=some (Vf.set 34 5)from by kernel_rfl,Az,
  show Ck Vf 0 (Ah (Aa Vf) 1)=some (Vf.take 55)from by kernel_rfl,Az,show Cm (Vf.take 55)=some (0,0,0,0,0,24)from by kernel_rfl,Az]
 simp only;rw[show Ck Lp 0 29=some (Lp.take 29)from by kernel_rfl,Az,show Cm (Lp.take 29)=some (0,0,0,0,0,24)from by kernel_rfl,Az];simp only;rw[pB,Az,CY D0,Az,show(100001:Int).toNat=100001 from rfl,kF,Az];simp only;rw[CY D0,Az,show Ck Lp 0 (Aa Lp)=some Lp from by kernel_rfl,Az,show Cd Lp [1,2,3]=some (Lp++[1,2,3])from by kernel_rfl,Az,CY D0,Az,
  show Cm (Lp++[1,2,3])=some (0,22,30,42,65,0)from by kernel_rfl,Az]
 simp only;rw[mJ,Az,yZ D0,show Ck (Vf.set 34 5) 0 (Ah (Aa Vf) 1)=some ((Vf.set 34 5).take 55)from by kernel_rfl,Az,show Ac ((Vf.set 34 5).take 55) [] 22=some true from by kernel_rfl,Az,yZ D0,
  CY D0,Az,show Ck Vf 0 (Aa Vf)=some Vf from by kernel_rfl,Az,show Cd Vf [65,80,69,84,65,71,69,88]=some (Vf++[65,80,69,84,65,71,69,88])from by kernel_rfl,Az,CY D0,Az,
  show Ac (Vf++[65,80,69,84,65,71,69,88]) [] 38=some true from by kernel_rfl,Az]
theorem law_ValidNames:Fb=some true:=by
 rw[Fb,tZ,Eb,uH,Eh,uC,Gq,Ea,Fz];rw[dM 22 Cq 34 C8 C8 D0 λj hj=>?_]
 ·exact rR
 ·have h:=List.all_eq_true.1 pQ j (List.mem_range.2 hj);exact eq_of_beq h
end Go.Pl
