/- A part of a proof (see the text that ends in Proof). No conditions. -/
import Derived.Test.YtaokmgopghpikaaGreatDoorPnO0
set_option linter.unusedVariables false
set_option linter.unusedSimpArgs false
set_option maxRecDepth 10000
namespace Go.Proofs.YtaokmgopghpikaaGreatDoor
open Go Go.Lv Go.Pl Go.Rx Go.Rx.PS
noncomputable section
open Go.Proofs.Tryz
namespace F3
def Di(j28:Int->Int->Bool->Bool->Int->Int->Int->Int->Int->Int->Int->Bool->Int->Int->Int->LB->Int->Int->Int->Int->Int->Int->Bool->Int->LB->Int->Int->Int->Int->Int->Int->LB->Bool->Int->LB->Int->Int->Int->Int->Int->Int->LB->Bool->Int->LB->Int->Int->Int->Int->Int->Int->LB->Bool->Int->LB->Int->Int->Int->Int->Int->Int->LB->Bool->Int->LB->LB->Int->Int->Int->Int->Int->LI->Int->LB->Bool->Int->LB->Int->Int->Int->Int->Int->Int->LB->Bool->Int->LB->LI->LB->LB->LI->LB->LI->LB->LI->LB->LI->LB->LI->Option Bool)(f g:Int)(a b:Bool)(ar au bi ae ds dt du:Int)(dv:Bool)(dp:Int)(h:LB)(k m n o p u:Int)(v:Bool)(w:Int)(bc:LB)(av aw ax ay bd be:Int)(az:LB)(bf:Bool)(ba:Int)(br:LB)(bj bk bl bm bn bs:Int)(bt:LB)(bu:Bool)(bp:Int)(ag:LB)(ah ai aj ak al am:Int)(an:LB)(ao:Bool)(af:Int)(fi:LB)(fj fk fl fm fn fo:Int)(dm:LB)(fp:Bool)(fq:Int)(fw fx:LB)(fy fz ga gb gc:Int)(gd:LI)(ge:Int)(gf:LB)(gg:Bool)(gh:Int)(dw:LB)(dx dy dz fa fb fd:Int)(fe:LB)(ff:Bool)(fg:Int)(y:LB)(aa:LI)(ab bg:LB)(bh:LI)(bq:LB)(bv:LI)(ap:LB)(aq:LI)(fs:LB)(ft:LI)(dl:LB)(fc:LI):Option Bool:=
(Ga dw dl dx dy dz fa fb fc fd fe ff fg).bind λ(nh,ni,nj,nk,nl,nm,nn,np,nq,nr,ns,nt,gl)=>
(λly:Option Bool=>
both (
both (
(TC (4001:Int) (0:UInt8)).bind λhm=>
(Ef (geq (4001:Int) (4001:Int))).bind λ_=>
(λpn:Option Bool=>
bo (
pn)) (
(Ad fw fx fy fz ga gb gc gd ge gf gg gh hm).bind λ(gm,gv,gn,go,gp,gq,gr,gw,gs,gt,gu,gj,gk)=>
j28 f g a b ar au bi ae ds dt du dv dp gl gk h k m n o p u v w bc av aw ax ay bd be az bf ba br bj bk bl bm bn bs bt bu bp ag ah ai aj ak al am an ao af fi fj fk fl fm fn fo dm fp fq dw dl dx dy dz fa fb fc fd fe ff fg gm gn go gp gq gr gs gt gu gj y aa ab bg bh bq bv ap aq fs ft gv gw)) [
ly]) [
(TC (4001:Int) (0:UInt8)).bind λhm=>
(Ef (geq (4001:Int) (4001:Int))).bind λ_=>
(λlz:Option Bool=>
both (
bo (
lz)) [
lz]) (
(Ad fw fx fy fz ga gb gc gd ge gf gg gh hm).bind λ(gm,gv,gn,go,gp,gq,gr,gw,gs,gt,gu,gj,gk)=>
j28 f g a b ar au bi ae ds dt du dv dp gl gk h k m n o p u v w bc av aw ax ay bd be az bf ba br bj bk bl bm bn bs bt bu bp ag ah ai aj ak al am an ao af fi fj fk fl fm fn fo dm fp fq dw dl dx dy dz fa fb fc fd fe ff fg gm gn go gp gq gr gs gt gu gj y aa ab bg bh bq bv ap aq fs ft gv gw),
bo (
ly)]) (
(TC (4001:Int) (0:UInt8)).bind λhm=>
(Ef (geq (4001:Int) (4001:Int))).bind λ_=>
(Ad fw fx fy fz ga gb gc gd ge gf gg gh hm).bind λ(gm,gv,gn,go,gp,gq,gr,gw,gs,gt,gu,gj,gk)=>
j28 f g a b ar au bi ae ds dt du dv dp gl gk h k m n o p u v w bc av aw ax ay bd be az bf ba br bj bk bl bm bn bs bt bu bp ag ah ai aj ak al am an ao af fi fj fk fl fm fn fo dm fp fq dw dl dx dy dz fa fb fc fd fe ff fg gm gn go gp gq gr gs gt gu gj y aa ab bg bh bq bv ap aq fs ft gv gw)
theorem Kt: @Di= @Dy:=by
  unfold Di Dy
  try simp only[Oi,It,Iy]
  all_goals
    repeat (refine funext λ_=>?_)
    repeat' first
      |with_reducible rfl
      |with_reducible refine Da ?_ ?_
      |with_reducible refine Cy ?_ ?_ ?_
      |with_reducible refine Db ?_ ?_ ?_ ?_
      |((with_reducible refine En ?_ ?_);focus (intro h;first|(subst h;rfl)|(simp only[h];rfl)|(simp[Bb,Aa,h];done)))
      |with_reducible refine Ek λx=>?_
      |with_reducible refine Gv (λ_=>?_) (λ_=>?_)
      |(refine Bt (λh=>by simp only[h,Em,Bk,Bh,ite_self]) (λx h=>?_);(try simp only[h,Bk]))
      |(refine Ck (λh=>?_) (λh=>?_)<;>simp only[h,if_true,if_false,Bool.false_eq_true])
def Dm(j27:Int->Int->Bool->Bool->Int->Int->Int->Int->Int->Int->Int->Bool->Int->LB->Int->Int->Int->Int->Int->Int->Bool->Int->LB->Int->Int->Int->Int->Int->Int->LB->Bool->Int->LB->Int->Int->Int->Int->Int->Int->LB->Bool->Int->LB->Int->Int->Int->Int->Int->Int->LB->Bool->Int->LB->Int->Int->Int->Int->Int->Int->LB->Bool->Int->LB->LB->Int->Int->Int->Int->Int->LI->Int->LB->Bool->Int->LB->Int->Int->Int->Int->Int->Int->LB->Bool->Int->LB->LI->LB->LB->LI->LB->LI->LB->LI->LB->LI->LB->LI->Option Bool)(f g:Int)(ad ac:LB)(a b:Bool)(ar au bi ae:Int)(h:LB)(k m n o p u:Int)(v:Bool)(w:Int)(bc:LB)(av aw ax ay bd be:Int)(az:LB)(bf:Bool)(ba:Int)(br:LB)(bj bk bl bm bn bs:Int)(bt:LB)(bu:Bool)(bp:Int)(ag:LB)(ah ai aj ak al am:Int)(an:LB)(ao:Bool)(af:Int)(y:LB)(aa:LI)(ab bg:LB)(bh:LI)(bq:LB)(bv:LI)(ap:LB)(aq:LI):Option Bool:=
(Be ac ([121]:LB)).bind λ(nu,nv,nw,nx,ny,nz,oa,ob,oc,od,oe,of,ds)=>
(Be ac ([120]:LB)).bind λ(fi,fs,fj,fk,fl,fm,fn,ft,fo,dm,fp,fq,dt)=>
(Be ac ([]:LB)).bind λ(og,oh,oi,oj,ol,om,on,oo,op,oq,os,ot,du)=>
(Bq ad).bind λ(fw,fx,fy,fz,ga,gb,gc,gd,ge,gf,gg,gh,dv)=>
(λma:Option Bool=>
both (
both (
(TC (4000:Int) (0:UInt8)).bind λhn=>
(Ef (geq (4000:Int) (4000:Int))).bind λ_=>
(λpo:Option Bool=>
bo (
po)) (
(Ad fw fx fy fz ga gb gc gd ge gf gg gh hn).bind λ(dw,dl,dx,dy,dz,fa,fb,fc,fd,fe,ff,fg,dp)=>
j27 f g a b ar au bi ae ds dt du dv dp h k m n o p u v w bc av aw ax ay bd be az bf ba br bj bk bl bm bn bs bt bu bp ag ah ai aj ak al am an ao af fi fj fk fl fm fn fo dm fp fq fw fx fy fz ga gb gc gd ge gf gg gh dw dx dy dz fa fb fd fe ff fg y aa ab bg bh bq bv ap aq fs ft dl fc)) [
ma]) [
(TC (4000:Int) (0:UInt8)).bind λhn=>
(Ef (geq (4000:Int) (4000:Int))).bind λ_=>
(λmb:Option Bool=>
both (
bo (
mb)) [
mb]) (
(Ad fw fx fy fz ga gb gc gd ge gf gg gh hn).bind λ(dw,dl,dx,dy,dz,fa,fb,fc,fd,fe,ff,fg,dp)=>
j27 f g a b ar au bi ae ds dt du dv dp h k m n o p u v w bc av aw ax ay bd be az bf ba br bj bk bl bm bn bs bt bu bp ag ah ai aj ak al am an ao af fi fj fk fl fm fn fo dm fp fq fw fx fy fz ga gb gc gd ge gf gg gh dw dx dy dz fa fb fd fe ff fg y aa ab bg bh bq bv ap aq fs ft dl fc),
bo (
ma)]) (
(TC (4000:Int) (0:UInt8)).bind λhn=>
(Ef (geq (4000:Int) (4000:Int))).bind λ_=>
(Ad fw fx fy fz ga gb gc gd ge gf gg gh hn).bind λ(dw,dl,dx,dy,dz,fa,fb,fc,fd,fe,ff,fg,dp)=>
j27 f g a b ar au bi ae ds dt du dv dp h k m n o p u v w bc av aw ax ay bd be az bf ba br bj bk bl bm bn bs bt bu bp ag ah ai aj ak al am an ao af fi fj fk fl fm fn fo dm fp fq fw fx fy fz ga gb gc gd ge gf gg gh dw dx dy dz fa fb fd fe ff fg y aa ab bg bh bq bv ap aq fs ft dl fc)
theorem Kv: @Dm= @Dw:=by
  unfold Dm Dw
  try simp only[Oi,It,Iy]
  all_goals
    repeat (refine funext λ_=>?_)
    repeat' first
      |with_reducible rfl
      |with_reducible refine Da ?_ ?_
      |with_reducible refine Cy ?_ ?_ ?_
      |with_reducible refine Db ?_ ?_ ?_ ?_
      |((with_reducible refine En ?_ ?_);focus (intro h;first|(subst h;rfl)|(simp only[h];rfl)|(simp[Bb,Aa,h];done)))
      |with_reducible refine Ek λx=>?_
      |with_reducible refine Gv (λ_=>?_) (λ_=>?_)
      |(refine Bt (λh=>by simp only[h,Em,Bk,Bh,ite_self]) (λx h=>?_);(try simp only[h,Bk]))
      |(refine Ck (λh=>?_) (λh=>?_)<;>simp only[h,if_true,if_false,Bool.false_eq_true])
def Dl(j26:Int->Int->LB->LB->Bool->Bool->Int->Int->Int->Int->LB->Int->Int->Int->Int->Int->Int->Bool->Int->LB->Int->Int->Int->Int->Int->Int->LB->Bool->Int->LB->Int->Int->Int->Int->Int->Int->LB->Bool->Int->LB->Int->Int->Int->Int->Int->Int->LB->Bool->Int->LB->LI->LB->LB->LI->LB->LI->LB->LI->Option Bool)(f g:Int)(ad ac:LB)(a b:Bool)(ar au bi:Int)(h:LB)(k m n o p u:Int)(v:Bool)(w:Int)(bc:LB)(av aw ax ay bd be:Int)(az:LB)(bf:Bool)(ba:Int)(bx bz:LB)(da db dc dd de:Int)(df:LI)(dg:Int)(dh:LB)(di:Bool)(dj:Int)(br:LB)(bj bk bl bm bn bs:Int)(bt:LB)(bu:Bool)(bp:Int)(y:LB)(aa:LI)(ab bg:LB)(bh:LI)(bq:LB)(bv:LI):Option Bool:=
(Bu ac 0 29).bind λfh=>
(Ag ac 29).bind λdk=>
(λdr:Option Bool=>
(λln:Option Bool=>
(λmc:Option Bool=>
(λho:Option Bool=>
(λmd:Option Bool=>
(λme:Option Bool=>
(λmf:Option Bool=>
(λmg:Option Bool=>
(λmh:Option Bool=>
(λmi:Option Bool=>
(λmj:Option Bool=>
(λmk:Option Bool=>
both (
both (
mf) [
me,
mi]) [
both (
mf) [
(Bb ([]:LB) fh).bind λbw=>
(λhp:Option Bool=>
(λml:Option Bool=>
(λmm:Option Bool=>
(λmn:Option Bool=>
(λmo:Option Bool=>
both (
both (
mn) [
hp]) [
both (
mn) [
both (
ml) [
(Bb bw ([(Fe dk 1)]:LB)).bind λbb=>
(λmp:Option Bool=>
both (
bo (
mp)) [
mp]) (
(Ad bx bz da db dc dd de df dg dh di dj bb).bind λ(ag,ap,ah,ai,aj,ak,al,aq,am,an,ao,af,ae)=>
j26 f g ad ac a b ar au bi ae h k m n o p u v w bc av aw ax ay bd be az bf ba br bj bk bl bm bn bs bt bu bp ag ah ai aj ak al am an ao af y aa ab bg bh bq bv ap aq),
mm],
mo],
both (
hp) [
mo]]) (
both (
hp) [
mm])) (
both (
ml) [
hp])) (
bo (
hp))) (
both (
(Bb bw ([(Fe dk 1)]:LB)).bind λbb=>
(λpp:Option Bool=>
bo (
pp)) (
(Ad bx bz da db dc dd de df dg dh di dj bb).bind λ(ag,ap,ah,ai,aj,ak,al,aq,am,an,ao,af,ae)=>
j26 f g ad ac a b ar au bi ae h k m n o p u v w bc av aw ax ay bd be az bf ba br bj bk bl bm bn bs bt bu bp ag ah ai aj ak al am an ao af y aa ab bg bh bq bv ap aq)) [
hp])) (
(Bb bw ([(Fe dk 1)]:LB)).bind λbb=>
(Ad bx bz da db dc dd de df dg dh di dj bb).bind λ(ag,ap,ah,ai,aj,ak,al,aq,am,an,ao,af,ae)=>
j26 f g ad ac a b ar au bi ae h k m n o p u v w bc av aw ax ay bd be az bf ba br bj bk bl bm bn bs bt bu bp ag ah ai aj ak al am an ao af y aa ab bg bh bq bv ap aq),
mc,
mh],
both (
me) [
mc,
both (
both (
mj) [
dr]) [
both (
mj) [
(Bb ([]:LB) fh).bind λbw=>
(λmq:Option Bool=>
both (
both (
(Bb bw ([(Fe dk 1)]:LB)).bind λbb=>
(λpq:Option Bool=>
bo (
pq)) (
(Ad bx bz da db dc dd de df dg dh di dj bb).bind λ(ag,ap,ah,ai,aj,ak,al,aq,am,an,ao,af,ae)=>
j26 f g ad ac a b ar au bi ae h k m n o p u v w bc av aw ax ay bd be az bf ba br bj bk bl bm bn bs bt bu bp ag ah ai aj ak al am an ao af y aa ab bg bh bq bv ap aq)) [
mq]) [
(Bb bw ([(Fe dk 1)]:LB)).bind λbb=>
(λmr:Option Bool=>
both (
bo (
mr)) [
mr]) (
(Ad bx bz da db dc dd de df dg dh di dj bb).bind λ(ag,ap,ah,ai,aj,ak,al,aq,am,an,ao,af,ae)=>
j26 f g ad ac a b ar au bi ae h k m n o p u v w bc av aw ax ay bd be az bf ba br bj bk bl bm bn bs bt bu bp ag ah ai aj ak al am an ao af y aa ab bg bh bq bv ap aq),
bo (
mq)]) (
(Bb bw ([(Fe dk 1)]:LB)).bind λbb=>
(Ad bx bz da db dc dd de df dg dh di dj bb).bind λ(ag,ap,ah,ai,aj,ak,al,aq,am,an,ao,af,ae)=>
j26 f g ad ac a b ar au bi ae h k m n o p u v w bc av aw ax ay bd be az bf ba br bj bk bl bm bn bs bt bu bp ag ah ai aj ak al am an ao af y aa ab bg bh bq bv ap aq),
mk],
both (
dr) [
mk]],
mg],
both (
mi) [
mh,
mg]]) (
both (
dr) [
(Bb ([]:LB) fh).bind λbw=>
(λpr:Option Bool=>
bo (
pr)) (
(Bb bw ([(Fe dk 1)]:LB)).bind λbb=>
(Ad bx bz da db dc dd de df dg dh di dj bb).bind λ(ag,ap,ah,ai,aj,ak,al,aq,am,an,ao,af,ae)=>
j26 f g ad ac a b ar au bi ae h k m n o p u v w bc av aw ax ay bd be az bf ba br bj bk bl bm bn bs bt bu bp ag ah ai aj ak al am an ao af y aa ab bg bh bq bv ap aq)])) (
both (
(Bb ([]:LB) fh).bind λbw=>
both (
(Bb bw ([(Fe dk 1)]:LB)).bind λbb=>
(λps:Option Bool=>
bo (
ps)) (
(Ad bx bz da db dc dd de df dg dh di dj bb).bind λ(ag,ap,ah,ai,aj,ak,al,aq,am,an,ao,af,ae)=>
j26 f g ad ac a b ar au bi ae h k m n o p u v w bc av aw ax ay bd be az bf ba br bj bk bl bm bn bs bt bu bp ag ah ai aj ak al am an ao af y aa ab bg bh bq bv ap aq)) [
(Bb bw ([(Fe dk 1)]:LB)).bind λbb=>
(Ad bx bz da db dc dd de df dg dh di dj bb).bind λ(ag,ap,ah,ai,aj,ak,al,aq,am,an,ao,af,ae)=>
j26 f g ad ac a b ar au bi ae h k m n o p u v w bc av aw ax ay bd be az bf ba br bj bk bl bm bn bs bt bu bp ag ah ai aj ak al am an ao af y aa ab bg bh bq bv ap aq]) [
dr])) (
both (
both (
dr) [
ho]) [
both (
ho) [
dr]])) (
both (
both (
dr) [
ho]) [
(Bb ([]:LB) fh).bind λbw=>
(λlo:Option Bool=>
both (
lo) [
both (
lo) [
bo (
lo)]]) (
(Bb bw ([(Fe dk 1)]:LB)).bind λbb=>
(Ad bx bz da db dc dd de df dg dh di dj bb).bind λ(ag,ap,ah,ai,aj,ak,al,aq,am,an,ao,af,ae)=>
j26 f g ad ac a b ar au bi ae h k m n o p u v w bc av aw ax ay bd be az bf ba br bj bk bl bm bn bs bt bu bp ag ah ai aj ak al am an ao af y aa ab bg bh bq bv ap aq),
md])) (
both (
both (
ho) [
dr]) [
md,
both (
dr) [
both (
dr) [
(Bb ([]:LB) fh).bind λbw=>
(λpt:Option Bool=>
bo (
pt)) (
(Bb bw ([(Fe dk 1)]:LB)).bind λbb=>
(Ad bx bz da db dc dd de df dg dh di dj bb).bind λ(ag,ap,ah,ai,aj,ak,al,aq,am,an,ao,af,ae)=>
j26 f g ad ac a b ar au bi ae h k m n o p u v w bc av aw ax ay bd be az bf ba br bj bk bl bm bn bs bt bu bp ag ah ai aj ak al am an ao af y aa ab bg bh bq bv ap aq)]]])) (
both (
(Bb ([]:LB) fh).bind λbw=>
(λlq:Option Bool=>
both (
both (
both (
(Bb bw ([(Fe dk 1)]:LB)).bind λbb=>
(λpu:Option Bool=>
bo (
pu)) (
(Ad bx bz da db dc dd de df dg dh di dj bb).bind λ(ag,ap,ah,ai,aj,ak,al,aq,am,an,ao,af,ae)=>
j26 f g ad ac a b ar au bi ae h k m n o p u v w bc av aw ax ay bd be az bf ba br bj bk bl bm bn bs bt bu bp ag ah ai aj ak al am an ao af y aa ab bg bh bq bv ap aq)) [
lq]) [
lq]) [
lq]) (
(Bb bw ([(Fe dk 1)]:LB)).bind λbb=>
(Ad bx bz da db dc dd de df dg dh di dj bb).bind λ(ag,ap,ah,ai,aj,ak,al,aq,am,an,ao,af,ae)=>
j26 f g ad ac a b ar au bi ae h k m n o p u v w bc av aw ax ay bd be az bf ba br bj bk bl bm bn bs bt bu bp ag ah ai aj ak al am an ao af y aa ab bg bh bq bv ap aq)) [
ln,
both (
dr) [
ho]])) (
both (
ln) [
both (
both (
(Bb ([]:LB) fh).bind λbw=>
both (
(Bb bw ([(Fe dk 1)]:LB)).bind λbb=>
(λpv:Option Bool=>
bo (
pv)) (
(Ad bx bz da db dc dd de df dg dh di dj bb).bind λ(ag,ap,ah,ai,aj,ak,al,aq,am,an,ao,af,ae)=>
j26 f g ad ac a b ar au bi ae h k m n o p u v w bc av aw ax ay bd be az bf ba br bj bk bl bm bn bs bt bu bp ag ah ai aj ak al am an ao af y aa ab bg bh bq bv ap aq)) [
(Bb bw ([(Fe dk 1)]:LB)).bind λbb=>
(Ad bx bz da db dc dd de df dg dh di dj bb).bind λ(ag,ap,ah,ai,aj,ak,al,aq,am,an,ao,af,ae)=>
j26 f g ad ac a b ar au bi ae h k m n o p u v w bc av aw ax ay bd be az bf ba br bj bk bl bm bn bs bt bu bp ag ah ai aj ak al am an ao af y aa ab bg bh bq bv ap aq]) [
dr]) [
dr],
both (
ho) [
dr]])) (
both (
ho) [
(Bb ([]:LB) fh).bind λbw=>
(λms:Option Bool=>
both (
ms) [
bo (
ms)]) (
(Bb bw ([(Fe dk 1)]:LB)).bind λbb=>
(Ad bx bz da db dc dd de df dg dh di dj bb).bind λ(ag,ap,ah,ai,aj,ak,al,aq,am,an,ao,af,ae)=>
j26 f g ad ac a b ar au bi ae h k m n o p u v w bc av aw ax ay bd be az bf ba br bj bk bl bm bn bs bt bu bp ag ah ai aj ak al am an ao af y aa ab bg bh bq bv ap aq),
both (
dr) [
(Bb ([]:LB) fh).bind λbw=>
(λpw:Option Bool=>
bo (
pw)) (
(Bb bw ([(Fe dk 1)]:LB)).bind λbb=>
(Ad bx bz da db dc dd de df dg dh di dj bb).bind λ(ag,ap,ah,ai,aj,ak,al,aq,am,an,ao,af,ae)=>
j26 f g ad ac a b ar au bi ae h k m n o p u v w bc av aw ax ay bd be az bf ba br bj bk bl bm bn bs bt bu bp ag ah ai aj ak al am an ao af y aa ab bg bh bq bv ap aq)]])) (
bo (
dr))) (
(λmt:Option Bool=>
both (
ln) [
(Bb ([]:LB) fh).bind λbw=>
(λhw:Option Bool=>
(λmu:Option Bool=>
(λmv:Option Bool=>
both (
both (
mu) [
hw]) [
both (
mu) [
(Bb bw ([(Fe dk 1)]:LB)).bind λbb=>
(λmw:Option Bool=>
both (
bo (
mw)) [
mw]) (
(Ad bx bz da db dc dd de df dg dh di dj bb).bind λ(ag,ap,ah,ai,aj,ak,al,aq,am,an,ao,af,ae)=>
j26 f g ad ac a b ar au bi ae h k m n o p u v w bc av aw ax ay bd be az bf ba br bj bk bl bm bn bs bt bu bp ag ah ai aj ak al am an ao af y aa ab bg bh bq bv ap aq),
mv],
both (
hw) [
mv]]) (
bo (
hw))) (
both (
(Bb bw ([(Fe dk 1)]:LB)).bind λbb=>
(λpx:Option Bool=>
bo (
px)) (
(Ad bx bz da db dc dd de df dg dh di dj bb).bind λ(ag,ap,ah,ai,aj,ak,al,aq,am,an,ao,af,ae)=>
j26 f g ad ac a b ar au bi ae h k m n o p u v w bc av aw ax ay bd be az bf ba br bj bk bl bm bn bs bt bu bp ag ah ai aj ak al am an ao af y aa ab bg bh bq bv ap aq)) [
hw])) (
(Bb bw ([(Fe dk 1)]:LB)).bind λbb=>
(Ad bx bz da db dc dd de df dg dh di dj bb).bind λ(ag,ap,ah,ai,aj,ak,al,aq,am,an,ao,af,ae)=>
j26 f g ad ac a b ar au bi ae h k m n o p u v w bc av aw ax ay bd be az bf ba br bj bk bl bm bn bs bt bu bp ag ah ai aj ak al am an ao af y aa ab bg bh bq bv ap aq),
both (
both (
(Bb ([]:LB) fh).bind λbw=>
both (
(Bb bw ([(Fe dk 1)]:LB)).bind λbb=>
(λpy:Option Bool=>
bo (
py)) (
(Ad bx bz da db dc dd de df dg dh di dj bb).bind λ(ag,ap,ah,ai,aj,ak,al,aq,am,an,ao,af,ae)=>
j26 f g ad ac a b ar au bi ae h k m n o p u v w bc av aw ax ay bd be az bf ba br bj bk bl bm bn bs bt bu bp ag ah ai aj ak al am an ao af y aa ab bg bh bq bv ap aq)) [
(Bb bw ([(Fe dk 1)]:LB)).bind λbb=>
(Ad bx bz da db dc dd de df dg dh di dj bb).bind λ(ag,ap,ah,ai,aj,ak,al,aq,am,an,ao,af,ae)=>
j26 f g ad ac a b ar au bi ae h k m n o p u v w bc av aw ax ay bd be az bf ba br bj bk bl bm bn bs bt bu bp ag ah ai aj ak al am an ao af y aa ab bg bh bq bv ap aq]) [
dr]) [
(Bb ([]:LB) fh).bind λbw=>
(λmx:Option Bool=>
both (
both (
(Bb bw ([(Fe dk 1)]:LB)).bind λbb=>
(λpz:Option Bool=>
bo (
pz)) (
(Ad bx bz da db dc dd de df dg dh di dj bb).bind λ(ag,ap,ah,ai,aj,ak,al,aq,am,an,ao,af,ae)=>
j26 f g ad ac a b ar au bi ae h k m n o p u v w bc av aw ax ay bd be az bf ba br bj bk bl bm bn bs bt bu bp ag ah ai aj ak al am an ao af y aa ab bg bh bq bv ap aq)) [
mx]) [
(Bb bw ([(Fe dk 1)]:LB)).bind λbb=>
(λmy:Option Bool=>
both (
bo (
my)) [
my]) (
(Ad bx bz da db dc dd de df dg dh di dj bb).bind λ(ag,ap,ah,ai,aj,ak,al,aq,am,an,ao,af,ae)=>
j26 f g ad ac a b ar au bi ae h k m n o p u v w bc av aw ax ay bd be az bf ba br bj bk bl bm bn bs bt bu bp ag ah ai aj ak al am an ao af y aa ab bg bh bq bv ap aq),
bo (
mx)]) (
(Bb bw ([(Fe dk 1)]:LB)).bind λbb=>
(Ad bx bz da db dc dd de df dg dh di dj bb).bind λ(ag,ap,ah,ai,aj,ak,al,aq,am,an,ao,af,ae)=>
j26 f g ad ac a b ar au bi ae h k m n o p u v w bc av aw ax ay bd be az bf ba br bj bk bl bm bn bs bt bu bp ag ah ai aj ak al am an ao af y aa ab bg bh bq bv ap aq),
mt],
both (
bo (
dr)) [
(Bb ([]:LB) fh).bind λbw=>
(λmz:Option Bool=>
both (
mz) [
bo (
mz)]) (
(Bb bw ([(Fe dk 1)]:LB)).bind λbb=>
(Ad bx bz da db dc dd de df dg dh di dj bb).bind λ(ag,ap,ah,ai,aj,ak,al,aq,am,an,ao,af,ae)=>
j26 f g ad ac a b ar au bi ae h k m n o p u v w bc av aw ax ay bd be az bf ba br bj bk bl bm bn bs bt bu bp ag ah ai aj ak al am an ao af y aa ab bg bh bq bv ap aq),
mt]]) (
both (
dr) [
(Bb ([]:LB) fh).bind λbw=>
(λra:Option Bool=>
bo (
ra)) (
(Bb bw ([(Fe dk 1)]:LB)).bind λbb=>
(Ad bx bz da db dc dd de df dg dh di dj bb).bind λ(ag,ap,ah,ai,aj,ak,al,aq,am,an,ao,af,ae)=>
j26 f g ad ac a b ar au bi ae h k m n o p u v w bc av aw ax ay bd be az bf ba br bj bk bl bm bn bs bt bu bp ag ah ai aj ak al am an ao af y aa ab bg bh bq bv ap aq)]))) (
both (
(Bb ([]:LB) fh).bind λbw=>
(λna:Option Bool=>
both (
both (
(Bb bw ([(Fe dk 1)]:LB)).bind λbb=>
(λrb:Option Bool=>
bo (
rb)) (
(Ad bx bz da db dc dd de df dg dh di dj bb).bind λ(ag,ap,ah,ai,aj,ak,al,aq,am,an,ao,af,ae)=>
j26 f g ad ac a b ar au bi ae h k m n o p u v w bc av aw ax ay bd be az bf ba br bj bk bl bm bn bs bt bu bp ag ah ai aj ak al am an ao af y aa ab bg bh bq bv ap aq)) [
na]) [
na]) (
(Bb bw ([(Fe dk 1)]:LB)).bind λbb=>
(Ad bx bz da db dc dd de df dg dh di dj bb).bind λ(ag,ap,ah,ai,aj,ak,al,aq,am,an,ao,af,ae)=>
j26 f g ad ac a b ar au bi ae h k m n o p u v w bc av aw ax ay bd be az bf ba br bj bk bl bm bn bs bt bu bp ag ah ai aj ak al am an ao af y aa ab bg bh bq bv ap aq)) [
both (
(Bb ([]:LB) fh).bind λbw=>
both (
(Bb bw ([(Fe dk 1)]:LB)).bind λbb=>
(λrc:Option Bool=>
bo (
rc)) (
(Ad bx bz da db dc dd de df dg dh di dj bb).bind λ(ag,ap,ah,ai,aj,ak,al,aq,am,an,ao,af,ae)=>
j26 f g ad ac a b ar au bi ae h k m n o p u v w bc av aw ax ay bd be az bf ba br bj bk bl bm bn bs bt bu bp ag ah ai aj ak al am an ao af y aa ab bg bh bq bv ap aq)) [
(Bb bw ([(Fe dk 1)]:LB)).bind λbb=>
(Ad bx bz da db dc dd de df dg dh di dj bb).bind λ(ag,ap,ah,ai,aj,ak,al,aq,am,an,ao,af,ae)=>
j26 f g ad ac a b ar au bi ae h k m n o p u v w bc av aw ax ay bd be az bf ba br bj bk bl bm bn bs bt bu bp ag ah ai aj ak al am an ao af y aa ab bg bh bq bv ap aq]) [
dr],
bo (
dr)])) (
(Bb ([]:LB) fh).bind λbw=>
(Bb bw ([(Fe dk 1)]:LB)).bind λbb=>
(Ad bx bz da db dc dd de df dg dh di dj bb).bind λ(ag,ap,ah,ai,aj,ak,al,aq,am,an,ao,af,ae)=>
j26 f g ad ac a b ar au bi ae h k m n o p u v w bc av aw ax ay bd be az bf ba br bj bk bl bm bn bs bt bu bp ag ah ai aj ak al am an ao af y aa ab bg bh bq bv ap aq)
theorem Kw: @Dl= @Dx:=by
  unfold Dl Dx
  try simp only[Oi,It,Iy]
  all_goals
    repeat (refine funext λ_=>?_)
    repeat' first
      |with_reducible rfl
      |with_reducible refine Da ?_ ?_
      |with_reducible refine Cy ?_ ?_ ?_
      |with_reducible refine Db ?_ ?_ ?_ ?_
      |((with_reducible refine En ?_ ?_);focus (intro h;first|(subst h;rfl)|(simp only[h];rfl)|(simp[Bb,Aa,h];done)))
      |with_reducible refine Ek λx=>?_
      |with_reducible refine Gv (λ_=>?_) (λ_=>?_)
      |(refine Bt (λh=>by simp only[h,Em,Bk,Bh,ite_self]) (λx h=>?_);(try simp only[h,Bk]))
      |(refine Ck (λh=>?_) (λh=>?_)<;>simp only[h,if_true,if_false,Bool.false_eq_true])
def Dq(j25:Int->Int->LB->LB->Bool->Bool->Int->Int->Int->LB->Int->Int->Int->Int->Int->Int->Bool->Int->LB->Int->Int->Int->Int->Int->Int->LB->Bool->Int->LB->LB->Int->Int->Int->Int->Int->LI->Int->LB->Bool->Int->LB->Int->Int->Int->Int->Int->Int->LB->Bool->Int->LB->LI->LB->LB->LI->LB->LI->Option Bool)(f g:Int)(ad ac:LB)(a b:Bool)(ar au:Int)(h:LB)(k m n o p u:Int)(v:Bool)(w:Int)(bc:LB)(av aw ax ay bd be:Int)(az:LB)(bf:Bool)(ba:Int)(bx:LB)(da db dc dd de dg:Int)(di:Bool)(dj:Int)(y:LB)(aa:LI)(ab bg:LB)(bh:LI)(bz:LB)(df:LI)(dh:LB):Option Bool:=
(Bu ad 0 22).bind λhx=>
(λnb:Option Bool=>
both (
bo (
nb)) [
nb]) (
(Ad bx bz da db dc dd de df dg dh di dj hx).bind λ(br,bq,bj,bk,bl,bm,bn,bv,bs,bt,bu,bp,bi)=>
j25 f g ad ac a b ar au bi h k m n o p u v w bc av aw ax ay bd be az bf ba bx bz da db dc dd de df dg dh di dj br bj bk bl bm bn bs bt bu bp y aa ab bg bh bq bv)
theorem Ku: @Dq= @Dz:=by
  unfold Dq Dz
  try simp only[Oi,It,Iy]
  all_goals
    repeat (refine funext λ_=>?_)
    repeat' first
      |with_reducible rfl
      |with_reducible refine Da ?_ ?_
      |with_reducible refine Cy ?_ ?_ ?_
      |with_reducible refine Db ?_ ?_ ?_ ?_
      |((with_reducible refine En ?_ ?_);focus (intro h;first|(subst h;rfl)|(simp only[h];rfl)|(simp[Bb,Aa,h];done)))
      |with_reducible refine Ek λx=>?_
      |with_reducible refine Gv (λ_=>?_) (λ_=>?_)
      |(refine Bt (λh=>by simp only[h,Em,Bk,Bh,ite_self]) (λx h=>?_);(try simp only[h,Bk]))
      |(refine Ck (λh=>?_) (λh=>?_)<;>simp only[h,if_true,if_false,Bool.false_eq_true])
abbrev R_:=Bool
def H:=hd_ [] [Sz] (.q (.q (.q (.q (.q (.q (.q (.q (.q (.q (.q (.q (.q (.q (.q (.q (.q (.q (.q (.q (.q (.q (.q (.q (.q (.q (.q (.q (.q (.q (.cut [3,4,5,6,8,11,13] [] (.q (.blk (.loop [3,4,5,6,8,11,13,14,15] [] .d))) (.q (.cut [3,4,5,6,8,11,13] [] (.q (.blk (.loop [3,4,5,6,8,11,13,16,17] [] .d))) (.q (.cut [3,4,5,6,8,11,13] [] (.q (.blk (.loop [3,4,5,6,8,11,13,20,21] [] .d))) (.q (.q (.cut [3,4,5,6,8,11,13,25,26,27,28] [⟨8,[],.ro (.int .u8)⟩] .d (.cut [3,4,5,6,8,11,13,25,26,27,28,29,30] [] (.mode false) (.cut [3,4,5,6,8,11,13,25,26,28,29,30,31,32] [] (.mode false) (.q (.q (.q (.q (.cut [3,4,5,11,13,25,26,28,29,30,31,32,34,35,36,38,39,40,41,42] [] (.mode false) (.q (.cut [3,4,5,11,13,25,26,28,29,30,31,32,34,35,36,38,40,41,42,44,45,46] [] (.mode false) .d))))))))))))))))))))))))))))))))))))))))))))))) [F6.k,F7.k,F8.k,F9.k,F10.k,F11.k,F12.k,F13.k,F14.k,F15.k,F16.k] f3
def t21(f g:Int)(ad:LB)(a b:Bool)(h:LB)(k m n o p u:Int)(v:Bool)(w:Int)(ac y:LB)(aa:LI)(ab:LB)(fu:Int):S:=⟨[(3,vi f),(4,.ptr 0 []),(5,vi g),(6,vb ad),(8,.own 1),(11,vt a),(13,vt b),(20,.own 2),(21,vi fu)],[.box 28 (.agg [vs h,.own 3,.agg [vi k,vi m,vi n,vi o,vi p],.own 4,vi u,.own 5,vt v,vi w]),Ab 5 ac,.arr 9 .str ([([88]:LB),([73,88]:LB),([65,80,88]:LB),([84,88]:LB),([73,68,51,9,0,0,0,0,0,0]:LB)]:List LB),Ab 5 y,Ai 3 aa,Ab 5 ab],[]⟩
def z21:ZT_ R_:=H.i P_ [r,r,r,r,r,r,r,r,r,r,r,r,r,r,r,r,r,r,r,r,r,r,r,r,r,r,r,r,r,r,r,r,r,r,l,r,d]
def t18(f g:Int)(ad:LB)(a b:Bool)(h:LB)(k m n o p u:Int)(v:Bool)(w:Int)(ac dn y:LB)(aa:LI)(ab:LB)(dq:Int):S:=⟨[(3,vi f),(4,.ptr 0 []),(5,vi g),(6,vb ad),(8,.own 1),(11,vt a),(13,vt b),(16,.own 2),(17,vi dq)],[.box 28 (.agg [vs h,.own 3,.agg [vi k,vi m,vi n,vi o,vi p],.own 4,vi u,.own 5,vt v,vi w]),Ab 5 ac,.arr 9 .str ([([]:LB),([73]:LB),([73,68]:LB),([73,68,51]:LB),([73,68,51,4,0,0,0,0,0]:LB),([65]:LB),([65,80,69,84,65,71,69]:LB),([65,80,69,84,65,71,69,88]:LB),([84]:LB),([84,84,65,49]:LB),dn]:List LB),Ab 5 y,Ai 3 aa,Ab 5 ab],[]⟩
def z18:ZT_ R_:=H.i P_ [r,r,r,r,r,r,r,r,r,r,r,r,r,r,r,r,r,r,r,r,r,r,r,r,r,r,r,r,r,r,r,r,l,r,d]
def t15(f g:Int)(ad:LB)(a b:Bool)(h:LB)(k m n o p u:Int)(v:Bool)(w:Int)(ac:LB)(fv:List (LB×LB×(Int×Int×Int×Int×Int×Unit)×LI×Int×LB×Bool×Int×Unit))(y:LB)(aa:LI)(ab:LB)(gi:Int):S:=⟨[(3,vi f),(4,.ptr 0 []),(5,vi g),(6,vb ad),(8,.own 1),(11,vt a),(13,vt b),(14,.own 2),(15,vi gi)],[.box 28 (.agg [vs h,.own 3,.agg [vi k,vi m,vi n,vi o,vi p],.own 4,vi u,.own 5,vt v,vi w]),Ab 5 ac,.arr 28 (.cons .str (.cons (.list (.int .u8)) (.cons (.cons (.int .i64) (.cons (.int .i64) (.cons (.int .i64) (.cons (.int .i64) (.cons (.int .i64) .nil))))) (.cons (.list (.int .i64)) (.cons (.int .i64) (.cons (.list (.int .u8)) (.cons .bool (.cons (.int .i64) .nil)))))))) fv,Ab 5 y,Ai 3 aa,Ab 5 ab],[]⟩
def z15:ZT_ R_:=H.i P_ [r,r,r,r,r,r,r,r,r,r,r,r,r,r,r,r,r,r,r,r,r,r,r,r,r,r,r,r,r,r,l,r,d]
def x28(f g:Int)(a b:Bool)(ar au bi ae ds dt du:Int)(dv:Bool)(dp gl gk:Int)(h:LB)(k m n o p u:Int)(v:Bool)(w:Int)(bc:LB)(av aw ax ay bd be:Int)(az:LB)(bf:Bool)(ba:Int)(br:LB)(bj bk bl bm bn bs:Int)(bt:LB)(bu:Bool)(bp:Int)(ag:LB)(ah ai aj ak al am:Int)(an:LB)(ao:Bool)(af:Int)(fi:LB)(fj fk fl fm fn fo:Int)(dm:LB)(fp:Bool)(fq:Int)(dw dl:LB)(dx dy dz fa fb:Int)(fc:LI)(fd:Int)(fe:LB)(ff:Bool)(fg:Int)(gm:LB)(gn go gp gq gr gs:Int)(gt:LB)(gu:Bool)(gj:Int)(y:LB)(aa:LI)(ab bg:LB)(bh:LI)(bq:LB)(bv:LI)(ap:LB)(aq:LI)(fs:LB)(ft:LI)(gv:LB)(gw:LI):Option R_:=H.e P_ [r,r,r,r,r,r,r,r,r,r,r,r,r,r,r,r,r,r,r,r,r,r,r,r,r,r,r,r,r,r,r,r,r,r,r,r,r,r,r,r,r,r,r,r,r,r,r] ⟨[(3,vi f),(4,.ptr 0 []),(5,vi g),(11,vt a),(13,vt b),(25,.ptr 1 []),(26,vi ar),(28,vi au),(29,.ptr 2 []),(30,vi bi),(31,.ptr 3 []),(32,vi ae),(34,vi ds),(35,.ptr 4 []),(36,vi dt),(38,vi du),(40,vt dv),(41,.ptr 5 []),(42,vi dp),(44,vi gl),(45,.ptr 6 []),(46,vi gk)],[.box 28 (.agg [vs h,.own 7,.agg [vi k,vi m,vi n,vi o,vi p],.own 8,vi u,.own 9,vt v,vi w]),.box 28 (.agg [vs bc,.own 10,.agg [vi av,vi aw,vi ax,vi ay,vi bd],.own 11,vi be,vb az,vt bf,vi ba]),.box 28 (.agg [vs br,.own 12,.agg [vi bj,vi bk,vi bl,vi bm,vi bn],.own 13,vi bs,vb bt,vt bu,vi bp]),.box 28 (.agg [vs ag,.own 14,.agg [vi ah,vi ai,vi aj,vi ak,vi al],.own 15,vi am,vb an,vt ao,vi af]),.box 28 (.agg [vs fi,.own 16,.agg [vi fj,vi fk,vi fl,vi fm,vi fn],.own 17,vi fo,vb dm,vt fp,vi fq]),.box 28 (.agg [vs dw,vb dl,.agg [vi dx,vi dy,vi dz,vi fa,vi fb],vl fc,vi fd,vb fe,vt ff,vi fg]),.box 28 (.agg [vs gm,.own 18,.agg [vi gn,vi go,vi gp,vi gq,vi gr],.own 19,vi gs,vb gt,vt gu,vi gj]),Ab 5 y,Ai 3 aa,Ab 5 ab,Ab 5 bg,Ai 3 bh,Ab 5 bq,Ai 3 bv,Ab 5 ap,Ai 3 aq,Ab 5 fs,Ai 3 ft,Ab 5 gv,Ai 3 gw],[]⟩
def x27(f g:Int)(a b:Bool)(ar au bi ae ds dt du:Int)(dv:Bool)(dp:Int)(h:LB)(k m n o p u:Int)(v:Bool)(w:Int)(bc:LB)(av aw ax ay bd be:Int)(az:LB)(bf:Bool)(ba:Int)(br:LB)(bj bk bl bm bn bs:Int)(bt:LB)(bu:Bool)(bp:Int)(ag:LB)(ah ai aj ak al am:Int)(an:LB)(ao:Bool)(af:Int)(fi:LB)(fj fk fl fm fn fo:Int)(dm:LB)(fp:Bool)(fq:Int)(fw fx:LB)(fy fz ga gb gc:Int)(gd:LI)(ge:Int)(gf:LB)(gg:Bool)(gh:Int)(dw:LB)(dx dy dz fa fb fd:Int)(fe:LB)(ff:Bool)(fg:Int)(y:LB)(aa:LI)(ab bg:LB)(bh:LI)(bq:LB)(bv:LI)(ap:LB)(aq:LI)(fs:LB)(ft:LI)(dl:LB)(fc:LI):Option R_:=H.e P_ [r,r,r,r,r,r,r,r,r,r,r,r,r,r,r,r,r,r,r,r,r,r,r,r,r,r,r,r,r,r,r,r,r,r,r,r,r,r,r,r,r,r,r,r,r] ⟨[(3,vi f),(4,.ptr 0 []),(5,vi g),(11,vt a),(13,vt b),(25,.ptr 1 []),(26,vi ar),(28,vi au),(29,.ptr 2 []),(30,vi bi),(31,.ptr 3 []),(32,vi ae),(34,vi ds),(35,.ptr 4 []),(36,vi dt),(38,vi du),(39,.ptr 5 []),(40,vt dv),(41,.ptr 6 []),(42,vi dp)],[.box 28 (.agg [vs h,.own 7,.agg [vi k,vi m,vi n,vi o,vi p],.own 8,vi u,.own 9,vt v,vi w]),.box 28 (.agg [vs bc,.own 10,.agg [vi av,vi aw,vi ax,vi ay,vi bd],.own 11,vi be,vb az,vt bf,vi ba]),.box 28 (.agg [vs br,.own 12,.agg [vi bj,vi bk,vi bl,vi bm,vi bn],.own 13,vi bs,vb bt,vt bu,vi bp]),.box 28 (.agg [vs ag,.own 14,.agg [vi ah,vi ai,vi aj,vi ak,vi al],.own 15,vi am,vb an,vt ao,vi af]),.box 28 (.agg [vs fi,.own 16,.agg [vi fj,vi fk,vi fl,vi fm,vi fn],.own 17,vi fo,vb dm,vt fp,vi fq]),.box 28 (.agg [vs fw,vb fx,.agg [vi fy,vi fz,vi ga,vi gb,vi gc],vl gd,vi ge,vb gf,vt gg,vi gh]),.box 28 (.agg [vs dw,.own 18,.agg [vi dx,vi dy,vi dz,vi fa,vi fb],.own 19,vi fd,vb fe,vt ff,vi fg]),Ab 5 y,Ai 3 aa,Ab 5 ab,Ab 5 bg,Ai 3 bh,Ab 5 bq,Ai 3 bv,Ab 5 ap,Ai 3 aq,Ab 5 fs,Ai 3 ft,Ab 5 dl,Ai 3 fc],[]⟩
def x26(f g:Int)(ad ac:LB)(a b:Bool)(ar au bi ae:Int)(h:LB)(k m n o p u:Int)(v:Bool)(w:Int)(bc:LB)(av aw ax ay bd be:Int)(az:LB)(bf:Bool)(ba:Int)(br:LB)(bj bk bl bm bn bs:Int)(bt:LB)(bu:Bool)(bp:Int)(ag:LB)(ah ai aj ak al am:Int)(an:LB)(ao:Bool)(af:Int)(y:LB)(aa:LI)(ab bg:LB)(bh:LI)(bq:LB)(bv:LI)(ap:LB)(aq:LI):Option R_:=H.e P_ [r,r,r,r,r,r,r,r,r,r,r,r,r,r,r,r,r,r,r,r,r,r,r,r,r,r,r,r,r,r,r,r,r,r,r,r,r,r,r,r] ⟨[(3,vi f),(4,.ptr 0 []),(5,vi g),(6,vb ad),(8,vb ac),(11,vt a),(13,vt b),(25,.ptr 1 []),(26,vi ar),(28,vi au),(29,.ptr 2 []),(30,vi bi),(31,.ptr 3 []),(32,vi ae)],[.box 28 (.agg [vs h,.own 4,.agg [vi k,vi m,vi n,vi o,vi p],.own 5,vi u,.own 6,vt v,vi w]),.box 28 (.agg [vs bc,.own 7,.agg [vi av,vi aw,vi ax,vi ay,vi bd],.own 8,vi be,vb az,vt bf,vi ba]),.box 28 (.agg [vs br,.own 9,.agg [vi bj,vi bk,vi bl,vi bm,vi bn],.own 10,vi bs,vb bt,vt bu,vi bp]),.box 28 (.agg [vs ag,.own 11,.agg [vi ah,vi ai,vi aj,vi ak,vi al],.own 12,vi am,vb an,vt ao,vi af]),Ab 5 y,Ai 3 aa,Ab 5 ab,Ab 5 bg,Ai 3 bh,Ab 5 bq,Ai 3 bv,Ab 5 ap,Ai 3 aq],[]⟩
def x25(f g:Int)(ad ac:LB)(a b:Bool)(ar au bi:Int)(h:LB)(k m n o p u:Int)(v:Bool)(w:Int)(bc:LB)(av aw ax ay bd be:Int)(az:LB)(bf:Bool)(ba:Int)(bx bz:LB)(da db dc dd de:Int)(df:LI)(dg:Int)(dh:LB)(di:Bool)(dj:Int)(br:LB)(bj bk bl bm bn bs:Int)(bt:LB)(bu:Bool)(bp:Int)(y:LB)(aa:LI)(ab bg:LB)(bh:LI)(bq:LB)(bv:LI):Option R_:=H.e P_ [r,r,r,r,r,r,r,r,r,r,r,r,r,r,r,r,r,r,r,r,r,r,r,r,r,r,r,r,r,r,r,r,r,r,r,r,r,r,r] ⟨[(3,vi f),(4,.ptr 0 []),(5,vi g),(6,vb ad),(8,vb ac),(11,vt a),(13,vt b),(25,.ptr 1 []),(26,vi ar),(27,.ptr 2 []),(28,vi au),(29,.ptr 3 []),(30,vi bi)],[.box 28 (.agg [vs h,.own 4,.agg [vi k,vi m,vi n,vi o,vi p],.own 5,vi u,.own 6,vt v,vi w]),.box 28 (.agg [vs bc,.own 7,.agg [vi av,vi aw,vi ax,vi ay,vi bd],.own 8,vi be,vb az,vt bf,vi ba]),.box 28 (.agg [vs bx,vb bz,.agg [vi da,vi db,vi dc,vi dd,vi de],vl df,vi dg,vb dh,vt di,vi dj]),.box 28 (.agg [vs br,.own 9,.agg [vi bj,vi bk,vi bl,vi bm,vi bn],.own 10,vi bs,vb bt,vt bu,vi bp]),Ab 5 y,Ai 3 aa,Ab 5 ab,Ab 5 bg,Ai 3 bh,Ab 5 bq,Ai 3 bv],[]⟩
def x24(f g:Int)(ad ac:LB)(a b:Bool)(ar au:Int)(h:LB)(k m n o p u:Int)(v:Bool)(w:Int)(bc:LB)(av aw ax ay bd be:Int)(az:LB)(bf:Bool)(ba:Int)(bx:LB)(da db dc dd de dg:Int)(di:Bool)(dj:Int)(y:LB)(aa:LI)(ab bg:LB)(bh:LI)(bz:LB)(df:LI)(dh:LB):Option R_:=H.e P_ [r,r,r,r,r,r,r,r,r,r,r,r,r,r,r,r,r,r,r,r,r,r,r,r,r,r,r,r,r,r,r,r,r,r,r,r,r,r] ⟨[(3,vi f),(4,.ptr 0 []),(5,vi g),(6,vb ad),(8,vb ac),(11,vt a),(13,vt b),(25,.ptr 1 []),(26,vi ar),(27,.ptr 2 []),(28,vi au)],[.box 28 (.agg [vs h,.own 3,.agg [vi k,vi m,vi n,vi o,vi p],.own 4,vi u,.own 5,vt v,vi w]),.box 28 (.agg [vs bc,.own 6,.agg [vi av,vi aw,vi ax,vi ay,vi bd],.own 7,vi be,vb az,vt bf,vi ba]),.box 28 (.agg [vs bx,.own 8,.agg [vi da,vi db,vi dc,vi dd,vi de],.own 9,vi dg,.own 10,vt di,vi dj]),Ab 5 y,Ai 3 aa,Ab 5 ab,Ab 5 bg,Ai 3 bh,Ab 5 bz,Ai 3 df,Ab 5 dh],[]⟩
def x21(f g:Int)(ad:LB)(a b:Bool)(h:LB)(k m n o p u:Int)(v:Bool)(w:Int)(ac y:LB)(aa:LI)(ab:LB)(fu:Int):Option R_:=H.e P_ [r,r,r,r,r,r,r,r,r,r,r,r,r,r,r,r,r,r,r,r,r,r,r,r,r,r,r,r,r,r,r,r,r,r,l,r,d] (t21 f g ad a b h k m n o p u v w ac y aa ab fu)
def x18(f g:Int)(ad:LB)(a b:Bool)(h:LB)(k m n o p u:Int)(v:Bool)(w:Int)(ac dn y:LB)(aa:LI)(ab:LB)(dq:Int):Option R_:=H.e P_ [r,r,r,r,r,r,r,r,r,r,r,r,r,r,r,r,r,r,r,r,r,r,r,r,r,r,r,r,r,r,r,r,l,r,d] (t18 f g ad a b h k m n o p u v w ac dn y aa ab dq)
theorem e28:x28=Gm:=A4
theorem e27:x27=Gn:=Eq.trans (b:=Di x28) A4 (by rw[Kt];simp only[e28]<;>rfl)
theorem e26:x26=Gs:=Eq.trans (b:=Dm x27) A4 (by rw[Kv];simp only[e27]<;>rfl)
theorem e25:x25=Ge:=Eq.trans (b:=Dl x26) A4 (by rw[Kw];simp only[e26]<;>rfl)
theorem e24:x24=Gi:=Eq.trans (b:=Dq x25) A4 (by rw[Ku];simp only[e25]<;>rfl)
theorem i21(f g:Int)(ad:LB)(a b:Bool)(h:LB)(k m n o p u:Int)(v:Bool)(w:Int)(ac y:LB)(aa:LI)(ab:LB):∀(q:Nat) (fu:Int),z21 q (t21 f g ad a b h k m n o p u v w ac y aa ab fu)=Ed f g ad a b h k m n o p u v w ac y aa ab q fu:=
 ind (λ_=>by kernel_rfl) λq ih fu=>Eq.trans (b:=Gk (Gg x24) (λfu=>(z21 q) (t21 f g ad a b h k m n o p u v w ac y aa ab fu)) f g ad a b h k m n o p u v w ac y aa ab fu) A4 (by simp only[e24,ih]<;>rfl)
theorem e21:x21=Gt:=by funext f g ad a b h k m n o p u v w ac y aa ab fu;exact Eq.trans A4 ((i21 f g ad a b h k m n o p u v w ac y aa ab Bo fu).trans (by rw[Ao];rfl))
theorem i18(f g:Int)(ad:LB)(a b:Bool)(h:LB)(k m n o p u:Int)(v:Bool)(w:Int)(ac dn y:LB)(aa:LI)(ab:LB):∀(q:Nat) (dq:Int),z18 q (t18 f g ad a b h k m n o p u v w ac dn y aa ab dq)=Ea f g ad a b h k m n o p u v w ac dn y aa ab q dq:=
 ind (λ_=>by kernel_rfl) λq ih dq=>Eq.trans (b:=Gj (Gq x21) (λdq=>(z18 q) (t18 f g ad a b h k m n o p u v w ac dn y aa ab dq)) f g ad a b h k m n o p u v w ac dn y aa ab dq) A4 (by simp only[e21,ih]<;>rfl)
theorem e18:x18=Gl:=by funext f g ad a b h k m n o p u v w ac dn y aa ab dq;exact Eq.trans A4 ((i18 f g ad a b h k m n o p u v w ac dn y aa ab Bo dq).trans (by rw[Ao];rfl))
theorem i15(f g:Int)(ad:LB)(a b:Bool)(h:LB)(k m n o p u:Int)(v:Bool)(w:Int)(ac:LB)(fv:List (LB×LB×(Int×Int×Int×Int×Int×Unit)×LI×Int×LB×Bool×Int×Unit))(y:LB)(aa:LI)(ab:LB):∀(q:Nat) (gi:Int),z15 q (t15 f g ad a b h k m n o p u v w ac fv y aa ab gi)=Dv f g ad a b h k m n o p u v w ac fv y aa ab q gi:=
 ind (λ_=>by kernel_rfl) λq ih gi=>Eq.trans (b:=Gp (Gh x18) (λgi=>(z15 q) (t15 f g ad a b h k m n o p u v w ac fv y aa ab gi)) f g ad a b h k m n o p u v w ac fv y aa ab gi) A4 (by simp only[e18,ih]<;>rfl)
def k:KC_:=kk_ 3 H (λ_=>Fh) func3 (λx=>Eq.trans (b:=Hb (λf g ad a b h k m n o p u v w ac fv y aa ab gi=>z15 Bo (t15 f g ad a b h k m n o p u v w ac fv y aa ab gi))) A4 (by simp only[i15,Ao]<;>rfl))
end F3
end
end Go.Proofs.YtaokmgopghpikaaGreatDoor
