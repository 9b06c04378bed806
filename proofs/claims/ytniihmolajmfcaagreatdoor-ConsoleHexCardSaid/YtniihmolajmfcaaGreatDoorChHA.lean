/- A part of a proof (see the text that ends in Proof). No conditions. -/
import Derived.Test.YtniihmolajmfcaaGreatDoorChPA
import Derived.Test.YtniihmolajmfcaaGreatDoorProg
import Derived.KernelRfl
import Derived.RangeFuncKeeps
import Derived.RangeFuncWrites
import Derived.Shelf.Abstract
import Derived.Test.YtniihmolajmfcaaGreatDoorChRA
namespace Go
theorem F2{p:Prop}(h:p:=by kernel_rfl):p:=h
end Go
set_option linter.unusedVariables false
set_option linter.unusedSimpArgs false
namespace Go.Proofs.YtniihmolajmfcaaGreatDoor
open Go.RowKit Go.Shelf Go Go.Rx Go.Lv Go.Pl
attribute [local go_sem] Oper.semAt_some
def Tryz.Ah5:Go.Shelf.Ren:=⟨λ|171=>99|243=>146|246=>201|283=>258|284=>259|285=>260|286=>261|129=>304|317=>303|318=>305|319=>306|320=>307|337=>339|338=>340|n=>n,λ|3=>3|9=>9|2=>2|4=>4|171=>335|0=>0|53=>272|37=>29|5=>5|173=>338|212=>398|51=>122|20=>20|213=>399|46=>137|232=>454|233=>455|n=>n,λ|17=>10|18=>12|19=>13|n=>n⟩
theorem Tryz.wE:Go.Proofs.LaysM.n171 Tryz.prog Tryz.Ah5:={
  mixed:=F2
  f129:=Tryz.func304.trans (congrArg some F2)
  f171:=Tryz.func99.trans (congrArg some F2)
  f243:=Tryz.func146.trans (congrArg some F2)
  f246:=Tryz.func201.trans (congrArg some F2)
  f283:=Tryz.func258.trans (congrArg some F2)
  f284:=Tryz.func259.trans (congrArg some F2)
  f285:=Tryz.func260.trans (congrArg some F2)
  f286:=Tryz.func261.trans (congrArg some F2)
  f317:=Tryz.func303.trans (congrArg some F2)
  f318:=Tryz.func305.trans (congrArg some F2)
  f319:=Tryz.func306.trans (congrArg some F2)
  f320:=Tryz.func307.trans (congrArg some F2)
  f337:=Tryz.func339.trans (congrArg some F2)
  f338:=Tryz.func340.trans (congrArg some F2)
  t0:=Tryz.underlying0
  a0:=Tryz.isAgg0
  z0:=Tryz.sizeOf0
  v0:=Tryz.zeroValue0
  t2:=Tryz.underlying2
  a2:=Tryz.isAgg2
  z2:=Tryz.sizeOf2
  v2:=Tryz.zeroValue2
  t3:=Tryz.underlying3
  a3:=Tryz.isAgg3
  z3:=Tryz.sizeOf3
  v3:=Tryz.zeroValue3
  t4:=Tryz.underlying4
  a4:=Tryz.isAgg4
  z4:=Tryz.sizeOf4
  v4:=Tryz.zeroValue4
  t5:=Tryz.underlying5
  a5:=Tryz.isAgg5
  z5:=Tryz.sizeOf5
  v5:=Tryz.zeroValue5
  t9:=Tryz.underlying9
  a9:=Tryz.isAgg9
  z9:=Tryz.sizeOf9
  v9:=Tryz.zeroValue9
  t20:=Tryz.underlying20
  a20:=Tryz.isAgg20
  z20:=Tryz.sizeOf20
  v20:=Tryz.zeroValue20
  t37:=Tryz.underlying29
  a37:=Tryz.isAgg29
  z37:=Tryz.sizeOf29
  v37:=Tryz.zeroValue29
  t46:=Tryz.underlying137
  a46:=Tryz.isAgg137
  z46:=Tryz.sizeOf137
  v46:=Tryz.zeroValue137
  t51:=Tryz.underlying122
  a51:=Tryz.isAgg122
  z51:=Tryz.sizeOf122
  v51:=Tryz.zeroValue122
  t53:=Tryz.underlying272
  a53:=Tryz.isAgg272
  z53:=Tryz.sizeOf272
  v53:=Tryz.zeroValue272
  t171:=Tryz.underlying335
  a171:=Tryz.isAgg335
  z171:=Tryz.sizeOf335
  v171:=Tryz.zeroValue335
  t173:=Tryz.underlying338
  a173:=Tryz.isAgg338
  z173:=Tryz.sizeOf338
  v173:=Tryz.zeroValue338
  t212:=Tryz.underlying398
  a212:=Tryz.isAgg398
  z212:=Tryz.sizeOf398
  v212:=Tryz.zeroValue398
  t213:=Tryz.underlying399
  a213:=Tryz.isAgg399
  z213:=Tryz.sizeOf399
  t232:=Tryz.underlying454
  a232:=Tryz.isAgg454
  z232:=Tryz.sizeOf454
  v232:=Tryz.zeroValue454
  t233:=Tryz.underlying455
  a233:=Tryz.isAgg455
  z233:=Tryz.sizeOf455
  v233:=Tryz.zeroValue455
  g17:=F2
  g18:=F2
  g19:=F2
  i0:=F2
  i2:=F2
  i3:=F2
  i4:=F2
  i5:=F2
  i9:=F2
  i20:=F2
  i37:=F2
  i46:=F2
  i51:=F2
  i53:=F2
  i171:=F2
  i173:=F2
  i212:=F2
  i232:=F2
  i233:=F2
  m17:=F2
  m18:=F2
  m19:=by kernel_rfl}
def Tryz.Ain:Go.Shelf.Ren:=⟨λ|172=>98|244=>144|245=>145|247=>196|279=>197|280=>198|281=>199|282=>200|287=>255|316=>256|171=>99|205=>257|321=>301|322=>302|243=>146|246=>201|283=>258|284=>259|285=>260|286=>261|129=>304|317=>303|318=>305|319=>306|320=>307|337=>339|338=>340|n=>n,λ|9=>9|3=>3|75=>56|76=>57|4=>4|5=>5|167=>260|37=>29|0=>0|85=>261|2=>2|168=>263|53=>272|175=>330|46=>137|210=>333|127=>85|145=>396|143=>394|21=>21|171=>335|173=>338|212=>398|51=>122|20=>20|213=>399|232=>454|233=>455|80=>61|n=>n,λ|15=>5|16=>6|17=>10|18=>12|19=>13|n=>n⟩
theorem Tryz.dE:Go.Proofs.LaysC.n172 Tryz.prog Tryz.Ain:={
  mixed:=F2
  f129:=Tryz.func304.trans (congrArg some F2)
  f171:=Tryz.func99.trans (congrArg some F2)
  f172:=Tryz.func98.trans (congrArg some F2)
  f205:=Tryz.func257.trans (congrArg some F2)
  f243:=Tryz.func146.trans (congrArg some F2)
  f244:=Tryz.func144.trans (congrArg some F2)
  f245:=Tryz.func145.trans (congrArg some F2)
  f246:=Tryz.func201.trans (congrArg some F2)
  f247:=Tryz.func196.trans (congrArg some F2)
  f279:=Tryz.func197.trans (congrArg some F2)
  f280:=Tryz.func198.trans (congrArg some F2)
  f281:=Tryz.func199.trans (congrArg some F2)
  f282:=Tryz.func200.trans (congrArg some F2)
  f283:=Tryz.func258.trans (congrArg some F2)
  f284:=Tryz.func259.trans (congrArg some F2)
  f285:=Tryz.func260.trans (congrArg some F2)
  f286:=Tryz.func261.trans (congrArg some F2)
  f287:=Tryz.func255.trans (congrArg some F2)
  f316:=Tryz.func256.trans (congrArg some F2)
  f317:=Tryz.func303.trans (congrArg some F2)
  f318:=Tryz.func305.trans (congrArg some F2)
  f319:=Tryz.func306.trans (congrArg some F2)
  f320:=Tryz.func307.trans (congrArg some F2)
  f321:=Tryz.func301.trans (congrArg some F2)
  f322:=Tryz.func302.trans (congrArg some F2)
  f337:=Tryz.func339.trans (congrArg some F2)
  f338:=Tryz.func340.trans (congrArg some F2)
  t0:=Tryz.underlying0
  a0:=Tryz.isAgg0
  z0:=Tryz.sizeOf0
  v0:=Tryz.zeroValue0
  t2:=Tryz.underlying2
  a2:=Tryz.isAgg2
  z2:=Tryz.sizeOf2
  v2:=Tryz.zeroValue2
  t3:=Tryz.underlying3
  a3:=Tryz.isAgg3
  z3:=Tryz.sizeOf3
  v3:=Tryz.zeroValue3
  t4:=Tryz.underlying4
  a4:=Tryz.isAgg4
  z4:=Tryz.sizeOf4
  v4:=Tryz.zeroValue4
  t5:=Tryz.underlying5
  a5:=Tryz.isAgg5
  z5:=Tryz.sizeOf5
  v5:=Tryz.zeroValue5
  t9:=Tryz.underlying9
  a9:=Tryz.isAgg9
  z9:=Tryz.sizeOf9
  v9:=Tryz.zeroValue9
  t20:=Tryz.underlying20
  a20:=Tryz.isAgg20
  z20:=Tryz.sizeOf20
  v20:=Tryz.zeroValue20
  t21:=Tryz.underlying21
  a21:=Tryz.isAgg21
  z21:=Tryz.sizeOf21
  v21:=Tryz.zeroValue21
  t37:=Tryz.underlying29
  a37:=Tryz.isAgg29
  z37:=Tryz.sizeOf29
  v37:=Tryz.zeroValue29
  t46:=Tryz.underlying137
  a46:=Tryz.isAgg137
  z46:=Tryz.sizeOf137
  v46:=Tryz.zeroValue137
  t51:=Tryz.underlying122
  a51:=Tryz.isAgg122
  z51:=Tryz.sizeOf122
  v51:=Tryz.zeroValue122
  t53:=Tryz.underlying272
  a53:=Tryz.isAgg272
  z53:=Tryz.sizeOf272
  v53:=Tryz.zeroValue272
  t75:=Tryz.underlying56
  a75:=Tryz.isAgg56
  z75:=Tryz.sizeOf56
  v75:=Tryz.zeroValue56
  t76:=Tryz.underlying57
  a76:=Tryz.isAgg57
  z76:=Tryz.sizeOf57
  v76:=Tryz.zeroValue57
  t85:=Tryz.underlying261
  a85:=Tryz.isAgg261
  z85:=Tryz.sizeOf261
  v85:=Tryz.zeroValue261
  t127:=Tryz.underlying85
  a127:=Tryz.isAgg85
  z127:=Tryz.sizeOf85
  v127:=Tryz.zeroValue85
  t143:=Tryz.underlying394
  a143:=Tryz.isAgg394
  z143:=Tryz.sizeOf394
  v143:=Tryz.zeroValue394
  t145:=Tryz.underlying396
  a145:=Tryz.isAgg396
  z145:=Tryz.sizeOf396
  v145:=Tryz.zeroValue396
  t167:=Tryz.underlying260
  a167:=Tryz.isAgg260
  z167:=Tryz.sizeOf260
  v167:=Tryz.zeroValue260
  t168:=Tryz.underlying263
  a168:=Tryz.isAgg263
  z168:=Tryz.sizeOf263
  v168:=Tryz.zeroValue263
  t171:=Tryz.underlying335
  a171:=Tryz.isAgg335
  z171:=Tryz.sizeOf335
  v171:=Tryz.zeroValue335
  t173:=Tryz.underlying338
  a173:=Tryz.isAgg338
  z173:=Tryz.sizeOf338
  v173:=Tryz.zeroValue338
  t175:=Tryz.underlying330
  a175:=Tryz.isAgg330
  z175:=Tryz.sizeOf330
  v175:=Tryz.zeroValue330
  t210:=Tryz.underlying333
  a210:=Tryz.isAgg333
  z210:=Tryz.sizeOf333
  v210:=Tryz.zeroValue333
  t212:=Tryz.underlying398
  a212:=Tryz.isAgg398
  z212:=Tryz.sizeOf398
  v212:=Tryz.zeroValue398
  t213:=Tryz.underlying399
  a213:=Tryz.isAgg399
  z213:=Tryz.sizeOf399
  t232:=Tryz.underlying454
  a232:=Tryz.isAgg454
  z232:=Tryz.sizeOf454
  v232:=Tryz.zeroValue454
  t233:=Tryz.underlying455
  a233:=Tryz.isAgg455
  z233:=Tryz.sizeOf455
  v233:=Tryz.zeroValue455
  g15:=F2
  g16:=F2
  g17:=F2
  g18:=F2
  g19:=F2
  t80:=Tryz.underlying61
  a80:=Tryz.isAgg61
  z80:=Tryz.sizeOf61
  v80:=Tryz.zeroValue61
  i0:=F2
  i2:=F2
  i3:=F2
  i4:=F2
  i5:=F2
  i9:=F2
  i20:=F2
  i21:=F2
  i37:=F2
  i46:=F2
  i51:=F2
  i53:=F2
  i75:=F2
  i76:=F2
  i80:=F2
  i85:=F2
  i127:=F2
  i143:=F2
  i145:=F2
  i167:=F2
  i168:=F2
  i171:=F2
  i173:=F2
  i175:=F2
  i210:=F2
  i212:=F2
  i232:=F2
  i233:=F2
  m15:=F2
  m16:=F2
  m17:=F2
  m18:=F2
  m19:=F2
  c0:=F2
  c2:=F2
  c3:=F2
  c4:=F2
  c5:=F2
  c9:=F2
  c20:=F2
  c21:=F2
  c37:=F2
  c46:=F2
  c51:=F2
  c53:=F2
  c75:=F2
  c76:=F2
  c80:=F2
  c85:=F2
  c127:=F2
  c143:=F2
  c145:=F2
  c167:=F2
  c168:=F2
  c171:=F2
  c173:=F2
  c175:=F2
  c210:=F2
  c212:=F2
  c213:=F2
  c232:=F2
  c233:=by kernel_rfl}
def Tryz.Ahp:Go.Shelf.Ren:=⟨λ|138=>27|195=>60|218=>61|143=>62|219=>100|217=>68|225=>147|224=>148|267=>149|266=>103|314=>202|n=>n,λ|9=>9|3=>3|4=>4|5=>5|0=>0|46=>137|146=>267|51=>122|n=>n,λ|1=>0|n=>n⟩
theorem Tryz.Ath:Go.Proofs.Lays.n138 Tryz.prog Tryz.Ahp:={
  mixed:=F2
  f138:=Tryz.func27.trans (congrArg some F2)
  f143:=Tryz.func62.trans (congrArg some F2)
  f195:=Tryz.func60.trans (congrArg some F2)
  f217:=Tryz.func68.trans (congrArg some F2)
  f218:=Tryz.func61.trans (congrArg some F2)
  f219:=Tryz.func100.trans (congrArg some F2)
  f224:=Tryz.func148.trans (congrArg some F2)
  f225:=Tryz.func147.trans (congrArg some F2)
  f266:=Tryz.func103.trans (congrArg some F2)
  f267:=Tryz.func149.trans (congrArg some F2)
  f314:=Tryz.func202.trans (congrArg some F2)
  t0:=Tryz.underlying0
  a0:=Tryz.isAgg0
  z0:=Tryz.sizeOf0
  v0:=Tryz.zeroValue0
  t3:=Tryz.underlying3
  a3:=Tryz.isAgg3
  z3:=Tryz.sizeOf3
  v3:=Tryz.zeroValue3
  t4:=Tryz.underlying4
  a4:=Tryz.isAgg4
  z4:=Tryz.sizeOf4
  v4:=Tryz.zeroValue4
  t5:=Tryz.underlying5
  a5:=Tryz.isAgg5
  z5:=Tryz.sizeOf5
  v5:=Tryz.zeroValue5
  t9:=Tryz.underlying9
  a9:=Tryz.isAgg9
  z9:=Tryz.sizeOf9
  v9:=Tryz.zeroValue9
  t46:=Tryz.underlying137
  a46:=Tryz.isAgg137
  z46:=Tryz.sizeOf137
  v46:=Tryz.zeroValue137
  t51:=Tryz.underlying122
  a51:=Tryz.isAgg122
  z51:=Tryz.sizeOf122
  v51:=Tryz.zeroValue122
  t146:=Tryz.underlying267
  a146:=Tryz.isAgg267
  z146:=Tryz.sizeOf267
  v146:=Tryz.zeroValue267
  g1:=by kernel_rfl}
def Tryz.Aix:Go.Shelf.Ren:=⟨λ|143=>62|219=>100|217=>68|225=>147|224=>148|267=>149|266=>103|314=>202|n=>n,λ|9=>9|3=>3|4=>4|5=>5|46=>137|146=>267|51=>122|n=>n,λ|1=>0|n=>n⟩
theorem Tryz.Atf:Go.Proofs.Lays.n143 Tryz.prog Tryz.Aix:={
  mixed:=F2
  f143:=Tryz.func62.trans (congrArg some F2)
  f217:=Tryz.func68.trans (congrArg some F2)
  f219:=Tryz.func100.trans (congrArg some F2)
  f224:=Tryz.func148.trans (congrArg some F2)
  f225:=Tryz.func147.trans (congrArg some F2)
  f266:=Tryz.func103.trans (congrArg some F2)
  f267:=Tryz.func149.trans (congrArg some F2)
  f314:=Tryz.func202.trans (congrArg some F2)
  t3:=Tryz.underlying3
  a3:=Tryz.isAgg3
  z3:=Tryz.sizeOf3
  v3:=Tryz.zeroValue3
  t4:=Tryz.underlying4
  a4:=Tryz.isAgg4
  z4:=Tryz.sizeOf4
  v4:=Tryz.zeroValue4
  t5:=Tryz.underlying5
  a5:=Tryz.isAgg5
  z5:=Tryz.sizeOf5
  v5:=Tryz.zeroValue5
  t9:=Tryz.underlying9
  a9:=Tryz.isAgg9
  z9:=Tryz.sizeOf9
  v9:=Tryz.zeroValue9
  t46:=Tryz.underlying137
  a46:=Tryz.isAgg137
  z46:=Tryz.sizeOf137
  v46:=Tryz.zeroValue137
  t51:=Tryz.underlying122
  a51:=Tryz.isAgg122
  z51:=Tryz.sizeOf122
  v51:=Tryz.zeroValue122
  t146:=Tryz.underlying267
  a146:=Tryz.isAgg267
  z146:=Tryz.sizeOf267
  v146:=Tryz.zeroValue267
  g1:=by kernel_rfl}
def Tryz.Ag6:Go.Shelf.Ren:=⟨λ|217=>68|266=>103|n=>n,λ|9=>9|5=>5|3=>3|n=>n,λ|n=>n⟩
theorem Tryz.Auf:Go.Proofs.Lays.n217 Tryz.prog Tryz.Ag6:={
  mixed:=F2
  f217:=Tryz.func68.trans (congrArg some F2)
  f266:=Tryz.func103.trans (congrArg some F2)
  t3:=Tryz.underlying3
  a3:=Tryz.isAgg3
  z3:=Tryz.sizeOf3
  v3:=Tryz.zeroValue3
  t5:=Tryz.underlying5
  a5:=Tryz.isAgg5
  z5:=Tryz.sizeOf5
  v5:=Tryz.zeroValue5
  t9:=Tryz.underlying9
  a9:=Tryz.isAgg9
  z9:=Tryz.sizeOf9
  v9:=Tryz.zeroValue9}
def Tryz.jW:Go.Shelf.Ren:=⟨λ|165=>157|240=>36|241=>212|276=>69|277=>270|n=>n,λ|70=>49|3=>3|0=>0|4=>4|9=>9|20=>20|72=>51|37=>29|164=>91|5=>5|n=>n,λ|n=>n⟩
theorem Tryz.vY:Go.Proofs.Lays.n165 Tryz.prog Tryz.jW:={
  mixed:=F2
  f165:=Tryz.func157.trans (congrArg some F2)
  f240:=Tryz.func36.trans (congrArg some F2)
  f241:=Tryz.func212.trans (congrArg some F2)
  f276:=Tryz.func69.trans (congrArg some F2)
  f277:=Tryz.func270.trans (congrArg some F2)
  t0:=Tryz.underlying0
  a0:=Tryz.isAgg0
  z0:=Tryz.sizeOf0
  v0:=Tryz.zeroValue0
  t3:=Tryz.underlying3
  a3:=Tryz.isAgg3
  z3:=Tryz.sizeOf3
  v3:=Tryz.zeroValue3
  t4:=Tryz.underlying4
  a4:=Tryz.isAgg4
  z4:=Tryz.sizeOf4
  v4:=Tryz.zeroValue4
  t9:=Tryz.underlying9
  a9:=Tryz.isAgg9
  z9:=Tryz.sizeOf9
  v9:=Tryz.zeroValue9
  t20:=Tryz.underlying20
  a20:=Tryz.isAgg20
  z20:=Tryz.sizeOf20
  v20:=Tryz.zeroValue20
  t37:=Tryz.underlying29
  a37:=Tryz.isAgg29
  z37:=Tryz.sizeOf29
  v37:=Tryz.zeroValue29
  t70:=Tryz.underlying49
  a70:=Tryz.isAgg49
  z70:=Tryz.sizeOf49
  v70:=Tryz.zeroValue49
  t72:=Tryz.underlying51
  a72:=Tryz.isAgg51
  z72:=Tryz.sizeOf51
  v72:=Tryz.zeroValue51
  t164:=Tryz.underlying91
  a164:=Tryz.isAgg91
  z164:=Tryz.sizeOf91
  v164:=Tryz.zeroValue91}
def Tryz.p_:Go.Shelf.Ren:=⟨λ|169=>26|n=>n,λ|70=>49|9=>9|0=>0|72=>51|37=>29|127=>85|3=>3|5=>5|n=>n,λ|n=>n⟩
theorem Tryz.Auj:Go.Proofs.Lays.n169 Tryz.prog Tryz.p_:={
  mixed:=F2
  f169:=Tryz.func26.trans (congrArg some F2)
  t0:=Tryz.underlying0
  a0:=Tryz.isAgg0
  z0:=Tryz.sizeOf0
  v0:=Tryz.zeroValue0
  t3:=Tryz.underlying3
  a3:=Tryz.isAgg3
  z3:=Tryz.sizeOf3
  v3:=Tryz.zeroValue3
  t9:=Tryz.underlying9
  a9:=Tryz.isAgg9
  z9:=Tryz.sizeOf9
  v9:=Tryz.zeroValue9
  t37:=Tryz.underlying29
  a37:=Tryz.isAgg29
  z37:=Tryz.sizeOf29
  v37:=Tryz.zeroValue29
  t70:=Tryz.underlying49
  a70:=Tryz.isAgg49
  z70:=Tryz.sizeOf49
  v70:=Tryz.zeroValue49
  t72:=Tryz.underlying51
  a72:=Tryz.isAgg51
  z72:=Tryz.sizeOf51
  v72:=Tryz.zeroValue51
  t127:=Tryz.underlying85
  a127:=Tryz.isAgg85
  z127:=Tryz.sizeOf85
  v127:=Tryz.zeroValue85}
theorem sN:Builder.X72 Tryz.prog Tryz.jW:=⟨F2,F2⟩
theorem Aj5:tV Tryz.prog 36 51:=by
  intro w b p v hb hp;have L:Lays.n240 Tryz.prog Tryz.jW:={Tryz.vY with};rcases hp with rfl|rfl
  · refine(Any.Builder_copyCheck_fresh L sN b w (by rw[Lib.cell_of_heap hb];rfl) (by simp[World.shape?,hb];rfl) (Lib.frozen_of_heap hb 0)).mono ?_
    rintro e w' ⟨rfl,rfl⟩;exact⟨rfl,Rf.A4 hb 0 _⟩
  · refine(Any.Builder_copyCheck_used L sN b w (by rw[Lib.cell_of_heap hb];rfl)).mono ?_
    rintro e w' ⟨rfl,rfl⟩;exact⟨rfl,(Rf.yP hb).symm⟩
theorem Ary:Builder.Extra Tryz.prog Tryz.p_ where
  sizeBuilder:=F2
  liesBuilder:=F2
  t5:=Tryz.underlying5
  a5:=Tryz.isAgg5
  z5:=Tryz.sizeOf5
  v5:=Tryz.zeroValue5
  infoByte:=F2
  cellsByte:=F2
  sizeByte:=F2
  neB5:=F4
theorem Apf:cD Tryz.prog 26 51 5:=Rf.As1 Tryz.Auj Ary
theorem Aqh:Builder.Extra Tryz.prog Tryz.jW where
  sizeBuilder:=F2
  liesBuilder:=F2
  t5:=Tryz.underlying5
  a5:=Tryz.isAgg5
  z5:=Tryz.sizeOf5
  v5:=Tryz.zeroValue5
  infoByte:=F2
  cellsByte:=F2
  sizeByte:=F2
  neB5:=F4
theorem Ajy:YC Tryz.prog 157 51 5:=Rf.Aqd Tryz.vY Aqh
def e? :Code->Code| .rangeFunc _ _ a _=>a|c=>c
def I? :Code->Code| .rangeFunc _ _ _ b=>b|c=>c
theorem Ail{s t:LB}{y:Int}(h:strings_Count s t=some y):∃c,t=[c]/\y=(s.count c:Nat):=by
  unfold strings_Count at h;split at h
  · exact⟨_,rfl,(Option.some.inj h).symm⟩
  · cases h
noncomputable def Pw:Con:=⟨[.lf .str none, .lf .str none],[.lf (.int .i64) none],λx=>strings_Count x.1 x.2⟩
theorem Aze{gl:List (Nat×List Value)}(hE:Ent Tryz.prog 27):ConOk Tryz.prog gl 27 Pw:=by
  refine⟨hE,?_⟩;rintro R N w L0 vs ps ⟨s,t⟩ y hargs hlen hit Xd hvs hgl hy;obtain rfl:=Option.some.inj (show some [PV.val .str s,PV.val .str t]=some ps from hargs);obtain⟨v0,_,rfl,h0,v1,_,rfl,h1,rfl⟩:=hvs;obtain rfl:v0=sv s:=by cases(show [v0]=[sv s]from h0);rfl
  obtain rfl:v1=sv t:=by cases(show [v1]=[sv t]from h1);rfl
  obtain⟨c,rfl,rfl⟩:=Ail (show strings_Count s t=some y from hy);refine(Any.strings_Count_one Tryz.Ath ⟨s.toArray⟩ c w).mono ?_;rintro e w' ⟨rfl,rfl⟩;exact⟨[.int .i64 (s.count c:Nat)],rfl,Rf.uI (e:= .int .i64) ⟨λ_ _ _=>rfl, .refl _⟩ (λB=>rfl) rfl⟩
theorem y!:∀(l:LB) (c:UInt8),Fe l c=Lib.indexByte l c
  |[],_=>rfl
  |b::l,c=>by rw[Fe,Lib.indexByte,y! l c]
theorem Ah6{s t:LB}{y:Int}(h:strings_Index s t=some y):∃c,t=[c]/\y=Fe s c:=by
  unfold strings_Index at h;split at h
  · exact⟨_,rfl,(Option.some.inj h).symm⟩
  · cases h
noncomputable def FJ:Con:=⟨[.lf .str none, .lf .str none],[.lf (.int .i64) none],λx=>strings_Index x.1 x.2⟩
theorem Ayp{gl:List (Nat×List Value)}(hE:Ent Tryz.prog 62):ConOk Tryz.prog gl 62 FJ:=by
  refine⟨hE,?_⟩;rintro R N w L0 vs ps ⟨s,t⟩ y hargs hlen hit Xd hvs hgl hy;obtain rfl:=Option.some.inj (show some [PV.val .str s,PV.val .str t]=some ps from hargs);obtain⟨v0,_,rfl,h0,v1,_,rfl,h1,rfl⟩:=hvs;obtain rfl:v0=sv s:=by cases(show [v0]=[sv s]from h0);rfl
  obtain rfl:v1=sv t:=by cases(show [v1]=[sv t]from h1);rfl
  obtain⟨c,rfl,rfl⟩:=Ah6 (show strings_Index s t=some y from hy);refine(Any.strings_Index_one Tryz.Atf ⟨s.toArray⟩ c w).mono ?_;rintro e w' ⟨rfl,rfl⟩;refine⟨[.int .i64 (Fe s c)],by rw[y!];rfl,Rf.uI (e:= .int .i64) ⟨λ_ _ _=>rfl, .refl _⟩ (λB=>rfl) rfl⟩
noncomputable def Nd:Con:=⟨[.lf .str none, .lf (.int .u8) none],[.lf (.int .i64) none],λx=>stringslite_IndexByte x.1 x.2⟩
theorem Asg(s:LB)(c:UInt8)(w:World):Calls Tryz.prog 68 #[sv s, .int .u8 c.toNat] w λe w'=>e= .returned (.int .i64 (Fe s c))/\w'=w:=by
  refine(Any.stringslite_IndexByte Tryz.Auf ⟨s.toArray⟩ c.toNat w).mono ?_;rintro e w' ⟨rfl,rfl⟩;exact⟨by rw[y!];simp,rfl⟩
theorem Adz{gl:List (Nat×List Value)}(hE:Ent Tryz.prog 68):ConOk Tryz.prog gl 68 Nd:=by
  refine⟨hE,?_⟩;rintro R N w L0 vs ps ⟨s,c⟩ y hargs hlen hit Xd hvs hgl hy;obtain rfl:=Option.some.inj (show some [PV.val .str s,PV.val (.int .u8) c]=some ps from hargs);obtain⟨v0,_,rfl,h0,v1,_,rfl,h1,rfl⟩:=hvs;obtain rfl:v0=sv s:=by cases(show [v0]=[sv s]from h0);rfl
  obtain rfl:v1= .int .u8 (c:UInt8).toNat:=by cases(show [v1]=[.int .u8 (c:UInt8).toNat]from h1);rfl
  obtain rfl:Fe s c=y:=Option.some.inj (show some (Fe s c)=some y from hy);refine(Asg s c w).mono ?_;rintro e w' ⟨rfl,rfl⟩;exact⟨[.int .i64 (Fe s c)],rfl,Rf.uI (e:= .int .i64) ⟨λ_ _ _=>rfl, .refl _⟩ (λB=>rfl) rfl⟩
theorem N2:∀(l:LB) (c:UInt8),Fe l c= -1\/∃i:Nat,i<l.length/\Fe l c=i
  |[],_=> .inl rfl
  |b::l,c=>by
    rw[Fe];split
    · exact .inr ⟨0,F7,rfl⟩
    · split
      · exact .inl rfl
      · rename_i h
        rcases N2 l c with h'|⟨i,h1,h2⟩
        · exact absurd (by simp[h']) h
        · exact .inr ⟨i+1,by simpa using h1,by rw[h2];simp⟩
theorem qp{a:Int}(h1:0<=a)(h2:a<=34359738368):Af a 1=a+1:=by
  show Go.Lv.wrap64 (a+1)=a+1;exact Go.Lv.Db F3 F3
theorem ny{s:LB}{i:Nat}(h:i<=s.length):Bi s 0 (i:Int)=some (s.take i):=by
  unfold Bi;rw[if_pos ⟨Int.le_refl 0,F3,F3⟩];simp
theorem Y4{s:LB}{i:Nat}(h:i<=s.length):Bi s (i:Int) (Aa s)=some (s.drop i):=by
  unfold Bi Aa;rw[if_pos ⟨F3,F3,Int.le_refl _⟩];simp
theorem Wt{P:Program}{f:Func}(hrs:f.results= #[]) {m n:Nat} {J:Nat->Reg->World->Prop} {Jx:World->Prop} {N:Nat} {σ:Env} {a':Act} {w':World} (hf:Fits [] n a' σ) (hh:(∃V,J N V w')\/Jx w'):
    LeavesInM (wr none) m P f a'.tmps (λe W'=>(∃v,e= .returned v)/\ ((∃V,J N V W')\/Jx W')) a'.defers .returning w':=by
  rw[hf.defers];exact⟨_,Xe (rs:=[]) (vs:=[]) hrs hf trivial,⟨_,rfl⟩,hh⟩
theorem Asw(s:LB)(c:UInt8):Df s c=some (Fe s c):=F2
theorem Apy{v:PV}(h:Zk v=true):∀u∈[v],Zk u=true:=λu hu=>by
  rcases List.mem_cons.1 hu with rfl|hu
  · exact h
  · cases hu
noncomputable def qx:Con:=⟨[.lf .str none, .lf (.int .u8) none],[.lf (.int .i64) none],λx=>Df x.1 x.2⟩
noncomputable def IY(gl:List (Nat×List Value)):Tab:=⟨[(35,qx)],gl,false,false⟩
noncomputable abbrev oL{R:Type}(gl:List (Nat×List Value)):XV R:=Qn Tryz.prog (IY gl) 8 []
noncomputable def W!:Code:=cA (cA (fB Tryz.f34))
noncomputable def uA:Code:=cA W!
noncomputable def tL:Code:=cA (cA (cB W!))
noncomputable def uE:Code:=cA (cB (cA (cB W!)))
noncomputable def uN:Code:=cB (cB (cA (cB W!)))
noncomputable def nN:List Oper:=cO (cA uN)
noncomputable def XG:Code:=cB uN
noncomputable def oP:Oper:=oAt nN 2
noncomputable def vG:Oper:=oAt nN 3
theorem Ahy:Tryz.f34.body=some (.block 0 (.loop (.seq uA (.block 1 (.seq tL (.seq uE (.seq (.region 6 (nN.take 2++oP::[vG]).toArray false) XG))))))):=F2
theorem Aoy:Tryz.f34.ntmps=25:=F2
theorem Anq:oP.guard=none:=F2
theorem Aon:oP.dst=some 23:=F2
theorem sZ:oP.op= .call ⟨.value (.tmp 21), #[.tmp 22], #[9]⟩:=F2
abbrev Ig(l:Nat):Value:= .func (.yield l) #[] #[]
abbrev CG(l:Nat)(s:LB)(sl:Slots):S:=⟨[(0, .cst (Ig l)),(1, .ptr 0 [])]++sl,[.box 9 (vs s)],[[(0, .ptr 0 [])]]⟩
theorem r!(gl:List (Nat×List Value))(l:Nat)(s:LB):ex Tryz.prog (IY gl) (oL gl) 25 uA .d (kC [0,1] []) (CG l s [])=if Dr (Aa s) 0=true then some (0,CG l s [])else some (2,CG l s []):=F2
theorem Apz(gl:List (Nat×List Value))(l:Nat)(s:LB):ex Tryz.prog (IY gl) (oL gl) 25 tL .d (kC [0,1,3] []) (CG l s [])=some (0,CG l s [(3,vs [])]):=F2
theorem Apv(gl:List (Nat×List Value))(l:Nat)(s:LB):ex Tryz.prog (IY gl) (oL gl) 25 uE .d (kC [0,1,3] []) (CG l s [(3,vs [])])=
    Option.bind (Df s 10) λi=>if Fu i 0=true then Option.bind (Bi s 0 (Af i 1)) λa=>Option.bind (Bi s (Af i 1) (Aa s)) λb=>some (0,CG l b [(3,vs a)])else some (0,CG l [] [(3,vs s)]):=F2
theorem Aoe(gl:List (Nat×List Value))(l:Nat)(s x:LB):EW Tryz.prog (IY gl) (oL gl) 25 (nN.take 2++oP::[vG]).toArray (nN.take 2) (CG l s [(3,vs x)]) (cnP [0,1,21,22] [] 0)=some (0,CG l s [(21, .cst (Ig l)),(22,vs x)]):=F2
theorem Apo(gl:List (Nat×List Value))(l:Nat)(s x:LB)(t:Bool):EW Tryz.prog (IY gl) (oL gl) 25 (nN.take 2++oP::[vG]).toArray [vG] ⟨i! (CG l s [(21, .cst (Ig l)),(22,vs x)]).sl 23 (vt t),[.box 9 (vs s)],[[(0, .ptr 0 [])]]⟩ (cnP [0,1,24] [] 0)=some (0,CG l s [(24,vt (!t))]):=F2
theorem Anx(gl:List (Nat×List Value))(l:Nat)(s:LB)(t:Bool):ex Tryz.prog (IY gl) (oL gl) 25 XG .d (kC [0,1] []) (CG l s [(24,vt t)])=if t=true then some (1,CG l s [])else some (0,CG l s []):=F2
theorem Akp:EW Tryz.prog ⟨[],[],false,false⟩ (Qn Tryz.prog ⟨[],[],false,false⟩ 8 []) 25 (nN.take 2++oP::[vG]).toArray [vG] ⟨[(23,vt false)],[],[]⟩ (cnP [24] [] 0)=some (0,⟨[(24,vt true)],[],[]⟩):=F2
theorem Akv:ex Tryz.prog ⟨[],[],false,false⟩ (Qn Tryz.prog ⟨[],[],false,false⟩ 8 []) 25 XG .d (kC [] []) ⟨[(24,vt true)],[],[]⟩=some (1,⟨[],[],[]⟩):=F2
def P!:List PV->Option (List LB)
  |[.val .str s]=>q! s
  |_=>none
theorem Air{q:Nat}{s x:LB}{r:List LB}(h:Ud q s=x::r)(hs:s.length<=17179869184):∃q' s',q=q'+1/\Dr (Aa s) 0=true/\s'.length<s.length/\Ud q' s'=r/\
    ((Fu (Fe s 10) 0=true/\Bi s 0 (Af (Fe s 10) 1)=some x/\Bi s (Af (Fe s 10) 1) (Aa s)=some s')\/ (Fu (Fe s 10) 0=false/\x=s/\s'=[])):=by
  match q,s with
  |0,_=>cases h
  |q+1,[]=>cases h
  |q+1,c::s=>
    rw[Ud]at h;have hpos:Dr (Aa (c::s)) 0=true:=by simp[Dr,Aa,GI.toZ]
    rcases N2 (c::s) 10 with h1|⟨i,h1,h2⟩
    · rw[h1,if_pos F4]at h
      injection h with h3 h4
      refine⟨q,[],rfl,hpos,F7,?_, .inr ⟨by rw[h1];rfl,h3.symm,rfl⟩⟩;rw[<-h4];cases q<;>rfl
    · rw[h2,if_neg (by simp[Bw,GI.toZ])]at h
      injection h with h3 h4
      have e:Af (i:Int) 1=((i+1:Nat):Int):=by rw[qp F3 F3];omega
      refine⟨q,(c::s).drop (i+1),rfl,hpos,by simp;omega,?_, .inl ⟨by rw[h2];simp[Fu,GI.toZ],?_,?_⟩⟩
      · rw[<-h4];rfl
      · rw[h2,e,ny F3,<-h3];rfl
      · rw[h2,e,Y4 F3]
theorem Aiy{q:Nat}{s:LB}(h:Ud q s=[])(hq:s.length<q):Dr (Aa s) 0=false:=by
  match q,s with
  |q+1,[]=>rfl
  |q+1,c::s=>
    rw[Ud]at h;split at h<;>cases h
theorem Ahq{gl:List (Nat×List Value)}(hC:ConOk Tryz.prog gl 35 qx)(hE:Ent Tryz.prog 34):ItOk Tryz.prog gl 34 ⟨[9],true, .str,P!⟩:=by
  refine⟨hE,λm B w bs us xs hB hbs WH hgl hF=>?_⟩;have hM:Tryz.prog.follows .mixedOrders=true:=F2
  have hT:Mw Tryz.prog (IY gl):= .cons hC .nil;have hI:∀{R:Type},Lj (R:=R) Tryz.prog (IY gl).gl (oL gl):=Zy hM hT Gq.nil 8;have hF:P! us=some xs:=hF;obtain⟨s,rfl,hlim,rfl⟩:∃s,us=[vs s]/\s.length<=17179869184/\xs=Ud (s.length+1) s:=by
    unfold P! at hF;split at hF
    · obtain⟨u,hok,hF⟩:=Go.Lv.bind_some hF
      refine⟨_,rfl,?_,(Option.some.inj hF).symm⟩;unfold Es at hok;split at hok
      · rename_i h;have h':=of_decide_eq_true h;unfold Aa at h';omega
      · cases hok
    · cases hF
  intro l J Jx W hk hJ hJx hY h0;have hW:Boxes true B W [9] bs [vs s]:=jl hB hk WH hbs;obtain⟨L,it,hbi,hit⟩:=eu (λb hb=>Nat.lt_of_lt_of_le (hB b hb) hk.gr.le) (hgl.keep (λ_ h=>h) (λk hk'=>hk.same k (hB k hk') trivial) hk.gr) hW (Apy rfl);obtain⟨b,rfl⟩:∃b,bs=[b]:=let⟨b,cells,e,_⟩:=WH.one;⟨b,e⟩;subst hit;have hm0:MemB gl [b] B W (CG l s []) (II [Ig l, .pointer (some ⟨b,0,none⟩)]):=X8 (y:=Ig l) rfl (λb hb=>Nat.lt_of_lt_of_le (hB b hb) hk.gr.le) (hgl.keep (λ_ h=>h) (λk hk'=>hk.same k (hB k hk') trivial) hk.gr) hbi;have yW:∀i V X Y,J i V X->KeepN (λk=>k∉ [b]) X Y->J i (grown V X Y) Y:=λi V X Y h k=>hJ i V X Y h (k.Hk λc hc=>hc rfl);refine callsIn_of_wp_marks Tryz.func34 Ahy trivial ?_ rfl;have ha0:=JS (fn:=Tryz.f34) (vs:=[Ig l, .pointer (some ⟨b,0,none⟩)]) F2;have e0:(#[Ig l]++K4 [b]:Array Value)=[Ig l, .pointer (some ⟨b,0,none⟩)].toArray:=by simp[K4]
  rw[e0]
  revert ha0
  generalize({tmps:=_,defers:=[]}:Act)=xL;rw[Aoy];intro ha0;refine wpIn_block (xS ((Ud (s.length+1) s).length+1) (λq a' w'=>∃(i p:Nat) (s':LB) (V:Reg) (σ:Env),q+i=(Ud (s.length+1) s).length+1/\i<= (Ud (s.length+1) s).length/\Fits [] 25 a' σ/\J i V w'/\MemB gl [b] V w' (CG l s' []) σ/\Ud p s'=(Ud (s.length+1) s).drop i/\s'.length<=17179869184/\s'.length<p) ?_ ?_
    ⟨0,s.length+1,s,B,_,rfl,Nat.zero_le _,ha0,h0,hm0,rfl,hlim,Nat.lt_succ_self _⟩)
  · rintro a' w' ⟨i,p,s',V,σ,hq,hi,_⟩
    omega
  generalize Ud (s.length+1) s=xs at hY⊢;rintro q a' w' ⟨i,p,s',V,σ,hq,hi,hf,hj,hm,hp,hl',hlt'⟩;cases hd:xs.drop i with
  |nil=>
    rw[hd]at hp;have hlen:xs.length<=i:=List.drop_eq_nil_iff.1 hd;refine wpIn_seq (wpIn_mono (UN (bs:=[b]) hM hT hI (J:=J i) (yW i) (an:= .d) (lv:=[0,1]) (co:=[]) ((r! gl l s').trans (by rw[Aiy hp hlt'];rfl)) rfl rfl hm hj hf) ?_);rintro e ac wc ⟨he,σc,Vc,fc,jc,mc⟩;cases e with
    |exit id=>
      obtain rfl:id=0:=by simpa [Ui]using he
      exact Wt F2 fc (.inl ⟨Vc,by rw[show xs.length=i by omega];exact jc⟩)
    |normal=>simp[Ui]at he
    |ret=>simp[Ui]at he
    |goto l=>cases he
    |panic c=>cases he
    |outgrown=>cases he
  |cons x r=>
    rw[hd]at hp;have hx:xs[i]? =some x:=by
      have:=congrArg List.head? hd;rwa [List.head?_drop]at this
    have hi':i<xs.length:=(List.getElem?_eq_some_iff.1 hx).1;have hr:xs.drop (i+1)=r:=by
      have:=congrArg List.tail hd;rwa [List.tail_drop]at this
    obtain⟨p',s2,rfl,hg,hle2,hp',hcase⟩:=Air hp hl';refine WK (bs:=[b]) hM hT hI (J:=J i) (yW i) .d [0,1] [] ((r! gl l s').trans (by rw[hg];rfl)) rfl rfl hm hj hf λσ1 V1 w1 a1 f1 j1 m1=>?_;refine wpIn_block ?_;refine WK (bs:=[b]) hM hT hI (J:=J i) (yW i) .d [0,1,3] [] (Apz gl l s') rfl rfl m1 j1 f1 λσ2 V2 w2 a2 f2 j2 m2=>?_;refine WK (bs:=[b]) (s':=CG l s2 [(3,vs x)]) hM hT hI (J:=J i) (yW i) .d [0,1,3] [] ((Apv gl l s').trans (by
      rw[Asw];rcases hcase with⟨g1,g2,g3⟩|⟨g1,rfl,rfl⟩
      · show(if Fu (Fe s' 10) 0=true then _ else _)=_
        rw[if_pos g1,g2,g3];rfl
      · show(if Fu (Fe x 10) 0=true then _ else _)=_
        rw[if_neg (by rw[g1];simp)])) rfl rfl m2 j2 f2 λσ3 V3 w3 a3 f3 j3 m3=>?_
    refine wpIn_seq (wpIn_region_lit ?_);refine uJ (T:=IY gl) (bs:=[b]) hT hI (J:=J i) (yW i) [0,1,21,22] F2 (Aoe gl l s2 x) rfl rfl m3 j3 f3 λσ4 V4 w4 a4 f4 j4 m4=>?_;have v21:σ4 21=Ig l:=by
      obtain⟨L4,this⟩:=m4.val (t:=21) (p:= .cst (Ig l)) F7 rfl;exact(show [σ4 21]=[Ig l]/\ _ from this).1|>List.head_eq_of_cons_eq
    have v22:Fp V4 w4 [] (vs x) (σ4 22):=by
      obtain⟨L4,this⟩:=m4.val (t:=22) (p:=vs x) F7 rfl;exact(show [σ4 22]=[sv x]from this)
    refine sK Anq Aon F4 (λc hc=>by rw[sZ]at hc;cases hc) (NX sZ v21 rfl) (hY i V4 w4 (σ4 22) hi' j4 (λx' hx'=>by rw[hx]at hx';cases hx';exact v22)) ?_ f4;rintro e w5 (⟨rfl,j5,hgr,hsame⟩|⟨rfl,jx⟩)
    · refine⟨_,rfl,λa5 f5=>?_⟩
      have m5:=(m4.round hgr λk hk'=>hsame k (hk'.imp id λh h'=>h' rfl h)).set (d:=23) (p:=vt true) (v:= .bool true) rfl (λL=>show [Value.bool true]=[Value.bool true]from rfl);refine uJ (T:=IY gl) (l2:=[]) (bs:=[b]) hT hI (J:=J (i+1)) (yW (i+1)) [0,1,24] F2 (Apo gl l s2 x true) rfl rfl m5 j5 f5 λσ6 V6 w6 a6 f6 j6 m6=>?_;refine wpIn_mono (UN (bs:=[b]) hM hT hI (J:=J (i+1)) (yW (i+1)) (an:= .d) (lv:=[0,1]) (co:=[]) (Anx gl l s2 false) rfl rfl m6 j6 f6) ?_;rintro e ac wc ⟨he,σc,Vc,fc,jc,mc⟩;cases e with
      |normal=>exact⟨i+1,p',s2,Vc,σc,F3,F3,fc,jc,mc,by rw[hp',hr],F3,F3⟩
      |ret=>simp[Ui]at he
      |exit id=>simp[Ui]at he
      |goto l=>cases he
      |panic c=>cases he
      |outgrown=>cases he
    · refine⟨_,rfl,λa5 f5=>?_⟩
      have hT0:Mw Tryz.prog ⟨[],[],false,false⟩:= .nil;have hI0:∀{R:Type},Lj (R:=R) Tryz.prog [] (Qn Tryz.prog ⟨[],[],false,false⟩ 8 []):=Zy hM hT0 Gq.nil 8;have hx0:∀X Y,Jx X->KeepN (λ_=>True) X Y->Jx Y:=λX Y h k=>hJx X Y h (k.Hk λ_ _=>trivial);have m5:MemI [] (λ_=>False) w5 ⟨[(23,vt false)],[],[]⟩ (Lq σ4 23 (.bool false)):=⟨λ_ h=>h.elim,rfl,rfl,(λp hp=>by
        rcases List.mem_cons.1 hp with rfl|hp
        · exact Fy.put rfl (show [Value.bool false]=[Value.bool false]from rfl)
        · cases hp),λp hp=>by cases hp⟩
      refine qP (T:=⟨[],[],false,false⟩) (l2:=[]) hT0 hI0 (J:=λ_ W=>Jx W) (λ_ X Y h k=>hx0 X Y h k) [24] F2 Akp rfl m5 jx f5 λσb Vb wb ab fb jb mb=>?_;refine wpIn_mono (WO (T:=⟨[],[],false,false⟩) hM hT0 hI0 (J:=λ_ W=>Jx W) (λ_ X Y h k=>hx0 X Y h k) (an:= .d) (lv:=[]) (co:=[]) Akv rfl mb jb fb) ?_;rintro e ac wc ⟨he,σc,Vc,fc,jc,mc⟩;cases e with
      |ret=>exact Wt F2 fc (.inr jc)
      |normal=>simp[Ui]at he
      |exit id=>simp[Ui]at he
      |goto l=>cases he
      |panic c=>cases he
      |outgrown=>cases he
noncomputable def qJ:Con:=⟨[.lf .str none, .lf .str none],[.lf (.int .i64) none],λx=>strings_Index x.1 x.2⟩
noncomputable def Wr(gl:List (Nat×List Value)):Tab:=⟨[(62,qJ)],gl,false,false⟩
noncomputable abbrev PY{R:Type}(gl:List (Nat×List Value)):XV R:=Qn Tryz.prog (Wr gl) 8 []
noncomputable def uS:Code:=cA (fB Tryz.f138)
noncomputable def cu:Code:=cA (cA (cA (cA (cB (fB Tryz.f138)))))
noncomputable def uR:Code:=cA cu
noncomputable def uP:Code:=cA (cB cu)
noncomputable def uC:Code:=cA (cB (cB cu))
noncomputable def tX:Code:=cA (cB (cB (cB cu)))
noncomputable def uo:Code:=cB (cB (cB (cB cu)))
noncomputable def oC:List Oper:=cO (cA tX)
noncomputable def XF:Code:=cB tX
noncomputable def nT:Oper:=oAt oC 2
noncomputable def vE:Oper:=oAt oC 3
noncomputable def M!:List Oper:=cO (cB (cB (fB Tryz.f138)))
noncomputable def yL:Oper:=oAt M! 2
theorem Ahk:Tryz.f138.body=some (.seq uS (.seq (.block 2 (.loop (.block 3 (.seq uR (.seq uP (.seq uC (.seq (.seq (.region 8 (oC.take 2++nT::[vE]).toArray false) XF) uo))))))) (.region 10 (M!.take 2++yL::[]).toArray false))):=F2
theorem Ang:Tryz.f138.ntmps=52:=F2
theorem Ann:nT.guard=none:=F2
theorem Ao9:nT.dst=some 41:=F2
theorem sH:nT.op= .call ⟨.value (.tmp 39), #[.tmp 40], #[9]⟩:=F2
theorem Ap7:yL.guard=none:=F2
theorem Aos:yL.dst=some 51:=F2
theorem rF:yL.op= .call ⟨.value (.tmp 49), #[.tmp 50], #[9]⟩:=F2
abbrev vg(c:UInt8)(s:LB):List Rx.Item:=[.box 9 (vs [c]), .box 9 (vs s), .box 3 (vi 0)]
abbrev wI:List Slots:=[[(0, .ptr 0 []),(1, .ptr 1 []),(2, .ptr 2 [])]]
abbrev Tz(l:Nat)(c:UInt8)(s:LB)(sl:Slots):S:=⟨[(0, .cst (Ig l)),(1, .ptr 0 []),(2, .ptr 1 []),(3, .ptr 2 [])]++sl,vg c s,wI⟩
theorem Ao4(gl:List (Nat×List Value))(l:Nat)(c:UInt8)(s:LB):ex Tryz.prog (Wr gl) (PY gl) 52 uS .d (kC [0,1,2,3] []) (Tz l c s [])=some (0,Tz l c s []):=F2
theorem Apa(gl:List (Nat×List Value))(l:Nat)(c:UInt8)(s:LB):ex Tryz.prog (Wr gl) (PY gl) 52 uR .d (kC [0,1,2,3,7] []) (Tz l c s [])=Option.bind (strings_Index s [c]) λi=>some (0,Tz l c s [(7,vi i)]):=F2
theorem rJ(gl:List (Nat×List Value))(l:Nat)(c:UInt8)(s:LB)(i:Int):ex Tryz.prog (Wr gl) (PY gl) 52 uP .d (kC [0,1,2,3,7] []) (Tz l c s [(7,vi i)])=if Bw i 0=true then some (4,Tz l c s [(7,vi i)])else some (0,Tz l c s [(7,vi i)]):=F2
theorem Aoh(gl:List (Nat×List Value))(l:Nat)(c:UInt8)(s:LB)(i:Int):ex Tryz.prog (Wr gl) (PY gl) 52 uC .d (kC [0,1,2,3,7,8] []) (Tz l c s [(7,vi i)])=Option.bind (Bi s 0 (Af i 0)) λx=>some (0,Tz l c s [(7,vi i),(8,vs x)]):=F2
theorem Ap5(gl:List (Nat×List Value))(l:Nat)(c:UInt8)(s x:LB)(i:Int):EW Tryz.prog (Wr gl) (PY gl) 52 (oC.take 2++nT::[vE]).toArray (oC.take 2) (Tz l c s [(7,vi i),(8,vs x)]) (cnP [0,1,2,3,7,39,40] [] 0)=some (0,Tz l c s [(7,vi i),(39, .cst (Ig l)),(40,vs x)]):=F2
theorem Anu(gl:List (Nat×List Value))(l:Nat)(c:UInt8)(s x:LB)(i:Int)(t:Bool):EW Tryz.prog (Wr gl) (PY gl) 52 (oC.take 2++nT::[vE]).toArray [vE] ⟨i! (Tz l c s [(7,vi i),(39, .cst (Ig l)),(40,vs x)]).sl 41 (vt t),vg c s,wI⟩ (cnP [0,1,2,3,7,42] [] 0)=some (0,Tz l c s [(7,vi i),(42,vt (!t))]):=F2
theorem Am9(gl:List (Nat×List Value))(l:Nat)(c:UInt8)(s:LB)(i:Int)(t:Bool):ex Tryz.prog (Wr gl) (PY gl) 52 XF .d (kC [0,1,2,3,7] []) (Tz l c s [(7,vi i),(42,vt t)])=if t=true then some (1,Tz l c s [(7,vi i)])else some (0,Tz l c s [(7,vi i)]):=F2
theorem Anw(gl:List (Nat×List Value))(l:Nat)(c:UInt8)(s:LB)(i:Int):ex Tryz.prog (Wr gl) (PY gl) 52 uo .d (kC [0,1,2,3] []) (Tz l c s [(7,vi i)])=Option.bind (Bi s (Af i 1) (Aa s)) λs'=>some (0,Tz l c s' []):=F2
theorem Anb(gl:List (Nat×List Value))(l:Nat)(c:UInt8)(s:LB)(i:Int):EW Tryz.prog (Wr gl) (PY gl) 52 (M!.take 2++yL::[]).toArray (M!.take 2) (Tz l c s [(7,vi i)]) (cnP [0,1,2,3,49,50] [] 0)=some (0,Tz l c s [(49, .cst (Ig l)),(50,vs s)]):=F2
theorem Akn:EW Tryz.prog ⟨[],[],false,false⟩ (Qn Tryz.prog ⟨[],[],false,false⟩ 8 []) 52 (oC.take 2++nT::[vE]).toArray [vE] ⟨[(41,vt false)],[],[]⟩ (cnP [42] [] 0)=some (0,⟨[(42,vt true)],[],[]⟩):=F2
theorem Ak3:ex Tryz.prog ⟨[],[],false,false⟩ (Qn Tryz.prog ⟨[],[],false,false⟩ 8 []) 52 XF .d (kC [] []) ⟨[(42,vt true)],[],[]⟩=some (1,⟨[],[],[]⟩):=F2
def V9:List PV->Option (List LB)
  |[.val .str sep, .val .str s, .val (.int .i64) n]=>match sep with|[c]=>if n=0 then vX c s else none|_=>none
  |_=>none
theorem Adx{us:List PV}{xs:List LB}(h:V9 us=some xs):∃c s,us=[vs [c],vs s,vi 0]/\s.length<=17179869184/\xs=Lu c (s.length+1) s:=by
  unfold V9 at h;split at h
  · rename_i sep s n
    split at h
    · rename_i c
      split at h
      · rename_i hn
        subst hn;obtain⟨u,hok,hF⟩:=Go.Lv.bind_some h;refine⟨c,s,rfl,?_,(Option.some.inj hF).symm⟩;unfold Es at hok;split at hok
        · rename_i h;have h':=of_decide_eq_true h;unfold Aa at h';omega
        · cases hok
      · cases h
    · cases h
  · cases h
theorem Arx{i:Nat}(h:i<17179869184):Af (i:Int) 0=(i:Int):=by
  show Go.Lv.wrap64 ((i:Int)+0)=i;rw[Int.add_zero];exact Go.Lv.Db F3 F3
theorem Aio{c:UInt8}{q:Nat}{s x:LB}{r:List LB}(h:Lu c q s=x::r)(hs:s.length<=17179869184):∃q',q=q'+1/\
    ((Bw (Fe s c) 0=true/\x=s/\r=[])\/ (Bw (Fe s c) 0=false/\∃s',s'.length<s.length/\Lu c q' s'=r/\Bi s 0 (Af (Fe s c) 0)=some x/\Bi s (Af (Fe s c) 1) (Aa s)=some s')):=by
  match q with
  |0=>cases h
  |q+1=>
    rw[Lu]at h;refine⟨q,rfl,?_⟩;rcases N2 s c with h1|⟨i,h1,h2⟩
    · rw[h1,if_pos F4]at h
      injection h with h3 h4
      exact .inl ⟨by rw[h1];rfl,h3.symm,h4.symm⟩
    · rw[h2,if_neg (by simp[Bw,GI.toZ])]at h
      injection h with h3 h4
      have e:Af (i:Int) 1=((i+1:Nat):Int):=by rw[qp F3 F3];omega
      refine .inr ⟨by rw[h2];simp[Bw,GI.toZ],s.drop (i+1),by simp;omega,?_,?_,?_⟩
      · rw[<-h4];rfl
      · rw[h2,Arx F3,ny F3,<-h3];rfl
      · rw[h2,e,Y4 F3]
theorem Aqa{c:UInt8}{q:Nat}{s:LB}(h:Lu c q s=[])(hq:s.length<q):False:=by
  match q with
  |q+1=>
    rw[Lu]at h;split at h<;>cases h
theorem Am5{u v w:PV}(h1:Zk u=true)(h2:Zk v=true)(h3:Zk w=true):∀x∈[u,v,w],Zk x=true:=λx hx=>by
  rcases List.mem_cons.1 hx with rfl|hx
  · exact h1
  rcases List.mem_cons.1 hx with rfl|hx
  · exact h2
  rcases List.mem_cons.1 hx with rfl|hx
  · exact h3
  · cases hx
theorem Ag5{B:Reg}{w:World}{T1 T2 T3:TypeId}{bs:List Nat}{v1 v2 v3:PV}(h:Boxes true B w [T1,T2,T3] bs [v1,v2,v3]):∃b1 b2 b3,bs=[b1,b2,b3]:=by
  cases h with
  |cons h1 h2 h3 h4 h5 h6=>
    cases h6 with
    |cons h1 h2 h3 h4 h5 h6=>
      cases h6 with
      |cons h1 h2 h3 h4 h5 h6=>cases h6;exact⟨_,_,_,rfl⟩
theorem Ahr{gl:List (Nat×List Value)}(hC:ConOk Tryz.prog gl 62 qJ)(hE:Ent Tryz.prog 138):ItOk Tryz.prog gl 138 ⟨[9,9,3],true, .str,V9⟩:=by
  refine⟨hE,λm B w bs us xs hB hbs WH hgl hF=>?_⟩;have hM:Tryz.prog.follows .mixedOrders=true:=F2
  have hT:Mw Tryz.prog (Wr gl):= .cons hC .nil;have hI:∀{R:Type},Lj (R:=R) Tryz.prog (Wr gl).gl (PY gl):=Zy hM hT Gq.nil 8;obtain⟨c,s,rfl,hlim,rfl⟩:=Adx (show V9 us=some xs from hF);intro l J Jx W hk hJ hJx hY h0;have hW:Boxes true B W [9,9,3] bs [vs [c],vs s,vi 0]:=jl hB hk WH hbs;obtain⟨L,it,hbi,hit⟩:=eu (λb hb=>Nat.lt_of_lt_of_le (hB b hb) hk.gr.le) (hgl.keep (λ_ h=>h) (λk hk'=>hk.same k (hB k hk') trivial) hk.gr) hW (Am5 rfl rfl rfl);obtain⟨b1,b2,b3,rfl⟩:=Ag5 WH;subst hit;have hm0:MemB gl [b1,b2,b3] B W (Tz l c s []) (II [Ig l, .pointer (some ⟨b1,0,none⟩), .pointer (some ⟨b2,0,none⟩), .pointer (some ⟨b3,0,none⟩)]):=X8 (y:=Ig l) rfl (λb hb=>Nat.lt_of_lt_of_le (hB b hb) hk.gr.le) (hgl.keep (λ_ h=>h) (λk hk'=>hk.same k (hB k hk') trivial) hk.gr) hbi;have yW:∀i V X Y,J i V X->KeepN (λk=>k∉ [b1,b2,b3]) X Y->J i (grown V X Y) Y:=λi V X Y h k=>hJ i V X Y h (k.Hk λc hc=>hc rfl);have hx0:∀X Y,Jx X->KeepN (λ_=>True) X Y->Jx Y:=λX Y h k=>hJx X Y h (k.Hk λ_ _=>trivial);refine callsIn_of_wp_marks Tryz.func138 Ahk trivial ?_ rfl;have ha0:=JS (fn:=Tryz.f138) (vs:=[Ig l, .pointer (some ⟨b1,0,none⟩), .pointer (some ⟨b2,0,none⟩), .pointer (some ⟨b3,0,none⟩)]) F2;have e0:(#[Ig l]++K4 [b1,b2,b3]:Array Value)=[Ig l, .pointer (some ⟨b1,0,none⟩), .pointer (some ⟨b2,0,none⟩), .pointer (some ⟨b3,0,none⟩)].toArray:=by simp[K4]
  rw[e0]
  revert ha0
  generalize({tmps:=_,defers:=[]}:Act)=xL;rw[Ang];intro ha0;generalize hxs:Lu c (s.length+1) s=xs at hY⊢;refine WK (bs:=[b1,b2,b3]) hM hT hI (J:=J 0) (yW 0) .d [0,1,2,3] [] (Ao4 gl l c s) rfl rfl hm0 h0 ha0 λσ0 V0 w0 a0 f0 j0 m0=>?_;refine wpIn_seq (wpIn_block (xS (xs.length+1) (λq a' w'=>∃(i p:Nat) (s':LB) (V:Reg) (σ:Env),q+i=xs.length+1/\i<=xs.length/\Fits [] 52 a' σ/\J i V w'/\MemB gl [b1,b2,b3] V w' (Tz l c s' []) σ/\Lu c p s'=xs.drop i/\s'.length<=17179869184/\s'.length<p) ?_ ?_
    ⟨0,s.length+1,s,V0,σ0,rfl,Nat.zero_le _,f0,j0,m0,hxs,hlim,Nat.lt_succ_self _⟩))
  · rintro a' w' ⟨i,p,s',V,σ,hq,hi,_⟩
    omega
  rintro q a' w' ⟨i,p,s',V,σ,hq,hi,hf,hj,hm,hp,hl',hlt'⟩;cases hd:xs.drop i with
  |nil=>rw[hd]at hp;exact(Aqa hp hlt').elim
  |cons x r=>
    rw[hd]at hp;have hx:xs[i]? =some x:=by
      have:=congrArg List.head? hd;rwa [List.head?_drop]at this
    have hi':i<xs.length:=(List.getElem?_eq_some_iff.1 hx).1;have hr:xs.drop (i+1)=r:=by
      have:=congrArg List.tail hd;rwa [List.tail_drop]at this
    obtain⟨p',rfl,hcase⟩:=Aio hp hl';refine wpIn_block ?_;refine WK (bs:=[b1,b2,b3]) hM hT hI (J:=J i) (yW i) .d [0,1,2,3,7] [] ((Apa gl l c s').trans (by rw[show strings_Index s' [c]=some (Fe s' c)from rfl];rfl)) rfl rfl hm hj hf λσ1 V1 w1 a1 f1 j1 m1=>?_;rcases hcase with⟨g1,rfl,rfl⟩|⟨g1,s2,g2,g3,g4,g5⟩
    · refine wpIn_seq (wpIn_mono (UN (bs:=[b1,b2,b3]) hM hT hI (J:=J i) (yW i) (an:= .d) (lv:=[0,1,2,3,7]) (co:=[]) ((rJ gl l c x (Fe x c)).trans (by rw[g1];rfl)) rfl rfl m1 j1 f1) ?_)
      rintro e ac wc ⟨he,σc,Vc,fc,jc,mc⟩;have hend:xs.length=i+1:=by
        have:=List.drop_eq_nil_iff.1 hr;omega
      cases e with
      |exit id=>
        obtain rfl:id=2:=by simpa [Ui]using he
        refine wpIn_region_lit ?_;refine uJ (T:=Wr gl) (bs:=[b1,b2,b3]) (l2:=[yL]) hT hI (J:=J i) (yW i) [0,1,2,3,49,50] F2 (Anb gl l c x (Fe x c)) rfl rfl mc jc fc λσ4 V4 w4 a4 f4 j4 m4=>?_;have v49:σ4 49=Ig l:=by
          obtain⟨L4,this⟩:=m4.val (t:=49) (p:= .cst (Ig l)) F7 rfl;exact(show [σ4 49]=[Ig l]/\ _ from this).1|>List.head_eq_of_cons_eq
        have v50:Fp V4 w4 [] (vs x) (σ4 50):=by
          obtain⟨L4,this⟩:=m4.val (t:=50) (p:=vs x) F7 rfl;exact(show [σ4 50]=[sv x]from this)
        refine sK Ap7 Aos F4 (λc hc=>by rw[rF]at hc;cases hc) (NX rF v49 rfl) (hY i V4 w4 (σ4 50) hi' j4 (λx' hx'=>by rw[hx]at hx';cases hx';exact v50)) ?_ f4;rintro e w5 (⟨rfl,j5,_⟩|⟨rfl,jx⟩)
        · exact⟨_,rfl,λa5 f5=>Wt F2 f5 (.inl ⟨_,by rw[hend];exact j5⟩)⟩
        · exact⟨_,rfl,λa5 f5=>Wt F2 f5 (.inr jx)⟩
      |normal=>simp[Ui]at he
      |ret=>simp[Ui]at he
      |goto l=>cases he
      |panic c=>cases he
      |outgrown=>cases he
    · refine WK (bs:=[b1,b2,b3]) hM hT hI (J:=J i) (yW i) .d [0,1,2,3,7] [] ((rJ gl l c s' (Fe s' c)).trans (by rw[g1];rfl)) rfl rfl m1 j1 f1 λσ2 V2 w2 a2 f2 j2 m2=>?_
      refine WK (bs:=[b1,b2,b3]) hM hT hI (J:=J i) (yW i) .d [0,1,2,3,7,8] [] ((Aoh gl l c s' (Fe s' c)).trans (by rw[g4];rfl)) rfl rfl m2 j2 f2 λσ3 V3 w3 a3 f3 j3 m3=>?_;refine wpIn_seq (wpIn_seq (wpIn_region_lit ?_));refine uJ (T:=Wr gl) (bs:=[b1,b2,b3]) hT hI (J:=J i) (yW i) [0,1,2,3,7,39,40] F2 (Ap5 gl l c s' x (Fe s' c)) rfl rfl m3 j3 f3 λσ4 V4 w4 a4 f4 j4 m4=>?_;have v39:σ4 39=Ig l:=by
        obtain⟨L4,this⟩:=m4.val (t:=39) (p:= .cst (Ig l)) F7 rfl;exact(show [σ4 39]=[Ig l]/\ _ from this).1|>List.head_eq_of_cons_eq
      have v40:Fp V4 w4 [] (vs x) (σ4 40):=by
        obtain⟨L4,this⟩:=m4.val (t:=40) (p:=vs x) F7 rfl;exact(show [σ4 40]=[sv x]from this)
      refine sK Ann Ao9 F4 (λc hc=>by rw[sH]at hc;cases hc) (NX sH v39 rfl) (hY i V4 w4 (σ4 40) hi' j4 (λx' hx'=>by rw[hx]at hx';cases hx';exact v40)) ?_ f4;rintro e w5 (⟨rfl,j5,hgr,hsame⟩|⟨rfl,jx⟩)
      · refine⟨_,rfl,λa5 f5=>?_⟩
        have m5:=(m4.round hgr λk hk'=>hsame k (hk'.imp id λh h'=>h' rfl h)).set (d:=41) (p:=vt true) (v:= .bool true) rfl (λL=>show [Value.bool true]=[Value.bool true]from rfl);refine uJ (T:=Wr gl) (l2:=[]) (bs:=[b1,b2,b3]) hT hI (J:=J (i+1)) (yW (i+1)) [0,1,2,3,7,42] F2 (Anu gl l c s' x (Fe s' c) true) rfl rfl m5 j5 f5 λσ6 V6 w6 a6 f6 j6 m6=>?_;refine wpIn_mono (UN (bs:=[b1,b2,b3]) hM hT hI (J:=J (i+1)) (yW (i+1)) (an:= .d) (lv:=[0,1,2,3,7]) (co:=[]) (Am9 gl l c s' (Fe s' c) false) rfl rfl m6 j6 f6) ?_;rintro e ac wc ⟨he,σc,Vc,fc,jc,mc⟩;cases e with
        |normal=>
          refine wpIn_mono (UN (bs:=[b1,b2,b3]) hM hT hI (J:=J (i+1)) (yW (i+1)) (an:= .d) (lv:=[0,1,2,3]) (co:=[]) ((Anw gl l c s' (Fe s' c)).trans (by rw[g5];rfl)) rfl rfl mc jc fc) ?_;rintro e ad wd ⟨he,σd,Vd,fd,jd,md⟩;cases e with
          |normal=>exact⟨i+1,p',s2,Vd,σd,F3,F3,fd,jd,md,by rw[g3,hr],F3,F3⟩
          |ret=>simp[Ui]at he
          |exit id=>simp[Ui]at he
          |goto l=>cases he
          |panic c=>cases he
          |outgrown=>cases he
        |ret=>simp[Ui]at he
        |exit id=>simp[Ui]at he
        |goto l=>cases he
        |panic c=>cases he
        |outgrown=>cases he
      · refine⟨_,rfl,λa5 f5=>?_⟩
        have hT0:Mw Tryz.prog ⟨[],[],false,false⟩:= .nil;have hI0:∀{R:Type},Lj (R:=R) Tryz.prog [] (Qn Tryz.prog ⟨[],[],false,false⟩ 8 []):=Zy hM hT0 Gq.nil 8;have m5:MemI [] (λ_=>False) w5 ⟨[(41,vt false)],[],[]⟩ (Lq σ4 41 (.bool false)):=⟨λ_ h=>h.elim,rfl,rfl,(λp hp=>by
          rcases List.mem_cons.1 hp with rfl|hp
          · exact Fy.put rfl (show [Value.bool false]=[Value.bool false]from rfl)
          · cases hp),λp hp=>by cases hp⟩
        refine qP (T:=⟨[],[],false,false⟩) (l2:=[]) hT0 hI0 (J:=λ_ W=>Jx W) (λ_ X Y h k=>hx0 X Y h k) [42] F2 Akn rfl m5 jx f5 λσb Vb wb ab fb jb mb=>?_;refine wpIn_mono (WO (T:=⟨[],[],false,false⟩) hM hT0 hI0 (J:=λ_ W=>Jx W) (λ_ X Y h k=>hx0 X Y h k) (an:= .d) (lv:=[]) (co:=[]) Ak3 rfl mb jb fb) ?_;rintro e ac wc ⟨he,σc,Vc,fc,jc,mc⟩;cases e with
        |ret=>exact Wt F2 fc (.inr jc)
        |normal=>simp[Ui]at he
        |exit id=>simp[Ui]at he
        |goto l=>cases he
        |panic c=>cases he
        |outgrown=>cases he
noncomputable def FF(gl:List (Nat×List Value)):Tab:=⟨[],gl,false,false⟩
noncomputable abbrev iB{R:Type}(gl:List (Nat×List Value)):XV R:=Qn Tryz.prog (FF gl) 8 []
noncomputable def uU:Code:=cA (fB Tryz.f191)
noncomputable def a!:Code:=cA (cA (cB (fB Tryz.f191)))
noncomputable def X7:Code:=cA (cA (cB a!))
noncomputable def uD:Code:=cA a!
noncomputable def uV:Code:=cB (cB a!)
noncomputable def vI:Code:=cA X7
noncomputable def mU:List Oper:=cO (cA (cB X7))
noncomputable def XW:Code:=cB (cB X7)
noncomputable def oR:Oper:=oAt mU 10
noncomputable def yS:Oper:=oAt mU 11
theorem Ah9:Tryz.f191.body=some (.seq uU (.block 0 (.loop (.seq uD (.seq (.block 1 (.seq vI (.seq (.region 4 (mU.take 10++oR::[yS]).toArray false) XW))) uV))))):=F2
theorem An5:Tryz.f191.ntmps=31:=F2
theorem Apw:oR.guard=none:=F2
theorem Aot:oR.dst=some 29:=F2
theorem qT:oR.op= .call ⟨.value (.tmp 19), #[.tmp 28], #[29]⟩:=F2
abbrev CI(y:Nat)(l:LB)(sl:Slots):S:=⟨[(0, .cst (Ig y)),(1, .rptr (vb l)),(2, .rptr (vi 2))]++sl,[],[]⟩
theorem Ap2(gl:List (Nat×List Value))(y:Nat)(l:LB):ex Tryz.prog (FF gl) (iB gl) 31 uU .d (kC [0,1,2,4] []) (CI y l [])=some (0,CI y l [(4,vi 0)]):=F2
theorem tK(gl:List (Nat×List Value))(y:Nat)(l:LB)(i:Int):ex Tryz.prog (FF gl) (iB gl) 31 uD .d (kC [0,1,2,4] []) (CI y l [(4,vi i)])=if Bw i (Aa l)=true then some (0,CI y l [(4,vi i)])else some (2,CI y l [(4,vi i)]):=F2
theorem Anr(gl:List (Nat×List Value))(y:Nat)(l:LB)(i:Int):ex Tryz.prog (FF gl) (iB gl) 31 vI .d (kC [0,1,2,4,5] []) (CI y l [(4,vi i)])=Option.bind (Bi l i (Aa l)) λt=>some (0,CI y l [(4,vi i),(5,vi (Gk 2 (Aa t)))]):=F2
theorem Ao0(gl:List (Nat×List Value))(y:Nat)(l:LB)(i e:Int):EW Tryz.prog (FF gl) (iB gl) 31 (mU.take 10++oR::[yS]).toArray (mU.take 10) (CI y l [(4,vi i),(5,vi e)]) (cnP [0,1,2,4,19,28] [] 0)=
    Option.bind (Es (decide (Af i e<=Af i e/\Af i e<=Aa l))) λ_=>Option.bind (Bi l i (Af i e)) λx=>some (0,CI y l [(4,vi i),(19, .cst (Ig y)),(28,vb x)]):=F2
theorem Ao2(gl:List (Nat×List Value))(y:Nat)(l:LB)(i:Int)(x:LB)(t:Bool):EW Tryz.prog (FF gl) (iB gl) 31 (mU.take 10++oR::[yS]).toArray [yS] ⟨i! (CI y l [(4,vi i),(19, .cst (Ig y)),(28,vb x)]).sl 29 (vt t),[],[]⟩ (cnP [0,1,2,4,30] [] 0)=some (0,CI y l [(4,vi i),(30,vt (!t))]):=F2
theorem Apl(gl:List (Nat×List Value))(y:Nat)(l:LB)(i:Int)(t:Bool):ex Tryz.prog (FF gl) (iB gl) 31 XW .d (kC [0,1,2,4] []) (CI y l [(4,vi i),(30,vt t)])=if t=true then some (1,CI y l [(4,vi i)])else some (0,CI y l [(4,vi i)]):=F2
theorem An3(gl:List (Nat×List Value))(y:Nat)(l:LB)(i:Int):ex Tryz.prog (FF gl) (iB gl) 31 uV .d (kC [0,1,2,4] []) (CI y l [(4,vi i)])=some (0,CI y l [(4,vi (Af i 2))]):=F2
theorem Aln:EW Tryz.prog ⟨[],[],false,false⟩ (Qn Tryz.prog ⟨[],[],false,false⟩ 8 []) 31 (mU.take 10++oR::[yS]).toArray [yS] ⟨[(29,vt false)],[],[]⟩ (cnP [30] [] 0)=some (0,⟨[(30,vt true)],[],[]⟩):=F2
theorem Als:ex Tryz.prog ⟨[],[],false,false⟩ (Qn Tryz.prog ⟨[],[],false,false⟩ 8 []) 31 XW .d (kC [] []) ⟨[(30,vt true)],[],[]⟩=some (1,⟨[],[],[]⟩):=F2
def qm:List PV->Option (List LB)
  |[.val (.list (.int .u8)) l, .val (.int .i64) n]=>if n=2 then Y2 l else none
  |_=>none
theorem Aei{us:List PV}{xs:List LB}(h:qm us=some xs):∃l,us=[vb l,vi 2]/\l.length<=17179869184/\xs=Uj l:=by
  unfold qm at h;split at h
  · rename_i l n
    split at h
    · rename_i hn
      subst hn;obtain⟨u,hok,hF⟩:=Go.Lv.bind_some h;refine⟨l,rfl,?_,(Option.some.inj hF).symm⟩;unfold Es at hok;split at hok
      · rename_i h;have h':=of_decide_eq_true h;unfold Aa at h';omega
      · cases hok
    · cases h
  · cases h
theorem b?{n e:Nat}(h1:n<=17179869184)(h2:e<=2):Af (n:Int) (e:Int)=((n+e:Nat):Int):=by
  show Go.Lv.wrap64 ((n:Int)+(e:Int))=_;rw[Go.Lv.Db F3 F3];omega
theorem Aik{l x:LB}{n:Nat}{r:List LB}(h:Uj (l.drop n)=x::r)(hl:l.length<=17179869184):n<l.length/\Uj (l.drop (n+2))=r/\Bi l (n:Int) (Aa l)=some (l.drop n)/\
    ∃e:Int,Gk 2 (Aa (l.drop n))=e/\Es (decide (Af (n:Int) e<=Af (n:Int) e/\Af (n:Int) e<=Aa l))=some ()/\Bi l (n:Int) (Af (n:Int) e)=some x:=by
  have key:∀e:Nat,e<=2->n+e<=l.length->0<e-> (l.drop n).take e=x->Gk 2 (Aa (l.drop n))=(e:Int)->Uj (l.drop (n+2))=r->n<l.length/\Uj (l.drop (n+2))=r/\Bi l (n:Int) (Aa l)=some (l.drop n)/\
      ∃e:Int,Gk 2 (Aa (l.drop n))=e/\Es (decide (Af (n:Int) e<=Af (n:Int) e/\Af (n:Int) e<=Aa l))=some ()/\Bi l (n:Int) (Af (n:Int) e)=some x:=by
    intro e h1 h2 h3 h4 h5 h6;refine⟨F3,h6,Y4 F3,e,h5,?_,?_⟩
    · rw[b? F3 h1]
      unfold Es Aa;rw[if_pos (decide_eq_true ⟨Int.le_refl _,F3⟩)]
    · rw[b? F3 h1]
      unfold Bi;rw[if_pos ⟨F3,F3,F3⟩,<-h4];simp[List.drop_take];omega
  have hdd:l.drop (n+2)=(l.drop n).drop 2:=by simp[Nat.add_comm]
  match hd:l.drop n,h with
  |[],h=>cases h
  |[a],h=>
    have hlen:l.length=n+1:=by have:=congrArg List.length hd;simp at this;omega
    injection h with h3 h4
    refine hd▸key 1 F3 F3 F3 (by rw[hd];exact h3) (by rw[hd];rfl) (by rw[hdd,hd];exact h4)
  |a::b::t,h=>
    have hlen:l.length=n+(t.length+2):=by have:=congrArg List.length hd;simp at this;omega
    injection h with h3 h4
    refine hd▸key 2 F3 F3 F3 (by rw[hd];exact h3) (by rw[hd];simp[Gk,Aa,GI.toZ];omega) (by rw[hdd,hd];exact h4)
theorem Aip{l:LB}(h:Uj l=[]):l=[]:=by
  match l with
  |[]=>rfl
  |[_]=>cases h
  |_::_::_=>cases h
theorem Aol{o:Bool}{B:Reg}{w:World}{T1 T2:TypeId}{bs:List Nat}{v1 v2:PV}(h:Boxes o B w [T1,T2] bs [v1,v2]):∃b1 b2 c1 c2,bs=[b1,b2]/\w.heap[b1]? =some (.cells c1.toArray T1 (0,0))/\Au B w [] v1 c1/\ (o=false->B b1)/\w.heap[b2]? =some (.cells c2.toArray T2 (0,0))/\Au B w [] v2 c2/\ (o=false->B b2):=by
  cases h with
  |cons h1 h2 h3 h4 h5 h6=>
    cases h6 with
    |cons k1 k2 k3 k4 k5 k6=>cases k6;exact⟨_,_,_,_,rfl,h1,h2,h3,k1,k2,k3⟩
theorem Ai0{gl:List (Nat×List Value)}(hE:Ent Tryz.prog 191):ItOk Tryz.prog gl 191 ⟨[29,3],false, .list (.int .u8),qm⟩:=by
  refine⟨hE,λm B w bs us xs hB hbs WH hgl hF=>?_⟩;have hM:Tryz.prog.follows .mixedOrders=true:=F2
  have hT:Mw Tryz.prog (FF gl):= .nil;have hI:∀{R:Type},Lj (R:=R) Tryz.prog (FF gl).gl (iB gl):=Zy hM hT Gq.nil 8;obtain⟨ls,rfl,hlim,rfl⟩:=Aei (show qm us=some xs from hF);intro l J Jx W hk hJ hJx hY h0;obtain⟨b1,b2,c1,c2,rfl,k1,k2,k3,k4,k5,k6⟩:=Aol WH
  replace k3:=k3 rfl
  replace k6:=k6 rfl
  have yW:∀i V X Y,J i V X->KeepN (λ_=>True) X Y->J i (grown V X Y) Y:=λi V X Y h k=>hJ i V X Y h (k.Hk λ_ _=>trivial);have hx0:∀X Y,Jx X->KeepN (λ_=>True) X Y->Jx Y:=λX Y h k=>hJx X Y h (k.Hk λ_ _=>trivial);have hm0:MemI gl B W (CI l ls []) (II [Ig l, .pointer (some ⟨b1,0,none⟩), .pointer (some ⟨b2,0,none⟩)]):=by
    have same:∀k,B k->W.heap[k]? =w.heap[k]? :=λk hk'=>hk.same k (hB k hk') trivial;refine⟨λk hk'=>Nat.lt_of_lt_of_le (hB k hk') hk.gr.le,rfl,rfl,λp hp=>?_,hgl.keep (λ_ h=>h) same hk.gr⟩;rcases List.mem_cons.1 hp with rfl|hp
    · exact(show _/\ _ from⟨rfl,rfl⟩)
    rcases List.mem_cons.1 hp with rfl|hp
    · exact⟨_,c1,rfl,⟨b1,0,c1.toArray,_,_,rfl,k3,(same b1 k3).trans k1,λi _=>by simp⟩,Au.step (λ_ h=>h) same (.refl []) k2⟩
    rcases List.mem_cons.1 hp with rfl|hp
    · exact⟨_,c2,rfl,⟨b2,0,c2.toArray,_,_,rfl,k6,(same b2 k6).trans k4,λi _=>by simp⟩,Au.step (λ_ h=>h) same (.refl []) k5⟩
    · cases hp
  refine callsIn_of_wp_marks Tryz.func191 Ah9 trivial ?_ rfl;have ha0:=JS (fn:=Tryz.f191) (vs:=[Ig l, .pointer (some ⟨b1,0,none⟩), .pointer (some ⟨b2,0,none⟩)]) F2;have e0:(#[Ig l]++K4 [b1,b2]:Array Value)=[Ig l, .pointer (some ⟨b1,0,none⟩), .pointer (some ⟨b2,0,none⟩)].toArray:=by simp[K4]
  rw[e0]
  revert ha0
  generalize({tmps:=_,defers:=[]}:Act)=xL;rw[An5];intro ha0;generalize hxs:Uj ls=xs at hY⊢;refine Z0 hM hT hI (J:=J 0) (yW 0) .d [0,1,2,4] [] (Ap2 gl l ls) rfl hm0 h0 ha0 λσ0 V0 w0 a0 f0 j0 m0=>?_;refine wpIn_block (xS (xs.length+1) (λq a' w'=>∃(i:Nat) (V:Reg) (σ:Env),q+i=xs.length+1/\i<=xs.length/\Fits [] 31 a' σ/\J i V w'/\MemI gl V w' (CI l ls [(4,vi ((2*i:Nat):Int))]) σ/\Uj (ls.drop (2*i))=xs.drop i) ?_ ?_
    ⟨0,V0,σ0,rfl,Nat.zero_le _,f0,j0,m0,hxs⟩)
  · rintro a' w' ⟨i,V,σ,hq,hi,_⟩
    omega
  rintro q a' w' ⟨i,V,σ,hq,hi,hf,hj,hm,hp⟩;cases hd:xs.drop i with
  |nil=>
    rw[hd]at hp;have hlen:xs.length<=i:=List.drop_eq_nil_iff.1 hd;have hle:=List.drop_eq_nil_iff.1 (Aip hp);refine wpIn_seq (wpIn_mono (WO hM hT hI (J:=J i) (yW i) (an:= .d) (lv:=[0,1,2,4]) (co:=[]) ((tK gl l ls _).trans (by rw[show Bw ((2*i:Nat):Int) (Aa ls)=false from decide_eq_false (show ¬((2*i:Nat):Int)<(ls.length:Int) by omega)];rfl)) rfl hm hj hf) ?_);rintro e ac wc ⟨he,σc,Vc,fc,jc,mc⟩;cases e with
    |exit id=>
      obtain rfl:id=0:=by simpa [Ui]using he
      exact Wt F2 fc (.inl ⟨Vc,by rw[show xs.length=i by omega];exact jc⟩)
    |normal=>simp[Ui]at he
    |ret=>simp[Ui]at he
    |goto l=>cases he
    |panic c=>cases he
    |outgrown=>cases he
  |cons x r=>
    rw[hd]at hp;have hx:xs[i]? =some x:=by
      have:=congrArg List.head? hd;rwa [List.head?_drop]at this
    have hi':i<xs.length:=(List.getElem?_eq_some_iff.1 hx).1;have hr:xs.drop (i+1)=r:=by
      have:=congrArg List.tail hd;rwa [List.tail_drop]at this
    obtain⟨g1,g2,g3,en,g4,g5,g6⟩:=Aik hp hlim;refine Z0 hM hT hI (J:=J i) (yW i) .d [0,1,2,4] [] ((tK gl l ls _).trans (by rw[show Bw ((2*i:Nat):Int) (Aa ls)=true from decide_eq_true (show((2*i:Nat):Int)<(ls.length:Int) by omega)];rfl)) rfl hm hj hf λσ1 V1 w1 a1 f1 j1 m1=>?_;refine wpIn_seq (wpIn_block ?_);refine Z0 hM hT hI (J:=J i) (yW i) .d [0,1,2,4,5] [] ((Anr gl l ls _).trans (by rw[g3];rfl)) rfl m1 j1 f1 λσ2 V2 w2 a2 f2 j2 m2=>?_;rw[g4]at m2;refine wpIn_seq (wpIn_region_lit ?_);refine qP (T:=FF gl) hT hI (J:=J i) (yW i) [0,1,2,4,19,28] F2 ((Ao0 gl l ls _ en).trans (by rw[g5,g6];rfl)) rfl m2 j2 f2 λσ4 V4 w4 a4 f4 j4 m4=>?_;have v19:σ4 19=Ig l:=by
      have:=m4.val (t:=19) (p:= .cst (Ig l)) F7 rfl;exact(show [σ4 19]=[Ig l]/\ _ from this).1|>List.head_eq_of_cons_eq
    have v28:Fp V4 w4 [] (vb x) (σ4 28):=(PU rfl).1 (m4.val (t:=28) (p:=vb x) F7 rfl);refine sK Apw Aot F4 (λc hc=>by rw[qT]at hc;cases hc) (NX qT v19 rfl) (hY i V4 w4 (σ4 28) hi' j4 (λx' hx'=>by rw[hx]at hx';cases hx';exact v28)) ?_ f4;rintro e w5 (⟨rfl,j5,hgr,hsame⟩|⟨rfl,jx⟩)
    · refine⟨_,rfl,λa5 f5=>?_⟩
      have m5:=(m4.round hgr λk hk'=>hsame k (.inl hk')).set (d:=29) (p:=vt true) (v:= .bool true) rfl (show [Value.bool true]=[Value.bool true]from rfl);refine qP (T:=FF gl) (l2:=[]) hT hI (J:=J (i+1)) (yW (i+1)) [0,1,2,4,30] F2 (Ao2 gl l ls _ x true) rfl m5 j5 f5 λσ6 V6 w6 a6 f6 j6 m6=>?_;refine wpIn_mono (WO hM hT hI (J:=J (i+1)) (yW (i+1)) (an:= .d) (lv:=[0,1,2,4]) (co:=[]) (Apl gl l ls _ false) rfl m6 j6 f6) ?_;rintro e ac wc ⟨he,σc,Vc,fc,jc,mc⟩;cases e with
      |normal=>
        refine wpIn_mono (WO hM hT hI (J:=J (i+1)) (yW (i+1)) (an:= .d) (lv:=[0,1,2,4]) (co:=[]) (An3 gl l ls _) rfl mc jc fc) ?_;rintro e ad wd ⟨he,σd,Vd,fd,jd,md⟩;cases e with
        |normal=>
          rw[show Af ((2*i:Nat):Int) 2=((2*(i+1):Nat):Int)from b? (n:=2*i) (e:=2) F3 F3]at md;exact⟨i+1,Vd,σd,F3,F3,fd,jd,md,by rw[hr];exact g2⟩
        |ret=>simp[Ui]at he
        |exit id=>simp[Ui]at he
        |goto l=>cases he
        |panic c=>cases he
        |outgrown=>cases he
      |ret=>simp[Ui]at he
      |exit id=>simp[Ui]at he
      |goto l=>cases he
      |panic c=>cases he
      |outgrown=>cases he
    · refine⟨_,rfl,λa5 f5=>?_⟩
      have hT0:Mw Tryz.prog ⟨[],[],false,false⟩:= .nil;have hI0:∀{R:Type},Lj (R:=R) Tryz.prog [] (Qn Tryz.prog ⟨[],[],false,false⟩ 8 []):=Zy hM hT0 Gq.nil 8;have m5:MemI [] (λ_=>False) w5 ⟨[(29,vt false)],[],[]⟩ (Lq σ4 29 (.bool false)):=⟨λ_ h=>h.elim,rfl,rfl,(λp hp=>by
        rcases List.mem_cons.1 hp with rfl|hp
        · exact Fy.put rfl (show [Value.bool false]=[Value.bool false]from rfl)
        · cases hp),λp hp=>by cases hp⟩
      refine qP (T:=⟨[],[],false,false⟩) (l2:=[]) hT0 hI0 (J:=λ_ W=>Jx W) (λ_ X Y h k=>hx0 X Y h k) [30] F2 Aln rfl m5 jx f5 λσb Vb wb ab fb jb mb=>?_;refine wpIn_mono (WO (T:=⟨[],[],false,false⟩) hM hT0 hI0 (J:=λ_ W=>Jx W) (λ_ X Y h k=>hx0 X Y h k) (an:= .d) (lv:=[]) (co:=[]) Als rfl mb jb fb) ?_;rintro e ac wc ⟨he,σc,Vc,fc,jc,mc⟩;cases e with
      |ret=>exact Wt F2 fc (.inr jc)
      |normal=>simp[Ui]at he
      |exit id=>simp[Ui]at he
      |goto l=>cases he
      |panic c=>cases he
      |outgrown=>cases he
theorem tD:∀(q n:Nat) (a:LB),n<10^q->0<q->gN q n a=Lib.decDigits n++a:=by
  intro q
  induction q with
  |zero=>intro n a _ h;omega
  |succ q ih=>
    intro n a hn _;show(if n<10 then UInt8.ofNat (48+n)::a else gN q (n/10) (UInt8.ofNat (48+n %10)::a))=_;rw[Lib.decDigits];by_cases h:n<10
    · rw[if_pos h,dif_pos h];rfl
    · have hq:0<q:=by
        rcases Nat.eq_zero_or_pos q with rfl|h'
        · simp at hn;omega
        · exact h'
      rw[if_neg h,dif_neg h,ih _ _ (by rw[Nat.pow_succ]at hn;omega) hq];simp
theorem pK{n:Int}{y:LB}(h:strconv_Itoa n=some y):(-9223372036854775808<=n/\n<=9223372036854775807)/\y=Lib.itoa n:=by
  unfold strconv_Itoa at h;split at h
  case isFalse=>cases h
  rename_i hd;have hr:=of_decide_eq_true hd;refine⟨hr,?_⟩;rw[<-Option.some.inj h];unfold Lib.itoa;split
  · rw[tD _ _ _ F3 F3,List.append_nil]
  · rw[tD _ _ _ F3 F3,List.append_nil]
theorem rX{w:World}{T:TypeId}{fr:Nat×Nat}{nm:String}(hn:Tryz.prog.globalNamed nm=some 10)(h:w.heap[10]? =some (.cells (Lib.pow10Tab.map λz=>Value.int .u64 z).toArray T fr)):Lib.TabIs Tryz.prog w nm .u64 Lib.pow10Tab:=by
  unfold Lib.TabIs World.var?;rw[hn];simp only[Option.bind_some,h]
noncomputable def Nu:Con:=⟨[.lf (.int .i64) none],[.lf .str none],strconv_Itoa⟩
theorem Ab1{gl:List (Nat×List Value)}(hE:Ent Tryz.prog 99)(hG:(10,Lib.pow10Tab.map λz=>Value.int .u64 z)∈gl):ConOk Tryz.prog gl 99 Nu:=by
  refine⟨hE,?_⟩;rintro R N w L0 vs ps n y hargs hlen hit Xd hvs hgl hy;obtain rfl:=Option.some.inj (show some [PV.val (.int .i64) n]=some ps from hargs);obtain⟨v0,_,rfl,h0,rfl⟩:=hvs;obtain rfl:v0= .int .i64 n:=by cases(show [v0]=[.int .i64 n]from h0);rfl
  obtain⟨hr,hy2⟩:=pK (show strconv_Itoa n=some y from hy);obtain⟨q1,q2,T,fr,q3⟩:=hgl _ hG;refine(Any.strconv_Itoa Tryz.wE n hr.1 hr.2 w (rX F2 q3)).mono ?_;rintro e w' ⟨rfl,k,os,rfl⟩;subst hy2;refine⟨[sv (Lib.itoa n)],rfl,Rf.uI (e:= .str) ⟨λb hb _=>?_,⟨?_,rfl,rfl,rfl⟩⟩ (λB=>rfl) rfl⟩
  · show(w.heap++os)[b]? =_
    rw[Array.getElem?_append_left hb]
  · show w.heap.size<= (w.heap++os).size
    simp
theorem Axq{W W':World}(h:KeepN (λ_=>True) W W'):W.grownBy W' none:=⟨h.gr.os,h.gr.tape,h.gr.output,h.gr.le,λk hk _=>h.same k hk trivial⟩
theorem p?{F:Fence}{n:Nat}{P:Program}{Q:Exit->Act->World->Prop}{a:Act}{w:World}{c:Code}(m:Nat)(I:Nat->Act->World->Prop)(h0:∀a w,¬I 0 a w)
    (hs:∀q a w,I (q+1) a w->c.wpIn F n P (Exit.then (I q) Q) a w) (h:I m a w):(Code.loop c).wpIn F n P Q a w:=by
  refine wpIn_loop_rounds m ?_
  induction m generalizing a w with
  |zero=>exact absurd h (h0 a w)
  |succ m ih=>
    rw[roundsIn_succ];refine wpIn_mono (hs m a w h) λe a' w' hh=>?_;cases e<;>first|exact ih hh|exact hh
theorem Auh{α:Type}{c:Prop} [Decidable c]{a b y:α}(h:(if c then a else b)=y)(hc:¬c):b=y:=by rw[if_neg hc]at h;exact h
theorem Apg{A:Reg}{w:World}{v:Value}{k:Kd}{l y:List k.T}{a:Int}(h:Aq A w (.list (.int k)) l [v])(hc:Bi l a (Aa l)=some y):
    ∃(p:Option Addr) (len cap m:Nat),v= .slice p len cap/\a=(m:Int)/\m<=len/\len<=cap/\Aq A w (.list (.int k)) y [.slice (if cap=m then p else p.map (·.add m)) (len-m) (cap-m)]:=by
  obtain⟨v1,c0,e1,h1,h2⟩:=h;cases e1;obtain⟨p,len,cap,rfl,g1,g2,g3,g4⟩:=h1;obtain⟨k1,k2,k3,k4,rfl⟩:=IE hc;simp only[ET.size,Nat.mul_one]at g1 g4;have hll:=h2.len (z:=1) λx c h=>by rw[show c=_ from h];rfl
  have hln:l.length=len:=F3
  have hto:(Aa l).toNat=len:=by simp[Aa,hln]
  rw[hto]at k3⊢;refine⟨p,len,cap,a.toNat,rfl,k1,k3,g2,_,c0.drop a.toNat,rfl,⟨_,_,_,rfl,?_,F3,λhp=>?_,λhcap=>?_⟩,?_⟩
  · simp only[ET.size,List.length_drop];omega
  · split at hp
    · omega
    · rename_i hne
      cases p with
      |none=>have:=g3 rfl;omega
      |some a=>cases hp
  · rw[if_neg F3]
    obtain⟨b,off,arr,T,fr,rfl,e2,e3,e4,e5⟩:=g4 F3;refine⟨b,off+a.toNat,arr,T,fr,by simp[Addr.add],e2,e3,by simp only[ET.size];omega,λi hi=>?_⟩;simp only[ET.size]at hi;rw[List.getElem?_drop,<-e5 (a.toNat+i) F3,Nat.add_assoc]
  · have:=Bs.drop (z:=1) (λx c h=>by rw[show c=_ from h];rfl) a.toNat h2
    rw[Nat.mul_one]at this;rw[List.take_of_length_le F3];exact this
theorem Atn{P:Program}{f:Nat}{gl:List (Nat×List Value)}{F:List UInt8->Option (Int×Int)}(hC:ConOk P gl f ⟨[.lf (.list (.int .u8)) none],[.lf (.int .i64) none, .lf (.int .i64) none],F⟩){A:Reg}{W:World}{v:Value}{s:List UInt8}{r:Int×Int}
    (hv:Aq A W (.list (.int .u8)) s [v]) (hgl:GlOk gl A W) (h:F s=some r):Calls P f #[v] W λe W'=>e= .returned (.tuple #[.int .i64 r.1, .int .i64 r.2])/\KeepN (λ_=>True) W W':=by
  have hv':Aq (λ_=>True/\True) W (.list (.int .u8)) s [v]:=Aq.step (λ_ _=>⟨trivial,trivial⟩) (λ_ _=>rfl) hv;refine(hC.ok (λ_=>True) (λ_=>True) W [] [v] [.val (.list (.int .u8)) s] s r rfl rfl (λi a m _ h=>by simp at h) trivial ⟨v,[],rfl,hv',rfl⟩ (λp hp=>⟨(hgl p hp).1,trivial,(hgl p hp).2.2⟩) h).mono ?_;rintro e w' ⟨us,rfl,hk,A1,L1,g1,g2,g3⟩;obtain⟨ps,its,k1,k2,k3,k4,k5⟩:=g3 ⟨[],[],[]⟩ [] (λ_=>True) rfl (λ_ _=>trivial) (λ_ _ _=>trivial);refine⟨?_,hk⟩;obtain rfl:=Option.some.inj (show some [PV.val (.int .i64) r.1,PV.val (.int .i64) r.2]=some ps from k2);obtain⟨_,_,rfl,e1,_,_,rfl,e2,rfl⟩:=k3;cases(show [_]=[Value.int .i64 r.1]from e1);cases(show [_]=[Value.int .i64 r.2]from e2);rfl
structure KpF (n₀ Bx:Nat) (A B:World):Prop where
  le:A.heap.size<=B.heap.size
  box:B.heap[Bx]? =A.heap[Bx]?
  old:∀k,k<n₀->B.heap[k]? =A.heap[k]?
def smT(l:List (Int×Int)):Int:=l.foldl (λs x=>Af s x.1) 0
def fin(y:Int×Int)(xs:List (Int×Int)):Prop:=(∃x∈xs,x.2≠0)\/y=(smT xs,0)
def uY(y:Int×Int)(pre:List (Int×Int)):Prop:=∃p x,pre=p++[x]/\ (x.2≠0->y=(0,x.2))
theorem Tryz.Aur:Tryz.f262.ntmps=35:=F2
theorem Tryz.u25:Tryz.prog.underlying 29=some (.slice 5):=F2
theorem Tryz.sz5:Ho Tryz.prog 5 1:=Ho.mk F2
set_option maxHeartbeats 2000000 in
set_option maxRecDepth 100000 in
theorem Aoo(n:Nat)(l Bx n₀:Nat)(v:Value)(b:List UInt8)(y:Int×Int)(J Jx:List (Int×Int)->World->Prop)(gl:List (Nat×List Value))
    (hC:ConOk Tryz.prog gl 263 ⟨[.lf (.list (.int .u8)) none],[.lf (.int .i64) none, .lf (.int .i64) none],Wp⟩)
    (hY:∀pre x W,J pre W->pre.length<As->YieldAt Fence.wide (n-1) Tryz.prog l #[.int .i64 x.1, .int .i64 x.2] W λe W'=>
      (e= .returned (.bool true)/\J (pre++[x]) W'/\KpF n₀ Bx W W')\/ (e= .returned (.bool false)/\Jx (pre++[x]) W'))
    (W0:World) (hJ:AbidesFrom W0.heap.size J) (WH:W0.heap[Bx]? =some (.cells #[v] 29 (0,0))) (hn:n₀<=W0.heap.size) (hv:Aq (λk=>k<n₀) W0 (.list (.int .u8)) b [v]) (hgl:GlOk gl (λk=>k<n₀) W0)
    (h0:J [] W0) (hy:Gj b=some y):
    CallsIn Fence.wide n Tryz.prog 262 #[.func (.yield l) #[] #[], .pointer (some ⟨Bx,0,none⟩)] W0 λe W'=>(∃v,e= .returned v)/\ ((∃ys,fin y ys/\J ys W')\/ (∃pre,uY y pre/\Jx pre W')):=by
  refine callsIn_of_wp Tryz.func262 rfl trivial ?_ rfl;simp only[Tryz.Aur,List.size_toArray,List.length_cons,List.length_nil,Nat.reduceAdd,Nat.reduceSub,Array.replicate_succ,Array.replicate_zero,List.push_toArray,List.append_toArray,List.nil_append,List.cons_append]
  gi_wp2
  refine p? As (λq a W=>∃(pre:List (Int×Int)) (x:Int) (v2 v4 v5 v6 v7 v8 v9 v10 v11 v12 v13 v14 v15 v16 v17 v18 v19 v20 v21 v22 v23 v24 v25 v26 v27 v28 v29 v30 v31 v32 v33 v34:Value),a={tmps:= #[.func (.yield l) #[] #[], .pointer (some ⟨Bx,0,none⟩),v2, .int .i64 x,v4,v5,v6,v7,v8,v9,v10,v11,v12,v13,v14,v15,v16,v17,v18,v19,v20,v21,v22,v23,v24,v25,v26,v27,v28,v29,v30,v31,v32,v33,v34],defers:=[]}/\Ve b q x=some y/\smT pre=x/\pre.length+q=As/\J pre W/\KpF n₀ Bx W0 W/\W0.heap.size<=W.heap.size) ?_ ?_ ?_
  · rintro a W ⟨pre,x,v2,v4,v5,v6,v7,v8,v9,v10,v11,v12,v13,v14,v15,v16,v17,v18,v19,v20,v21,v22,v23,v24,v25,v26,v27,v28,v29,v30,v31,v32,v33,v34,_,h,_⟩
    cases h
  · rintro q a W ⟨pre,x,v2,v4,v5,v6,v7,v8,v9,v10,v11,v12,v13,v14,v15,v16,v17,v18,v19,v20,v21,v22,v23,v24,v25,v26,v27,v28,v29,v30,v31,v32,v33,v34,rfl,h,hx,hl,hJ1,hk,hs⟩
    simp only[Ve]at h;obtain⟨s,hcut,h⟩:=Go.Lv.bind_some h;obtain⟨r,hsz,h⟩:=Go.Lv.bind_some h;have hvW:Aq (λk=>k<n₀) W (.list (.int .u8)) b [v]:=Aq.step (λ_ h=>h) (λk hk'=>hk.old k hk') hv;obtain⟨p,len,cap,m,rfl,rfl,hm,hlc,hsv⟩:=Apg (k:= .u8) hvW hcut;have hc:W.cell? ⟨Bx,0,none⟩=some (.slice p len cap):=by
      have:=hk.box;simp only[World.cell?,this,WH];rfl
    have hu:=Tryz.u25;have hz:=Tryz.sz5;obtain⟨k,e⟩:=r;have e1:geq e 6=(e==6):=rfl;have e2:geq e 0=(e==0):=rfl;have e3:Af (m:Int) k=RowKit.wrap64 (m+k):=by
      simp only[Af,GI.ofZ,GI.toZ,Go.Lv.wrap64,RowKit.wrap64];exact IntKind.wrap_i64 _
    have e4:Dr (RowKit.wrap64 (m+k)) 4000=decide (4000<RowKit.wrap64 (m+k)):=rfl;have e5:Bb e 0=(e !=0):=rfl;rw[e1,e2,e3,e4,e5]at h;have hp:=h;have hgW:GlOk gl (λk=>k<n₀) W:=λp hp=>⟨Nat.lt_of_lt_of_le (hgl p hp).1 hs,(hgl p hp).2.1,by rw[hk.old _ (hgl p hp).2.1];exact(hgl p hp).2.2⟩;have hcall:∀v',Aq (λk=>k<n₀) W (.list (.int .u8)) s [v']->CallsIn Fence.wide (n-1) Tryz.prog 263 #[v'] W λe0 W'=>e0= .returned (.tuple #[.int .i64 k, .int .i64 e])/\KeepN (λ_=>True) W W':=
      λv' hv'=>callsIn_wide.2 (Atn hC hv' hgW hsz)
    have hsm:∀z:Int,smT (pre++[(k,z)])=RowKit.wrap64 (m+k):=λz=>by rw[<-e3,<-hx];simp[smT]
    have hlt:Bx<W.heap.size:=Nat.lt_of_lt_of_le (Array.getElem?_eq_some_iff.1 WH).1 hs
    gi_wp2
    all_goals
      refine⟨trivial,(λh=>nomatch h),(hcall _ (by first|(rw[if_neg (by assumption)]at hsv;exact hsv)|(simpa [*]using hsv))).mono ?_⟩;rintro e0 W1 ⟨rfl,hk1⟩;have hJ2:=hJ pre W W1 none hJ1 (Axq hk1) (λr e=>by cases e);have hyl:∀e',YieldAt Fence.wide (n-1) Tryz.prog l #[Value.int IntKind.i64 k,Value.int IntKind.i64 e'] W1 _:=λe'=>hY pre (k,e') W1 hJ2 F3
      gi_wp2
      · rename_i h6
        rw[if_pos h6]at hp;refine bodyPost_ret (results_none rfl _ _ _) rfl ?_;exact⟨⟨_,rfl⟩, .inl ⟨pre, .inr (by rw[hx];cases hp;rfl),hJ2⟩⟩
      · obtain⟨fn,tmps,assign,body,hy1,hR⟩:=hyl 4
        rw[hy1]
        gi_wp2
        refine⟨(λh=>nomatch h),hR.mono ?_⟩;rintro e3 W3 (⟨rfl,hJ3,hk3⟩|⟨rfl,hJx3⟩)
        · gi_wp2
          refine bodyPost_ret (results_none rfl _ _ _) rfl ?_;exact⟨⟨_,rfl⟩, .inl ⟨pre++[(k,4)], .inl ⟨(k,4),F7,F7⟩,hJ3⟩⟩
        · gi_wp2
          refine bodyPost_ret (results_none rfl _ _ _) rfl ?_;refine⟨⟨_,rfl⟩, .inr ⟨pre++[(k,4)],⟨pre,(k,4),rfl,λhne=>?_⟩,hJx3⟩⟩;simp at hne
          all_goals simp_all
      · obtain⟨fn,tmps,assign,body,hy1,hR⟩:=hyl 0
        rw[hy1]
        gi_wp2
        refine⟨(λh=>nomatch h),hR.mono ?_⟩;rintro e3 W3 (⟨rfl,hJ3,hk3⟩|⟨rfl,hJx3⟩)
        · gi_wp2
          refine⟨pre++[(k,0)],_,_,_,_,_,_,_,_,_,_,_,_,_,_,_,_,_,_,_,_,_,_,_,_,_,_,_,_,_,_,_,_,_,rfl,?_,‹∀z:Int,smT (pre++[(k,z)])=RowKit.wrap64 ((m:Int)+k)› 0,by simp;omega,hJ3,⟨?_,?_,?_⟩,?_⟩
          · simp_all
            exact Auh (by assumption) F3
          · exact Nat.le_trans hk.le (Nat.le_trans hk1.gr.le hk3.le)
          · exact hk3.box.trans ((hk1.same _ ‹Bx<W.heap.size› trivial).trans hk.box)
          · exact λj hj=>(hk3.old j hj).trans ((hk1.same j (Nat.lt_of_lt_of_le hj (Nat.le_trans hn hs)) trivial).trans (hk.old j hj))
          · exact Nat.le_trans hs (Nat.le_trans hk1.gr.le hk3.le)
        · gi_wp2
          refine bodyPost_ret (results_none rfl _ _ _) rfl ?_;exact⟨⟨_,rfl⟩, .inr ⟨pre++[(k,0)],⟨pre,(k,0),rfl,λhne=>absurd rfl hne⟩,hJx3⟩⟩
      · obtain⟨fn,tmps,assign,body,hy1,hR⟩:=hyl e
        rw[hy1]
        gi_wp2
        refine⟨(λh=>nomatch h),hR.mono ?_⟩;rintro e3 W3 (⟨rfl,hJ3,hk3⟩|⟨rfl,hJx3⟩)
        · gi_wp2
          rename_i hne;refine bodyPost_ret (results_none rfl _ _ _) rfl ?_;exact⟨⟨_,rfl⟩, .inl ⟨pre++[(k,e)], .inl ⟨(k,e),F7,by simpa using hne⟩,hJ3⟩⟩
        · gi_wp2
          refine bodyPost_ret (results_none rfl _ _ _) rfl ?_;refine⟨⟨_,rfl⟩, .inr ⟨pre++[(k,e)],⟨pre,(k,e),rfl,λhne=>?_⟩,hJx3⟩⟩;simp at hne
          all_goals simp_all
  · exact⟨[],0,_,_,_,_,_,_,_,_,_,_,_,_,_,_,_,_,_,_,_,_,_,_,_,_,_,_,_,_,_,_,_,_,rfl,hy,rfl,F7,h0,⟨Nat.le_refl _,rfl,λ_ _=>rfl⟩,Nat.le_refl _⟩
theorem Ar6(n Bx n₀:Nat)(v:Value)(b:List UInt8)(y:Int×Int)(gl:List (Nat×List Value))
    (hC:ConOk Tryz.prog gl 263 ⟨[.lf (.list (.int .u8)) none],[.lf (.int .i64) none, .lf (.int .i64) none],Wp⟩)
    (w:World) (WH:w.heap[Bx]? =some (.cells #[v] 29 (0,0))) (hn:n₀<=w.heap.size) (hv:Aq (λk=>k<n₀) w (.list (.int .u8)) b [v]) (hgl:GlOk gl (λk=>k<n₀) w) (hy:Gj b=some y):
    SeqStopsK Fence.wide n Tryz.prog 262 #[.pointer (some ⟨Bx,0,none⟩)] (λx:Int×Int=> #[.int .i64 x.1, .int .i64 x.2]) (KpF n₀ Bx) (fin y) (uY y) As w:=by
  intro l J Jx W hW hJ hJx hY h0;have hlt:=(Array.getElem?_eq_some_iff.1 WH).1;have hb:∀k,k<n₀->W.heap[k]? =w.heap[k]? :=λk hk=>hW.block k (Nat.lt_of_lt_of_le hk hn);exact Aoo n l Bx n₀ v b y J Jx gl hC hY W hJ ((hW.block Bx hlt).trans WH) (Nat.le_trans hn hW.size) (Aq.step (λ_ h=>h) hb hv)
    (λp hp=>⟨Nat.lt_of_lt_of_le (hgl p hp).1 hW.size,(hgl p hp).2.1,by rw[hb _ (hgl p hp).2.1];exact(hgl p hp).2.2⟩) h0 hy
theorem cM{w W:World}{a:Addr}{v:Value}(h:KeepN (λ_=>True) w W)(ha:w.heap.size<=a.block):KeepN (λ_=>True) w (W.setCell a v):=by
  have hb:=(Below.refl w.heap.size W).setCell (p:=a) ha v;exact⟨λb hb' _=>(hb.block b hb').trans (h.same b hb' trivial),h.gr.trans ⟨hb.size,hb.os,hb.tape,hb.output⟩⟩
theorem heap_set{W:World}{a:Addr}{v:Value}{k:Nat}(h:k≠a.block):(W.setCell a v).heap[k]? =W.heap[k]? :=
  ((Below.refl (k+1) {W with heap:=W.heap}).block k F3▸(by
    show(W.heap.modify a.block _)[k]? =W.heap[k]?;rw[Array.getElem?_modify,if_neg (Ne.symm h)]))
theorem Adg{W:World}{B:Nat}{v:Value}{t:TypeId}(h:W.heap[B]? =some (.cells #[v] t (0,0))):W.cell? ⟨B,0,none⟩=some v/\W.frozen? ⟨B,0,none⟩=false:=by
  constructor<;>simp[World.cell?,World.frozen?,h]
theorem pB(W:World)(v:Value)(t:TypeId):(W.alloc (.cells #[v] t)).cell? ⟨W.heap.size,0,none⟩=some v/\ (W.alloc (.cells #[v] t)).frozen? ⟨W.heap.size,0,none⟩=false:=Adg (World.alloc_heap_new W _)
theorem Io{W:World}{a:Addr}{v:Value}(o:Obj)(h:W.cell? a=some v):(W.alloc o).cell? a=some v:=cell_kept h (World.grownBy_alloc W o none) (λr e=>by cases e)
theorem Np{W:World}{a:Addr}{v:Value}(o:Obj)(h:W.cell? a=some v)(hf:W.frozen? a=false):(W.alloc o).frozen? a=false:=(frozen_kept h (World.grownBy_alloc W o none) (λr e=>by cases e)).trans hf
theorem Tryz.At7:Tryz.f203.ntmps=4:=F2
theorem Tryz.Atw:Tryz.f151.ntmps=18:=F2
set_option maxHeartbeats 1000000 in
set_option maxRecDepth 100000 in
theorem Aof(n:Nat)(p:Option Addr)(len cap:Nat)(w:World):
    CallsIn Fence.wide n Tryz.prog 203 #[.slice p len cap] w λe w'=>e= .returned (.func (.func 262) #[] #[.pointer (some ⟨w.heap.size,0,none⟩)])/\w'=w.alloc (.cells #[.slice p len cap] 29):=by
  refine callsIn_of_wp Tryz.func203 rfl trivial ?_ rfl;simp only[Tryz.At7,List.size_toArray,List.length_cons,List.length_nil,Nat.reduceAdd,Nat.reduceSub,Array.replicate_succ,Array.replicate_zero,List.push_toArray,List.append_toArray,List.nil_append,List.cons_append]
  gi_wp2
  go_ret
  exact⟨rfl,rfl⟩
set_option maxHeartbeats 1000000 in
set_option maxRecDepth 100000 in
theorem Aj3(n:Nat)(h1:3<=n)(p:Option Addr)(len cap:Nat)(b:List UInt8)(y:Int×Int)(gl:List (Nat×List Value))
    (hC:ConOk Tryz.prog gl 263 ⟨[.lf (.list (.int .u8)) none],[.lf (.int .i64) none, .lf (.int .i64) none],Wp⟩)
    (w:World) (hv:Aq (λk=>k<w.heap.size) w (.list (.int .u8)) b [.slice p len cap]) (hgl:GlOk gl (λk=>k<w.heap.size) w) (hy:Gj b=some y):
    CallsIn Fence.wide n Tryz.prog 151 #[.slice p len cap] w λe w'=>e= .returned (.tuple #[.int .i64 y.1, .int .i64 y.2])/\KeepN (λ_=>True) w w':=by
  refine callsIn_of_wp_marks Tryz.func151 rfl trivial ?_ rfl;simp only[Tryz.Atw,List.size_toArray,List.length_cons,List.length_nil,Nat.reduceAdd,Nat.reduceSub,Array.replicate_succ,Array.replicate_zero,List.push_toArray,List.append_toArray,List.nil_append,List.cons_append]
  gi_wp2
  refine⟨trivial,(λh=>nomatch h),(Aof (n-1) _ _ _ _).mono ?_⟩;rintro e w' ⟨rfl,rfl⟩
  gi_wp2
  refine wpIn_rangeFunc_ownG (Kp:=KpF w.heap.size (w.heap.size+1+1+1)) rfl F3 (gf:=262) (lb:= #[.pointer (some ⟨w.heap.size+1+1+1,0,none⟩)]) rfl trivial (enters_of Tryz.func262 F2 rfl)
    (Ar6 (n-1) (w.heap.size+1+1+1) w.heap.size (.slice p len cap) b y gl hC _ ?WH ?hn ?hv ?hgl hy)
    (λh k=>⟨Nat.le_trans h.le k.le,k.box.trans h.box,λj hj=>(k.old j hj).trans (h.old j hj)⟩) ?hKb (Below.refl _ _) (λ_=>rfl)
    (λpre W=>(∀x∈pre,x.2=0)/\ (W.cell? ⟨w.heap.size+1+1,0,none⟩=some (.int .i64 (smT pre))/\W.frozen? ⟨w.heap.size+1+1,0,none⟩=false)/\
      (∃v,W.cell? ⟨w.heap.size,0,none⟩=some v/\W.frozen? ⟨w.heap.size,0,none⟩=false)/\ (∃v,W.cell? ⟨w.heap.size+1,0,none⟩=some v/\W.frozen? ⟨w.heap.size+1,0,none⟩=false)/\KeepN (λ_=>True) w W)
    (λc pre W=>c= .ret/\ (∃UB x,pre=UB++[x]/\x.2≠0/\W.cell? ⟨w.heap.size,0,none⟩=some (.int .i64 0)/\W.cell? ⟨w.heap.size+1,0,none⟩=some (.int .i64 x.2))/\KeepN (λ_=>True) w W)
    ?hI ?hIx ?h0
    (λx=>{tmps:= #[.slice p len cap,undef, .pointer (some ⟨w.heap.size,0,none⟩), .pointer (some ⟨w.heap.size+1,0,none⟩), .pointer (some ⟨w.heap.size+1+1,0,none⟩), .int .i64 x.1, .int .i64 x.2, .slice p len cap, .func (.func 262) #[] #[.pointer (some ⟨w.heap.size+1+1+1,0,none⟩)], .int .i64 x.1, .int .i64 x.2,undef,undef,undef,undef,undef,undef,undef],defers:=[]}) ?assign ?body ?done ?stop
  case assign=>
    intro l x W K hK
    gi_wp2
    exact hK
  case body=>
    rintro l pre x W ⟨hz,⟨hc,hf⟩,⟨v2,hc2,hf2⟩,⟨v3,hc3,hf3⟩,hk⟩ _
    gi_wp2
    · rename_i hx
      refine⟨(KeepsOthers.trans (KeepsOthers.setCell _ _ _) (KeepsOthers.setCell _ _ _)).from _,rfl,⟨pre,x,rfl,by simpa using hx,?_,?_⟩,cM (cM hk (Nat.le_refl _)) (Nat.le_succ _)⟩
      · refine(World.cell?_setCell_other _ _ _ _ F7).trans ?_
        exact World.cell?_setCell_same' _ _ _ (by rw[hc2];rfl)
      · refine World.cell?_setCell_same' _ _ _ ?_
        rw[World.cell?_setCell_other W ⟨w.heap.size,0,none⟩ ⟨w.heap.size+1,0,none⟩ _ F7,hc3];rfl
    · rename_i hx
      have hx0:x.2=0:=by simpa using hx
      refine⟨(KeepsOthers.setCell _ _ _).from _,⟨((Below.refl 0 W).setCell (p:=⟨w.heap.size+1+1,0,none⟩) (Nat.zero_le _) _).size,heap_set F7,λk hk'=>heap_set F5⟩,?_,⟨?_,by rw[World.frozen?_setCell];exact hf⟩,⟨v2,?_,by rw[World.frozen?_setCell];exact hf2⟩,⟨v3,?_,by rw[World.frozen?_setCell];exact hf3⟩,cM hk F5⟩
      · intro z hz'
        rcases List.mem_append.1 hz' with h|h
        · exact hz z h
        · simp at h;subst h;exact hx0
      · have e:smT (pre++[x])=RowKit.wrap64 (smT pre+x.1):=by
          simp only[smT,List.foldl_append,List.foldl_cons,List.foldl_nil,Af,GI.ofZ,GI.toZ,Go.Lv.wrap64,RowKit.wrap64];exact IntKind.wrap_i64 _
        rw[e];exact World.cell?_setCell_same' _ _ _ (by rw[hc];rfl)
      · exact(World.cell?_setCell_other _ _ _ _ (by simp;try omega)).trans hc2
      · exact(World.cell?_setCell_other _ _ _ _ F7).trans hc3
  case done=>
    rintro D xs W hD hS ⟨hz,⟨hc,hf⟩,⟨v2,hc2,hf2⟩,⟨v3,hc3,hf3⟩,hk⟩ hK
    gi_wp2
    have hy':y=(smT xs,0):=hS.elim (λ⟨x,hx,hne⟩=>absurd (hz x hx) hne) id;have hlen:w.heap.size+4<=D:=by simp only[World.size_alloc]at hD;omega
    have hK':=((KeepsOthers.setCell W ⟨w.heap.size,0,none⟩ (.int .i64 (smT xs))).trans (KeepsOthers.setCell _ ⟨w.heap.size+1,0,none⟩ (.int .i64 0))).same D _ hK rfl;have hk2:=cM (v:= .int .i64 0) (a:=⟨w.heap.size+1,0,none⟩) (cM (v:= .int .i64 (smT xs)) (a:=⟨w.heap.size,0,none⟩) hk (Nat.le_refl _)) (Nat.le_succ _);have d0:((W.setCell ⟨w.heap.size,0,none⟩ (.int .i64 (smT xs))).setCell ⟨w.heap.size+1,0,none⟩ (.int .i64 0)).cell? ⟨w.heap.size,0,none⟩=some (.int .i64 (smT xs)):=
      (World.cell?_setCell_other _ _ _ _ F7).trans (World.cell?_setCell_same' _ _ _ (by rw[hc2];rfl))
    have d1:((W.setCell ⟨w.heap.size,0,none⟩ (.int .i64 (smT xs))).setCell ⟨w.heap.size+1,0,none⟩ (.int .i64 0)).cell? ⟨w.heap.size+1,0,none⟩=some (.int .i64 0):=
      World.cell?_setCell_same' _ _ _ (by rw[World.cell?_setCell_other W ⟨w.heap.size,0,none⟩ ⟨w.heap.size+1,0,none⟩ _ F7,hc3];rfl)
    refine⟨F7, .inl ⟨_,_,rfl,run_takeDeferred hK',?_⟩⟩;have hg:=grownBy_putObj' ((W.setCell ⟨w.heap.size,0,none⟩ (.int .i64 (smT xs))).setCell ⟨w.heap.size+1,0,none⟩ (.int .i64 0)) D (.deferred none);have hr':∀r,some D=some r->∃o:Obj,((W.setCell ⟨w.heap.size,0,none⟩ (.int .i64 (smT xs))).setCell ⟨w.heap.size+1,0,none⟩ (.int .i64 0)).heap[r]? =some o/\o.isCells=false:=λr e=>by cases e;exact⟨_,hK',rfl⟩
    have hc5:=cell_kept d0 hg hr';have hc6:=cell_kept d1 hg hr';refine⟨.tuple #[.int .i64 (smT xs), .int .i64 0],?_,by rw[hy'],?_⟩
    · simp[results,Tryz.f151,go_sem,hc5,hc6]
    · refine⟨λb hb _=>(hg.block b (Nat.lt_of_lt_of_le hb hk2.gr.le) (λe=>?_)).trans (hk2.same b hb trivial),hk2.gr.trans ⟨hg.size,hg.os,hg.tape,hg.output⟩⟩
      cases e;omega
  case stop=>
    rintro D c pre W hD hS ⟨rfl,⟨UB,x,rfl,hx,hc2,hc3⟩,hk⟩ hK
    gi_wp2
    obtain⟨p1,x1,he,hy1⟩:=hS;have hy':y=(0,x.2):=by
      have:=List.append_inj' he rfl;cases this.2;exact hy1 hx
    have hlen:w.heap.size+4<=D:=by simp only[World.size_alloc]at hD;omega
    refine⟨F7, .inl ⟨_,_,rfl,run_takeDeferred hK,?_⟩⟩;have hg:=grownBy_putObj' W D (.deferred none);have hr':∀r,some D=some r->∃o:Obj,W.heap[r]? =some o/\o.isCells=false:=λr e=>by cases e;exact⟨_,hK,rfl⟩
    have hc5:=cell_kept hc2 hg hr';have hc6:=cell_kept hc3 hg hr';refine⟨.tuple #[.int .i64 0, .int .i64 x.2],?_,by rw[hy'],?_⟩
    · simp[results,Tryz.f151,go_sem,hc5,hc6]
    · refine⟨λb hb _=>(hg.block b (Nat.lt_of_lt_of_le hb hk.gr.le) (λe=>?_)).trans (hk.same b hb trivial),hk.gr.trans ⟨hg.size,hg.os,hg.tape,hg.output⟩⟩
      cases e;omega
  case WH=>
    have h:=World.alloc_heap_new (((w.alloc (.cells #[.int .i64 0] 3)).alloc (.cells #[.int .i64 0] 24)).alloc (.cells #[.int .i64 0] 3)) (.cells #[.slice p len cap] 29);simp only[World.size_alloc]at h;exact h
  case hn=>simp;omega
  case hI=>
    rintro s A B row ⟨hz,⟨hc,hf⟩,⟨v2,hc2,hf2⟩,⟨v3,hc3,hf3⟩,hk⟩ hg hr;have hr':∀r,row=some r->∃o:Obj,A.heap[r]? =some o/\o.isCells=false:=λr e=>(hr r e).2;refine⟨hz,⟨cell_kept hc hg hr',(frozen_kept hc hg hr').trans hf⟩,⟨v2,cell_kept hc2 hg hr',(frozen_kept hc2 hg hr').trans hf2⟩,⟨v3,cell_kept hc3 hg hr',(frozen_kept hc3 hg hr').trans hf3⟩,?_⟩;refine⟨λb hb _=>(hg.block b (Nat.lt_of_lt_of_le hb hk.gr.le) (λe=>?_)).trans (hk.same b hb trivial),hk.gr.trans ⟨hg.size,hg.os,hg.tape,hg.output⟩⟩;have:=(hr b e.symm).1;simp at this;omega
  case hIx=>
    rintro c s A B row ⟨hc,⟨UB,x,hs,hx,hc2,hc3⟩,hk⟩ hg hr;have hr':∀r,row=some r->∃o:Obj,A.heap[r]? =some o/\o.isCells=false:=λr e=>(hr r e).2;refine⟨hc,⟨UB,x,hs,hx,cell_kept hc2 hg hr',cell_kept hc3 hg hr'⟩,?_⟩;refine⟨λb hb _=>(hg.block b (Nat.lt_of_lt_of_le hb hk.gr.le) (λe=>?_)).trans (hk.same b hb trivial),hk.gr.trans ⟨hg.size,hg.os,hg.tape,hg.output⟩⟩;have:=(hr b e.symm).1;simp at this;omega
  case hKb=>
    intro W l o o' hl h _ _;have hlt:=(Array.getElem?_eq_some_iff.1 h).1;simp at hl;have hg:=grownBy_putObj' W l o';exact⟨hg.size,hg.block _ F3 (λe=>by cases e;omega),λk hk=>hg.block k F3 (λe=>by cases e;omega)⟩
  case hgl=>
    intro q hq;refine⟨by simp;have:=(hgl q hq).1;omega,(hgl q hq).2.1,?_⟩;have hb:=((((Below.refl w.heap.size w).alloc (Nat.le_refl _) (.cells #[.int .i64 0] 3)).alloc F7 (.cells #[.int .i64 0] 24)).alloc F5 (.cells #[.int .i64 0] 3)).alloc F5 (.cells #[.slice p len cap] 29);rw[hb.block _ (hgl q hq).1];exact(hgl q hq).2.2
  case hv=>
    have hb:=((((Below.refl w.heap.size w).alloc (Nat.le_refl _) (.cells #[.int .i64 0] 3)).alloc F7 (.cells #[.int .i64 0] 24)).alloc F5 (.cells #[.int .i64 0] 3)).alloc F5 (.cells #[.slice p len cap] 29);exact Aq.step (λ_ h=>h) (λk hk=>hb.block k hk) hv
  case h0=>
    have c0:=pB w (.int .i64 0) 3;have c1:=pB (w.alloc (.cells #[.int .i64 0] 3)) (.int .i64 0) 24;have c2:=pB ((w.alloc (.cells #[.int .i64 0] 3)).alloc (.cells #[.int .i64 0] 24)) (.int .i64 0) 3;simp only[World.size_alloc]at c1 c2;have hb:=((((Below.refl w.heap.size w).alloc (Nat.le_refl _) (.cells #[.int .i64 0] 3)).alloc F7 (.cells #[.int .i64 0] 24)).alloc F5 (.cells #[.int .i64 0] 3)).alloc F5 (.cells #[.slice p len cap] 29);exact⟨F7,⟨Io _ c2.1,Np _ c2.1 c2.2⟩,⟨_,Io _ (Io _ (Io _ c0.1)),Np _ (Io _ (Io _ c0.1)) (Np _ (Io _ c0.1) (Np _ c0.1 c0.2))⟩,
      ⟨_,Io _ (Io _ c1.1),Np _ (Io _ c1.1) (Np _ c1.1 c1.2)⟩,⟨λb hb' _=>hb.block b hb',⟨hb.size,hb.os,hb.tape,hb.output⟩⟩⟩
def Kk:Con:=⟨[.lf (.list (.int .u8)) none],[.lf (.int .i64) none, .lf (.int .i64) none],λx=>Gj x⟩
theorem Ams{gl:List (Nat×List Value)}(hE:Ent Tryz.prog 151)(hC:ConOk Tryz.prog gl 263 ⟨[.lf (.list (.int .u8)) none],[.lf (.int .i64) none, .lf (.int .i64) none],Wp⟩):ConOk Tryz.prog gl 151 Kk:=by
  refine⟨hE,?_⟩;intro R N w L0 vs ps x y hargs hlen hit Xd hvs hgl hy;obtain rfl:=Option.some.inj (show some [PV.val (.list (.int .u8)) x]=some ps from hargs);obtain⟨v,_,rfl,h1,rfl⟩:=hvs;have h2:Aq (λb=>R b/\N b) w (.list (.int .u8)) x [v]:=h1;have h3:=Aq.step (B':=λk=>k<w.heap.size) (λ_ h=>h.1) (λ_ _=>rfl) (Ro h2);obtain⟨p,len,cap,rfl⟩:∃p len cap,v= .slice p len cap:=by
    obtain⟨v1,c0,e1,⟨p,len,cap,rfl,_⟩,_⟩:=h2;cases e1;exact⟨_,_,_,rfl⟩
  refine(callsIn_wide.1 (Aj3 3 (Nat.le_refl _) p len cap x y gl hC w h3 (λq hq=>⟨(hgl q hq).1,(hgl q hq).1,(hgl q hq).2.2⟩) hy)).mono ?_;rintro e w' ⟨rfl,hk⟩;refine⟨[.int .i64 y.1, .int .i64 y.2],rfl,⟨λb hb _=>hk.same b hb trivial,hk.gr⟩,λ_=>False,[],λ_ h=>h.elim,?_,?_⟩
  · trivial
  · intro s L B' hl _ _
    refine⟨[.val (.int .i64) y.1, .val (.int .i64) y.2],[],(show s=⟨s.sl,s.it++[],s.st⟩ by simp),rfl,?_,rfl,λi a m h=>by simp at h⟩;exact⟨_,_,rfl,rfl,_,_,rfl,rfl,rfl⟩
noncomputable def PW:Con:=⟨[.lf .str none],[.lf (.int .i32) none, .lf (.int .i64) none],zP⟩
theorem Ajl{gl:List (Nat×List Value)}(hE:Ent Tryz.prog 139):ConOk Tryz.prog gl 139 PW:=⟨hE,λ_ _ _ _ _ _ _ _ _ _ _ _ _ _ h=>nomatch (show none=some _ from h)⟩
abbrev Ajn:List Sh:=[.lf .str none, .lf (.list (.cons .str (.cons (.list (.int .u8)) .nil))) none]
abbrev Akk:List Sh:=[.lf (.list (.int .u8)) (some 5), .lf (.int .i64) none]
def Tryz.Ahh:Go.Shelf.Ren:=⟨λ|178=>226|251=>281|252=>282|181=>315|184=>316|290=>317|324=>347|n=>n,λ|130=>357|9=>9|3=>3|75=>56|0=>0|93=>291|91=>289|131=>82|4=>4|37=>29|20=>20|80=>61|5=>5|n=>n,λ|14=>11|n=>n⟩
theorem Tryz.Aua:Go.Proofs.LaysM.n178 Tryz.prog Tryz.Ahh:={
  mixed:=F2
  f178:=Tryz.func226.trans (congrArg some F2)
  f181:=Tryz.func315.trans (congrArg some F2)
  f184:=Tryz.func316.trans (congrArg some F2)
  f251:=Tryz.func281.trans (congrArg some F2)
  f252:=Tryz.func282.trans (congrArg some F2)
  f290:=Tryz.func317.trans (congrArg some F2)
  f324:=Tryz.func347.trans (congrArg some F2)
  t0:=Tryz.underlying0
  a0:=Tryz.isAgg0
  z0:=Tryz.sizeOf0
  v0:=Tryz.zeroValue0
  t3:=Tryz.underlying3
  a3:=Tryz.isAgg3
  z3:=Tryz.sizeOf3
  v3:=Tryz.zeroValue3
  t4:=Tryz.underlying4
  a4:=Tryz.isAgg4
  z4:=Tryz.sizeOf4
  v4:=Tryz.zeroValue4
  t9:=Tryz.underlying9
  a9:=Tryz.isAgg9
  z9:=Tryz.sizeOf9
  v9:=Tryz.zeroValue9
  t20:=Tryz.underlying20
  a20:=Tryz.isAgg20
  z20:=Tryz.sizeOf20
  v20:=Tryz.zeroValue20
  t37:=Tryz.underlying29
  a37:=Tryz.isAgg29
  z37:=Tryz.sizeOf29
  v37:=Tryz.zeroValue29
  t75:=Tryz.underlying56
  a75:=Tryz.isAgg56
  z75:=Tryz.sizeOf56
  v75:=Tryz.zeroValue56
  t91:=Tryz.underlying289
  a91:=Tryz.isAgg289
  z91:=Tryz.sizeOf289
  v91:=Tryz.zeroValue289
  t93:=Tryz.underlying291
  a93:=Tryz.isAgg291
  z93:=Tryz.sizeOf291
  v93:=Tryz.zeroValue291
  t130:=Tryz.underlying357
  a130:=Tryz.isAgg357
  z130:=Tryz.sizeOf357
  v130:=Tryz.zeroValue357
  t131:=Tryz.underlying82
  a131:=Tryz.isAgg82
  z131:=Tryz.sizeOf82
  v131:=Tryz.zeroValue82
  g14:=F2
  t5:=Tryz.underlying5
  a5:=Tryz.isAgg5
  z5:=Tryz.sizeOf5
  v5:=Tryz.zeroValue5
  t80:=Tryz.underlying61
  a80:=Tryz.isAgg61
  z80:=Tryz.sizeOf61
  v80:=Tryz.zeroValue61
  i0:=F2
  i3:=F2
  i4:=F2
  i5:=F2
  i9:=F2
  i20:=F2
  i37:=F2
  i75:=F2
  i80:=F2
  i91:=F2
  i93:=F2
  i130:=F2
  i131:=F2
  m14:=by kernel_rfl}
def Tryz.Aja:Go.Shelf.Ren:=⟨λ|180=>227|251=>281|252=>282|181=>315|184=>316|290=>317|324=>347|n=>n,λ|130=>357|37=>29|3=>3|75=>56|0=>0|93=>291|91=>289|131=>82|4=>4|20=>20|5=>5|80=>61|9=>9|n=>n,λ|14=>11|n=>n⟩
theorem Tryz.wD:Go.Proofs.LaysM.n180 Tryz.prog Tryz.Aja:={
  mixed:=F2
  f180:=Tryz.func227.trans (congrArg some F2)
  f181:=Tryz.func315.trans (congrArg some F2)
  f184:=Tryz.func316.trans (congrArg some F2)
  f251:=Tryz.func281.trans (congrArg some F2)
  f252:=Tryz.func282.trans (congrArg some F2)
  f290:=Tryz.func317.trans (congrArg some F2)
  f324:=Tryz.func347.trans (congrArg some F2)
  t0:=Tryz.underlying0
  a0:=Tryz.isAgg0
  z0:=Tryz.sizeOf0
  v0:=Tryz.zeroValue0
  t3:=Tryz.underlying3
  a3:=Tryz.isAgg3
  z3:=Tryz.sizeOf3
  v3:=Tryz.zeroValue3
  t4:=Tryz.underlying4
  a4:=Tryz.isAgg4
  z4:=Tryz.sizeOf4
  v4:=Tryz.zeroValue4
  t20:=Tryz.underlying20
  a20:=Tryz.isAgg20
  z20:=Tryz.sizeOf20
  v20:=Tryz.zeroValue20
  t37:=Tryz.underlying29
  a37:=Tryz.isAgg29
  z37:=Tryz.sizeOf29
  v37:=Tryz.zeroValue29
  t75:=Tryz.underlying56
  a75:=Tryz.isAgg56
  z75:=Tryz.sizeOf56
  v75:=Tryz.zeroValue56
  t91:=Tryz.underlying289
  a91:=Tryz.isAgg289
  z91:=Tryz.sizeOf289
  v91:=Tryz.zeroValue289
  t93:=Tryz.underlying291
  a93:=Tryz.isAgg291
  z93:=Tryz.sizeOf291
  v93:=Tryz.zeroValue291
  t130:=Tryz.underlying357
  a130:=Tryz.isAgg357
  z130:=Tryz.sizeOf357
  v130:=Tryz.zeroValue357
  t131:=Tryz.underlying82
  a131:=Tryz.isAgg82
  z131:=Tryz.sizeOf82
  v131:=Tryz.zeroValue82
  g14:=F2
  t5:=Tryz.underlying5
  a5:=Tryz.isAgg5
  z5:=Tryz.sizeOf5
  v5:=Tryz.zeroValue5
  t9:=Tryz.underlying9
  a9:=Tryz.isAgg9
  z9:=Tryz.sizeOf9
  v9:=Tryz.zeroValue9
  t80:=Tryz.underlying61
  a80:=Tryz.isAgg61
  z80:=Tryz.sizeOf61
  v80:=Tryz.zeroValue61
  i0:=F2
  i3:=F2
  i4:=F2
  i5:=F2
  i9:=F2
  i20:=F2
  i37:=F2
  i75:=F2
  i80:=F2
  i91:=F2
  i93:=F2
  i130:=F2
  i131:=F2
  m14:=by kernel_rfl}
def Tryz.Ag4:Go.Shelf.Ren:=⟨λ|183=>229|n=>n,λ|130=>357|37=>29|0=>0|93=>291|3=>3|5=>5|91=>289|n=>n,λ|n=>n⟩
theorem Tryz.Aum:Go.Proofs.LaysM.n183 Tryz.prog Tryz.Ag4:={
  mixed:=F2
  f183:=Tryz.func229.trans (congrArg some F2)
  t0:=Tryz.underlying0
  a0:=Tryz.isAgg0
  z0:=Tryz.sizeOf0
  v0:=Tryz.zeroValue0
  t3:=Tryz.underlying3
  a3:=Tryz.isAgg3
  z3:=Tryz.sizeOf3
  v3:=Tryz.zeroValue3
  t37:=Tryz.underlying29
  a37:=Tryz.isAgg29
  z37:=Tryz.sizeOf29
  v37:=Tryz.zeroValue29
  t93:=Tryz.underlying291
  a93:=Tryz.isAgg291
  z93:=Tryz.sizeOf291
  v93:=Tryz.zeroValue291
  t130:=Tryz.underlying357
  a130:=Tryz.isAgg357
  z130:=Tryz.sizeOf357
  v130:=Tryz.zeroValue357
  t5:=Tryz.underlying5
  a5:=Tryz.isAgg5
  z5:=Tryz.sizeOf5
  v5:=Tryz.zeroValue5
  t91:=Tryz.underlying289
  a91:=Tryz.isAgg289
  z91:=Tryz.sizeOf289
  v91:=Tryz.zeroValue289
  i0:=F2
  i3:=F2
  i5:=F2
  i37:=F2
  i91:=F2
  i93:=F2
  i130:=by kernel_rfl}
theorem Tryz.At4:Tryz.f224.ntmps=17:=F2
theorem Tryz.Aud:Tryz.f168.ntmps=48:=F2
theorem LY{l m r:LB}(h:Ay l m=some r):r=l++m/\l.length+m.length<=17179869184:=by
  unfold Ay pN at h;split at h
  · cases h;exact⟨rfl,by assumption⟩
  · cases h
theorem ql(B b:Nat)(bs l:List UInt8)(w:World)(h:Lib.IsBuffer 291 5 B b (Lib.byteCells bs) w)(hf:bs=[]->w.cell? ⟨b,0,none⟩=some (.slice none 0 0)/\1<=l.length/\l.length<=64)
    (hBw:B<=w.heap.size) (hlim:bs.length+l.length<=140737488355328):
    Calls Tryz.prog 226 #[.pointer (some ⟨b,0,none⟩),sv l] w λe w'=>e= .returned (.tuple #[.int .i64 l.length, .nilIface])/\Lib.IsBuffer 291 5 B b (Lib.byteCells (bs++l)) w'/\Below B w w'/\Rf.jO b w w':=
  Rf.Aht Tryz.Aua B b bs l w h hf hBw hlim
theorem S? {A:Nat->Prop}(B b:Nat)(bs l:List UInt8)(v:Value)(w:World)(h:Lib.IsBuffer 291 5 B b (Lib.byteCells bs) w)(hBw:B<=w.heap.size)(hs:Rf.Src A w l v)(hA:¬A b)(hlim:bs.length+l.length<=140737488355328):
    Calls Tryz.prog 227 #[.pointer (some ⟨b,0,none⟩),v] w λe w'=>e= .returned (.tuple #[.int .i64 l.length, .nilIface])/\Lib.IsBuffer 291 5 B b (Lib.byteCells (bs++l)) w'/\Below B w w'/\Lib.OthersKept 5 (some b) w w':=
  Rf.Aha Tryz.wD B b bs l v w h hBw hs hA hlim
theorem Am1(B b:Nat)(bs:List Value)(w:World)(h:Lib.IsBuffer 291 5 B b bs w):
    Calls Tryz.prog 229 #[.pointer (some ⟨b,0,none⟩)] w λe w'=>∃v,e= .returned v/\w'.ownsRow B 5 1 v bs.length bs/\∃n,w'=w.drewN n:=
  Any.Buffer_Bytes Tryz.Aum B b bs w h
theorem sR{l id l':LB}{k:Int}(h:SF l id k=some l'):∃c,l'=l++id++c:=by
  obtain⟨⟨c,e⟩,_,h⟩:=Go.Lv.bind_some h;obtain⟨p,hp,h⟩:=Go.Lv.bind_some h;obtain⟨rfl,_⟩:=LY hp;obtain⟨rfl,_⟩:=LY h;exact⟨c,rfl⟩
set_option maxHeartbeats 2000000 in
set_option maxRecDepth 100000 in
theorem uB(n:Nat)(gl:List (Nat×List Value))(hC:ConOk Tryz.prog gl 225 ⟨[.lf (.int .u64) none, .lf (.int .i64) none],[.lf (.list (.int .u8)) (some 5), .lf (.int .i64) none],λx=>Mc x.1 x.2⟩)
    (B b:Nat) (l id l':LB) (k:Int) (W:World) (h:Lib.IsBuffer 291 5 B b (Lib.byteCells l) W) (hf:l=[]->W.cell? ⟨b,0,none⟩=some (.slice none 0 0)/\1<=id.length/\id.length<=64)
    (hBw:B<=W.heap.size) (hgl:GlOk gl (λ_=>True) W) (hy:SF l id k=some l'):
    CallsIn Fence.wide n Tryz.prog 224 #[sv id, .int .i64 k, .pointer (some ⟨b,0,none⟩)] W λe W'=>e= .returned (.tuple #[])/\Lib.IsBuffer 291 5 B b (Lib.byteCells l') W'/\Below B W W'/\Lib.OthersKept 5 (some b) W W':=by
  obtain⟨⟨c,e⟩,hle,hy⟩:=Go.Lv.bind_some hy;obtain⟨p,hp,hy⟩:=Go.Lv.bind_some hy;obtain⟨rfl,q1⟩:=LY hp;obtain⟨rfl,q2⟩:=LY hy;rw[List.length_append]at q2;refine callsIn_of_wp Tryz.func224 rfl trivial ?_ rfl;simp only[Tryz.At4,List.size_toArray,List.length_cons,List.length_nil,Nat.reduceAdd,Nat.reduceSub,Array.replicate_succ,Array.replicate_zero,List.push_toArray,List.append_toArray,List.nil_append,List.cons_append];have hz:iv (Am k:UInt64)= .int .u64 (IntKind.u64.wrap k):=congrArg (Value.int .u64) (GI.toZ_ofZ _);have hcall:=Rf.Aqc hC (W:=W) (x:=Am k) (n:=4) hgl hle;rw[hz]at hcall
  gi_wp2
  refine⟨trivial,(λh=>nomatch h),(callsIn_wide.2 hcall).mono ?_⟩;rintro e1 W1 ⟨v,rfl,hk,hs⟩;have hb1:=Rf.S3 hk;have h1:=Rf.L8 h hb1.block;have hlt:=h.lt;have hc1:W1.cell? ⟨b,0,none⟩=W.cell? ⟨b,0,none⟩:=World.cell?_of_block (hb1.block b hlt)
  gi_wp2
  refine⟨trivial,(λh=>nomatch h),(callsIn_wide.2 (ql B b l id W1 h1 (λe=>⟨hc1.trans (hf e).1,(hf e).2⟩) (Nat.le_trans hBw hb1.size) F3)).mono ?_⟩;rintro e2 W2 ⟨rfl,h2,hb2,hr2⟩;have hs2:Rf.Src (λk=>W.heap.size<=k/\k<W1.heap.size) W2 c v:=hs.keep λj hj=>hr2 j hj.2 (λe=>absurd hlt F3) λad n c hc e=>by
    rw[hc1]at hc;have:=Rf.Ast h hc;omega
  gi_wp2
  refine⟨trivial,(λh=>nomatch h),(callsIn_wide.2 (S? B b (l++id) c v W2 h2 (Nat.le_trans hBw (Nat.le_trans hb1.size hb2.size)) hs2 (λh=>by omega) (by rw[List.length_append];omega))).mono ?_⟩;rintro e3 W3 ⟨rfl,h3,hb3,ho3⟩
  gi_wp2
  go_end0
  exact⟨rfl,h3,((hb1.mono hBw).trans hb2).trans hb3,(((Lib.OthersKept.refl _ _ W).below hb1).trans (Rf.Azp h1 hr2)).trans ho3⟩
theorem X2{gl:List (Nat×List Value)}{w W:World}{B:Nat}(h:GlOk gl (λ_=>True) w)(hB:w.heap.size<=B)(hb:Below B w W):GlOk gl (λ_=>True) W:=
  λp hp=>⟨Nat.lt_of_lt_of_le (h p hp).1 hb.size,trivial,by rw[hb.block _ (Nat.lt_of_lt_of_le (h p hp).1 hB)];exact(h p hp).2.2⟩
set_option maxHeartbeats 4000000 in
set_option maxRecDepth 100000 in
theorem Axa(n:Nat)(gl:List (Nat×List Value))(hCk:ConOk Tryz.prog gl 223 ⟨[.lf .str none, .lf (.list (.cons .str (.cons (.list (.int .u8)) .nil))) none],[.lf (.int .i64) none],λx=>Rl x.1 x.2⟩)(hSz:ConOk Tryz.prog gl 228 ⟨[.lf (.list (.cons .str (.cons (.list (.int .u8)) .nil))) none],[.lf (.int .i64) none],CR⟩)(hLe:ConOk Tryz.prog gl 225 ⟨[.lf (.int .u64) none, .lf (.int .i64) none],[.lf (.list (.int .u8)) (some 5), .lf (.int .i64) none],λx=>Mc x.1 x.2⟩)
    (w:World) (a:LB) (bl:List (LB×LB×Unit)) (vl:Value) (hv:Aq (λk=>k<w.heap.size) w (.list Rf.CH) bl [vl]) (hgl:GlOk gl (λ_=>True) w) (y:LB×Int) (hy:LG a bl=some y):
    CallsIn Fence.wide n Tryz.prog 168 #[sv a,vl] w λe w'=>∃v,e= .returned (.tuple #[v, .int .i64 y.2])/\KeepN (λ_=>True) w w'/\∃o,(Mob.own 1 5 v (Lib.byteCells y.1)).holds o w'/\∀k,o=some k->w.heap.size<=k/\k<w'.heap.size:=by
  unfold LG at hy;obtain⟨e,hck,hy⟩:=Go.Lv.bind_some hy;have hcall:=Rf.Apn (s:=a) hCk hv hgl hck;refine callsIn_of_wp Tryz.func168 rfl trivial ?_ rfl;simp only[Tryz.Aud,List.size_toArray,List.length_cons,List.length_nil,Nat.reduceAdd,Nat.reduceSub,Array.replicate_succ,Array.replicate_zero,List.push_toArray,List.append_toArray,List.nil_append,List.cons_append]
  gi_wp2
  refine⟨trivial,(λh=>nomatch h),(callsIn_wide.2 hcall).mono ?_⟩;rintro e1 w1 ⟨rfl,hk1⟩;have hlim:e=0->bl.length<=20:=λhe=>by
    by_cases hg:Dr (Aa bl) 20=true
    · have h4:Rl a bl=some 4:=by unfold Rl DU;rw[if_pos hg]
      rw[h4,he]at hck;cases hck
    · have:¬((20:Int)<(bl.length:Int)):=λh=>hg (by simpa [Dr,Aa,GI.toZ]using h)
      omega
  have e5:Bb e 0=(e !=0):=rfl;rw[e5]at hy;by_cases he:e=0
  case neg=>
    rw[if_pos (by simpa using he)]at hy;cases hy
    gi_wp2
    go_ret2
    exact⟨_,rfl,hk1,none,Rf.sV,λk h=>nomatch h⟩
  have hlim:=hlim he;subst he;rw[if_neg F7]at hy
  gi_wp2
  obtain⟨n1,hsz,hy⟩:=Go.Lv.bind_some hy;obtain⟨f,hf,hy⟩:=Go.Lv.bind_some hy;obtain⟨g,hg,hy⟩:=Go.Lv.bind_some hy;obtain⟨h,hh,hy⟩:=Go.Lv.bind_some hy;cases hy;have hb1:=Rf.S3 hk1;have hI0:=Lib.fresh_isBuffer 291 5 w1;have hc0:(w1.alloc (.cells #[.slice none 0 0, .int .i64 0, .int .i8 0] 291)).cell? ⟨w1.heap.size,0,none⟩=some (.slice none 0 0):=by rw[Lib.cell_of_heap (World.alloc_heap_new w1 _)];rfl
  have hb0:=(Below.refl w1.heap.size w1).alloc (Nat.le_refl _) (.cells #[.slice none 0 0, .int .i64 0, .int .i8 0] 291);generalize(w1.alloc (.cells #[.slice none 0 0, .int .i64 0, .int .i8 0] 291))=W0 at hI0 hc0 hb0⊢;have hbw0:=(hb1.trans (hb0.mono hb1.size));have hv0:Aq (λk=>k<w.heap.size) W0 (.list Rf.CH) bl [vl]:=Aq.step (λ_ h=>h) (λk hk=>hbw0.block k hk) hv;refine⟨trivial,(λh=>nomatch h),(callsIn_wide.2 (Rf.Ao8 hSz hv0 (X2 hgl (Nat.le_refl _) hbw0) hsz)).mono ?_⟩;rintro e2 W2 ⟨rfl,hk2⟩;have hb2:=Rf.S3 hk2;have hI2:=Rf.L8 hI0 hb2.block;have hc2:W2.cell? ⟨w1.heap.size,0,none⟩=some (.slice none 0 0):=(World.cell?_of_block (hb2.block _ hI0.lt)).trans hc0;have hbw2:Below w1.heap.size w1 W2:=hb0.trans (hb2.mono hb0.size);clear hI0 hc0 hb0 hbw0 hv0 hb2 hk2
  gi_wp2
  refine⟨trivial,(λh=>nomatch h),(uB (n-1) gl hLe w1.heap.size w1.heap.size [] [82,73,70,70] f n1 W2 hI2 (λ_=>⟨hc2,F4,F4⟩) hbw2.size (X2 hgl (Nat.le_refl _) (hb1.trans (hbw2.mono hb1.size))) hf).mono ?_⟩;rintro e3 W3 ⟨rfl,hI3,hb3,ho3⟩;obtain⟨c3,hf3⟩:=sR hf;have hfn:f≠ []:=by rw[hf3];simp
  have iy:=hbw2.trans hb3;obtain⟨rfl,q1⟩:=LY hg
  gi_wp2
  refine⟨trivial,(λh=>nomatch h),(callsIn_wide.2 (ql _ _ f a W3 hI3 (λe=>absurd e hfn) iy.size F3)).mono ?_⟩;rintro e4 W4 ⟨rfl,hI4,hb4,hr4⟩;have Aw4:=iy.trans hb4;have hgn:f++a≠ []:=by simp[hfn]
  clear hI2 hc2 hI3 hb3 ho3 hr4 hbw2 iy hb4 hf3;obtain⟨v1,c0,e1,⟨p,len,cap,rfl,hl1,hl2,hl3,hl4⟩,hall⟩:=(show∃v c0,[vl]=[v]/\Rd _ w 2 v c0/\Bs (Aq _ w Rf.CH) bl c0 from hv);cases e1;have hlen:bl.length=len:=by
    have:=Bs.len (z:=2) (λx c h=>Rf.Ar4 h) hall;omega
  gi_wp2
  refine p? (bl.length+1) (λq a W=>∃(i:Nat) (l:LB) (z:Int) (x0 x1 x2 x3 x4 x5 x6 x9 x10 x11 x12 x13 x14 x15 x16 x17 x18 x19 x20 x21 x22 x23 x27 x28 x29 x30 x31 x32 x33 x34 x35 x36 x37 x38 x39 x40 x41 x42 x43 x44 x45 x46 x47:Value),a={tmps:= #[x0,x1,x2,x3,x4,x5,x6, .pointer (some ⟨w1.heap.size,0,none⟩), .func (.func 224) #[] #[.pointer (some ⟨w1.heap.size,0,none⟩)],x9,x10,x11,x12,x13,x14,x15,x16,x17,x18,x19,x20,x21,x22,x23, .slice p len cap, .int .i64 len, .int .i64 z,x27,x28,x29,x30,x31,x32,x33,x34,x35,x36,x37,x38,x39,x40,x41,x42,x43,x44,x45,x46,x47],defers:=[]}/\z=(i:Int)/\q+i=bl.length+1/\i<=bl.length/\
    Lib.IsBuffer 291 5 w1.heap.size w1.heap.size (Lib.byteCells l) W/\l≠ []/\Below w1.heap.size w1 W/\EU (bl.drop i) l=some h) ?_ ?_ ?_
  · rintro a W ⟨i,l,z,x0,x1,x2,x3,x4,x5,x6,x9,x10,x11,x12,x13,x14,x15,x16,x17,x18,x19,x20,x21,x22,x23,x27,x28,x29,x30,x31,x32,x33,x34,x35,x36,x37,x38,x39,x40,x41,x42,x43,x44,x45,x46,x47,_,_,hq,hi,_⟩
    omega
  · rintro q a W ⟨i,l,_,x0,x1,x2,x3,x4,x5,x6,x9,x10,x11,x12,x13,x14,x15,x16,x17,x18,x19,x20,x21,x22,x23,x27,x28,x29,x30,x31,x32,x33,x34,x35,x36,x37,x38,x39,x40,x41,x42,x43,x44,x45,x46,x47,rfl,rfl,hq,hi,hI,hl,hb,hr⟩
    by_cases hlt:i<bl.length
    · obtain⟨c,hc⟩:∃c,bl[i]? =some c:=⟨_,List.getElem?_eq_getElem hlt⟩
      have hd:bl.drop i=c::bl.drop (i+1):=by
        rw[List.drop_eq_getElem_cons hlt];rw[List.getElem?_eq_getElem hlt]at hc;rw[Option.some.inj hc]
      rw[hd]at hr;simp only[EU]at hr;obtain⟨l1,r1,hr⟩:=Go.Lv.bind_some hr;obtain⟨l2,r2,hr⟩:=Go.Lv.bind_some hr;obtain⟨z,r3,hr⟩:=Go.Lv.bind_some hr;obtain⟨l3,r4,hr⟩:=Go.Lv.bind_some hr;obtain⟨vd,g1,g2,g3⟩:=Rf.oh hall hc;obtain⟨bk,off,arr,T,fr,rfl,hbk,hheap,hsz2,hcells⟩:=hl4 F3;have hsrc:=Rf.Ars g3;obtain⟨pd,_,MO,rfl,rfl,d2,d3⟩:=id hsrc;have Aw5:Below w.heap.size w W:=hb1.trans (hb.mono hb1.size);have hW:W.heap[bk]? =some (.cells arr T fr):=(Aw5.block _ hbk).trans hheap;have ha0:W.cell? ⟨bk,off+i*2,none⟩=some (sv c.1):=by rw[Lib.cell_of_heap hW,Nat.mul_comm i 2];exact(hcells (2*i) F3).trans g1
      have ha1:W.cell? ⟨bk,off+i*2+1,none⟩=some (.slice pd c.2.1.length MO):=by rw[Lib.cell_of_heap hW,Nat.mul_comm i 2,Nat.add_assoc];exact(hcells (2*i+1) F3).trans g2
      gi_wp2
      have hIa:=Rf.L8 hI (λk hk=>Below.heap_alloc W (.cells #[sv c.1, .slice pd c.2.1.length MO] 224) k hk);have hka:(W.alloc (.cells #[sv c.1, .slice pd c.2.1.length MO] 224)).heap[W.heap.size]? =some (.cells #[sv c.1, .slice pd c.2.1.length MO] 224 (0,0)):=World.alloc_heap_new W _;have hba:=hb.alloc hb.size (.cells #[sv c.1, .slice pd c.2.1.length MO] 224);have hkb:W.heap.size≠w1.heap.size:=λe=>absurd hI.lt F3;refine⟨trivial,(λh=>nomatch h),(uB (n-1) gl hLe _ _ l c.1 l1 _ _ hIa (λe=>absurd e hl) hba.size (X2 hgl (Nat.le_refl _) (hb1.trans (hba.mono hb1.size))) r1).mono ?_⟩;rintro e5 W5 ⟨rfl,hI5,hb5,ho5⟩;have hk5:=ho5 _ _ hka (λe=>hkb (Option.some.inj e)) (λc fz e=>by cases e);have c5:W5.cell? ⟨W.heap.size,1,none⟩=some (.slice pd c.2.1.length MO):=by rw[Lib.cell_of_heap hk5];rfl
      have hb5':=hba.trans hb5;obtain⟨rfl,q2⟩:=LY r2;obtain⟨rfl,q3⟩:=LY r4;obtain⟨c1,hl1⟩:=sR r1
      gi_wp2
      refine⟨trivial,(λh=>nomatch h),(callsIn_wide.2 (S? (A:=λk=>k<w.heap.size) _ _ l1 c.2.1 _ W5 hI5 hb5'.size (hsrc.keep λk hk=>(hb1.trans (hb5'.mono hb1.size)).block k hk) (λh=>absurd hb1.size F3) F3)).mono ?_⟩;rintro e6 W6 ⟨rfl,hI6,hb6,ho6⟩;have hk6:=ho6 _ _ hk5 (λe=>hkb (Option.some.inj e)) (λc fz e=>by cases e);have c6:W6.cell? ⟨W.heap.size,1,none⟩=some (.slice pd c.2.1.length MO):=by rw[Lib.cell_of_heap hk6];rfl
      have hb6':=hb5'.trans hb6;clear hIa hka hba hI5 hb5 ho5 hk5 c5 hb5' hb6 ho6 hk6 ha0 ha1 hW;have hbit:bits BinOp.and IntKind.i64 (c.2.1.length:Int) 1=((c.2.1.length %2:Nat):Int):=Rf.Ak4 c.2.1.length F3;obtain⟨m,hm2⟩:∃m:Nat,m=c.2.1.length %2:=⟨_,rfl⟩;rw[<-hm2]at hbit;have wM:Dq (Aa c.2.1) 1=(m:Int):=hbit;rw[wM]at r3;have hm1:m<=1:=F3
      obtain rfl:z=List.replicate m 0:=by
        unfold mkI at r3;split at r3
        · cases r3;rfl
        · cases r3
      obtain⟨i0,hi0,hz0,hz1,hz2⟩:=info_parts Tryz.wD.i5;obtain⟨M,hmk,hms⟩:=Rf.Ad7 (P:=Tryz.prog) (TB:=29) (U8:=5) Tryz.underlying29 hi0 hz0 hz1 hz2 m hm1;clear hm2 wM r3 hi0 hz0 hz1 hz2
      gi_wp2
      refine⟨trivial,(λh=>nomatch h),(callsIn_wide.2 (S? (A:=λk=>k=W6.heap.size) _ _ (l1++c.2.1) (List.replicate m 0) _ _ (Rf.L8 hI6 (λk hk=>Below.heap_alloc W6 (.cells M 5) k hk)) (hb6'.alloc hb6'.size (.cells M 5)).size (hms W6) (λe=>absurd hI6.lt F3) (by rw[List.length_append];rw[List.length_append]at q3;omega))).mono ?_⟩;rintro e8 W8 ⟨rfl,hI8,hb8,ho8⟩;have hb8':=(hb6'.alloc hb6'.size (.cells M 5)).trans hb8
      gi_wp2
      exact⟨i+1,l1++c.2.1++List.replicate m 0,_,_,_,_,_,_,_,_,_,_,_,_,_,_,_,_,_,_,_,_,_,_,_,_,_,_,_,_,_,_,_,_,_,_,_,_,_,_,_,_,_,_,_,_,rfl,F3,F3,F3,hI8,by simp[hl1,hl],hb8',hr⟩
    · obtain rfl:i=bl.length:=F3
      rw[List.drop_length]at hr;obtain rfl:l=h:=Option.some.inj hr
      gi_wp2
      refine⟨trivial,(λh=>nomatch h),(callsIn_wide.2 (Am1 _ _ _ W hI)).mono ?_⟩;rintro e9 W9 ⟨v,rfl,hown,n9,rfl⟩
      gi_wp2
      go_ret2
      have hbf:=(hb1.trans (hb.mono hb1.size)).trans (Rf.yQ _ W n9);obtain⟨o,ho1,ho2⟩:=Rf.Aek hown;exact⟨_,rfl,Rf.Ans hbf,o,ho1,λk hk=>⟨Nat.le_trans hb1.size (ho2 k hk).1,(ho2 k hk).2⟩⟩
  · exact⟨0,f++a,_,_,_,_,_,_,_,_,_,_,_,_,_,_,_,_,_,_,_,_,_,_,_,_,_,_,_,_,_,_,_,_,_,_,_,_,_,_,_,_,_,_,_,_,rfl,rfl,F3,Nat.zero_le _,hI4,hgn,Aw4,by simpa using hh⟩
noncomputable def XU:Con:=⟨Ajn,Akk,λx=>LG x.1 x.2⟩
theorem Ak1{gl:List (Nat×List Value)}(hE:Ent Tryz.prog 168)(hCk:ConOk Tryz.prog gl 223 ⟨[.lf .str none, .lf (.list (.cons .str (.cons (.list (.int .u8)) .nil))) none],[.lf (.int .i64) none],λx=>Rl x.1 x.2⟩)(hSz:ConOk Tryz.prog gl 228 ⟨[.lf (.list (.cons .str (.cons (.list (.int .u8)) .nil))) none],[.lf (.int .i64) none],CR⟩)(hLe:ConOk Tryz.prog gl 225 ⟨[.lf (.int .u64) none, .lf (.int .i64) none],[.lf (.list (.int .u8)) (some 5), .lf (.int .i64) none],λx=>Mc x.1 x.2⟩):ConOk Tryz.prog gl 168 XU:=by
  refine⟨hE,?_⟩;rintro R N w L0 vs ps ⟨a,bl⟩ y hargs hlen hit Xd hvs hgl hy;obtain rfl:=Option.some.inj (show some [PV.val .str a,PV.val (.list Rf.CH) bl]=some ps from hargs);obtain⟨v0,_,rfl,h0,v,_,rfl,h1,rfl⟩:=hvs;obtain rfl:v0=sv a:=by cases(show [v0]=[sv a]from h0);rfl
  have h2:Aq (λb=>R b/\N b) w (.list Rf.CH) bl [v]:=h1;have h3:=Aq.step (B':=λk=>k<w.heap.size) (λ_ h=>h.1) (λ_ _=>rfl) (Ro h2);refine(callsIn_wide.1 (Axa 3 gl hCk hSz hLe w a bl v h3 (λq hq=>⟨(hgl q hq).1,trivial,(hgl q hq).2.2⟩) y hy)).mono ?_;rintro e w' ⟨u,rfl,hk,o,ho1,ho2⟩;refine⟨[u, .int .i64 y.2],rfl,⟨λb hb _=>hk.same b hb trivial,hk.gr⟩,λ_=>False,[.own 1 5 u (Lib.byteCells y.1)],λ_ h=>h.elim,?_,?_⟩
  · exact⟨o,ho1,λb hb=>⟨λh=>h.elim id λh=>absurd (ho2 b hb).1 (by have:=h.1;omega),(ho2 b hb).2⟩,trivial⟩
  · intro s L B' hl _ _
    refine⟨[.own s.it.length, .val (.int .i64) y.2],[.arr 5 (.int .u8) y.1],rfl,rfl,?_,rfl,λi a m h1 h2=>?_⟩
    · refine⟨_,_,rfl,⟨1,5,u,Lib.byteCells y.1,?_,rfl⟩,_,_,rfl,rfl,rfl⟩
      rw[<-hl];simp
    · cases i with
      |zero=>
        cases h1;cases h2;exact⟨rfl,rfl,Rf.qo y.1⟩
      |succ i=>simp at h1
theorem Tryz.Avt:Tryz.f58.ntmps=28:=F2
noncomputable def Tf:Con:=⟨[.lf .str none],[.lf (.int .i64) none, .lf .bool none],Hg⟩
set_option maxHeartbeats 4000000 in
set_option maxRecDepth 100000 in
theorem Aor(n:Nat)(s:LB)(w:World)(y:Int×Bool)(ev er:Value)(hl:s.length<=281474976710656)(hev:ev= .nilIface\/∃te pe,ev= .iface te pe)(her:er= .nilIface\/∃te pe,er= .iface te pe)(T:TypeId)(fr:Nat×Nat)(hv:w.heap[5]? =some (.cells #[ev] T fr)) (T3:TypeId) (fr3:Nat×Nat) (hv3:w.heap[6]? =some (.cells #[er] T3 fr3)) (T2:TypeId) (fr2:Nat×Nat) (htab:w.heap[10]? =some (.cells ((Lib.pow10Tab.map λz=>Value.int .u64 z)).toArray T2 fr2)) (hy:Hg s=some y):
    CallsIn Fence.wide n Tryz.prog 58 #[sv s] w λe w'=>e= .returned (.tuple #[.int .i64 y.1, .bool y.2])/\KeepN (λ_=>True) w w':=by
  unfold Hg at hy;rw[if_pos hl]at hy;have hz:(⟨s.toArray⟩:ByteArray).size<=281474976710656:=show s.toArray.size<= _ by simpa using hl
  refine callsIn_of_wp Tryz.func58 rfl trivial ?_ rfl;simp only[Tryz.Avt,List.size_toArray,List.length_cons,List.length_nil,Nat.reduceAdd,Nat.reduceSub,Array.replicate_succ,Array.replicate_zero,List.push_toArray,List.append_toArray,List.nil_append,List.cons_append];cases ha:Lib.atoiAll s with
  |ok k=>
    rw[ha]at hy;obtain⟨t,ht,hy⟩:=Go.Lv.bind_some hy;obtain⟨hr,rfl⟩:=pK ht;cases hy
    gi_wp2
    refine⟨trivial,(λh=>nomatch h),(callsIn_wide.2 (Any.strconv_Atoi_ok Tryz.dE ⟨s.toArray⟩ (Nat.le_trans hz F4) k (by simpa using ha) w)).mono ?_⟩;rintro e1 W1 ⟨rfl,hW1⟩;have hb1:Below w.heap.size w W1:=by
      rcases hW1 with rfl|⟨t1,rfl⟩
      · exact Below.refl _ _
      · exact Lib.bytesWorld_below _ _ _
    clear hW1
    gi_wp2
    refine⟨trivial,(λh=>nomatch h),(callsIn_wide.2 (Any.strconv_Itoa Tryz.wE k hr.1 hr.2 W1 (rX F2 ((hb1.block _ (Go.Lv.lt_of_heap htab)).trans htab)))).mono ?_⟩;rintro e2 W2 ⟨rfl,k2,os,hW⟩;have hk:KeepN (λ_=>True) w W2:=by
      rw[hW];exact⟨λb hb _=>by
        show(W1.heap++os)[b]? =_;rw[Array.getElem?_append_left (Nat.lt_of_lt_of_le hb hb1.size),hb1.block b hb],⟨by
        show _<= (W1.heap++os).size;have:=hb1.size;simp;omega,hb1.os,hb1.tape,hb1.output⟩⟩
    clear hW;clear ht hy ha hz
    gi_wp2
    all_goals (go_ret2;refine⟨?_,hk⟩;clear hk;rename_i hx;simp_all [Fu,TH,GI.toZ];try omega)
  |range=>
    rw[ha]at hy;cases hy
    gi_wp2
    refine⟨trivial,(λh=>nomatch h),(callsIn_wide.2 (Any.strconv_Atoi_range Tryz.dE ⟨s.toArray⟩ hz (by simpa using ha) er w (show w.cell? ⟨6,0,none⟩=some er by rw[Lib.cell_of_heap hv3];rfl) her)).mono ?_⟩;rintro e1 W1 ⟨N,rfl,h1,h2,hb1⟩;have hk:KeepN (λ_=>True) w W1:=⟨λb hb _=>hb1.block b hb,⟨hb1.size,hb1.os,hb1.tape,hb1.output⟩⟩
    gi_wp2
    refine⟨trivial,?_⟩
    gi_wp2
    go_ret2
    exact⟨rfl,hk⟩
  |_=>
    rw[ha]at hy;cases hy
    gi_wp2
    refine⟨trivial,(λh=>nomatch h),(callsIn_wide.2 (Any.strconv_Atoi_syntax Tryz.dE ⟨s.toArray⟩ hz (by simpa using ha) ev w (show w.cell? ⟨5,0,none⟩=some ev by rw[Lib.cell_of_heap hv];rfl) hev)).mono ?_⟩;rintro e1 W1 ⟨N,rfl,h1,h2,hb1⟩;have hk:KeepN (λ_=>True) w W1:=⟨λb hb _=>hb1.block b hb,⟨hb1.size,hb1.os,hb1.tape,hb1.output⟩⟩
    gi_wp2
    refine⟨trivial,?_⟩
    gi_wp2
    go_ret2
    exact⟨rfl,hk⟩
theorem Au1 [Ev]{gl:List (Nat×List Value)}(hE:Ent Tryz.prog 58)(hG:(10,Lib.pow10Tab.map λz=>Value.int .u64 z)∈gl)(hS:(5,[Ev.ev 5])∈gl)(hQ:(6,[Ev.ev 6])∈gl):ConOk Tryz.prog gl 58 Tf:=by
  refine⟨hE,?_⟩;rintro R N w L0 vs ps s y hargs hlen hit Xd hvs hgl hy;obtain rfl:=Option.some.inj (show some [PV.val .str s]=some ps from hargs);obtain⟨v0,_,rfl,h0,rfl⟩:=hvs;obtain rfl:v0=sv s:=by cases(show [v0]=[sv s]from h0);rfl
  replace hy:Hg s=some y:=hy
  have hl:s.length<=281474976710656:=by
    unfold Hg at hy;split at hy
    · assumption
    · cases hy
  obtain⟨_,_,T,fr,q3⟩:=hgl _ hS;obtain⟨_,_,T3,fr3,q5⟩:=hgl _ hQ;obtain⟨_,_,T2,fr2,q4⟩:=hgl _ hG;refine(callsIn_wide.1 (Aor 4 s w y (Ev.ev 5) (Ev.ev 6) hl (Ev.ok _) (Ev.ok _) T fr q3 T3 fr3 q5 T2 fr2 q4 hy)).mono ?_;rintro e w' ⟨rfl,hk⟩;refine⟨[.int .i64 y.1, .bool y.2],rfl,⟨λb hb _=>hk.same b hb trivial,hk.gr⟩,λ_=>False,[],λb hb=>hb.elim,trivial,?_⟩;intro s' L B' hl h1 _;exact⟨[.val (.int .i64) y.1, .val .bool y.2],[],by
    show(⟨s'.sl,s'.it,s'.st⟩:S)=⟨s'.sl,s'.it++[],s'.st⟩;rw[List.append_nil],rfl,⟨_,_,rfl,rfl,_,_,rfl,rfl,rfl⟩,rfl,λi a m h=>by simp at h⟩
theorem uj:∀(q n:Nat) (a b:LB),gN q n (a++b)=gN q n a++b
  |0,n,a,b=>rfl
  |q+1,n,a,b=>by
    unfold gN;split
    · rfl
    · exact uj q (n/10) (UInt8.ofNat (48+n %10)::a) b
theorem qN:∀(q n:Nat) (a:LB),n<10^q->0<q->gN (q+1) n a=gN q n a
  |0,n,a,h,h0=>absurd h0 F4
  |1,n,a,h,h0=>by
    unfold gN;rw[if_pos F3,if_pos F3]
  |q+2,n,a,h,h0=>by
    rw[gN]
    conv=>rhs;rw[gN]
    split
    · rfl
    · exact qN (q+1) (n/10) _ (by rw[Nat.pow_succ]at h;omega) F3
theorem tP:∀(q n:Nat) (a:LB),(gN q n a).length<=a.length+q
  |0,n,a=>Nat.le_refl _
  |q+1,n,a=>by
    unfold gN;split
    · rw[List.length_cons];omega
    · have:=tP q (n/10) (UInt8.ofNat (48+n %10)::a)
      rw[List.length_cons]at this;omega
theorem An6(k:Nat)(h:¬k<10)(h2:k<=9223372036854775807):gN 20 k []=gN 20 (k/10) []++[UInt8.ofNat (48+k %10)]:=by
  rw[gN,if_neg h,qN 19 (k/10) [] F3 F4];exact uj 19 (k/10) [] [UInt8.ofNat (48+k %10)]
theorem Tryz.Avs:Tryz.f19.ntmps=18:=F2
set_option maxHeartbeats 4000000 in
set_option maxRecDepth 100000 in
theorem Ao6(k:Nat):k<=9223372036854775807->∀(n:Nat) (w:World),CallsIn Fence.wide n Tryz.prog 19 #[.int .i64 (k:Int)] w λe w'=>e= .returned (sv (gN 20 k []))/\KeepN (λ_=>True) w w':=by
  induction k using Nat.strongRecOn with
  |_ k ih=>
    intro hk n w;refine callsIn_of_wp Tryz.func19 rfl trivial ?_ rfl;simp only[Tryz.Avs,List.size_toArray,List.length_cons,List.length_nil,Nat.reduceAdd,Nat.reduceSub,Array.replicate_succ,Array.replicate_zero,List.push_toArray,List.append_toArray,List.nil_append,List.cons_append]
    gi_wp2
    have hb8:(UInt8.ofNat (48+k %10)).toNat=48+k %10:=by rw[UInt8.toNat_ofNat'];omega
    have hcv:Value.int IntKind.u8 (48+(k:Int) %10)=Value.int IntKind.u8 ((UInt8.ofNat (48+k %10)).toNat:Int):=by rw[hb8];congr 1
    generalize hd:UInt8.ofNat (48+k %10)=c at*
    rw[hcv];have hrun:Sem.run Tryz.prog (convert 29 9 (Value.slice (some {block:=w.heap.size,off:=0}) 1 1)) (w.alloc (Obj.cells #[Value.int IntKind.u8 (c.toNat:Int)] 5))= .ok (sv [c]) (w.alloc (Obj.cells #[Value.int IntKind.u8 (c.toNat:Int)] 5)):=by
      refine run_convert_bytes_back (P:=Tryz.prog) _ 29 9 5 ⟨w.heap.size,0,none⟩ 1 [c] Tryz.underlying29 Tryz.underlying5 Tryz.underlying9 (λj hj=>?_);have:j=0:=by simp at hj;omega
      subst this;rw[Lg,cell_of (show(w.alloc (Obj.cells #[Value.int IntKind.u8 (c.toNat:Int)] 5)).heap[w.heap.size]? =some _ from Array.getElem?_push_size)];rfl
    rw[hrun];have hk1:KeepN (λ_=>True) w (w.alloc (Obj.cells #[Value.int IntKind.u8 (c.toNat:Int)] 5)):=by
      refine⟨λb hb _=>?_,⟨?_,rfl,rfl,rfl⟩⟩
      · show(w.heap.push _)[b]? =_
        rw[Array.getElem?_push_lt hb,Array.getElem?_eq_getElem hb]
      · show w.heap.size<= (w.heap.push _).size
        rw[Array.size_push];omega
    clear hrun hcv hb8;generalize w.alloc (Obj.cells #[Value.int IntKind.u8 (c.toNat:Int)] 5)=W1 at*
    gi_wp2
    · rename_i hlt
      have e:gN 20 k []=[c]:=by
        rw[gN,if_pos F3,<-hd,Nat.mod_eq_of_lt (show k<10 by omega)]
      rw[e]
      go_ret
      exact⟨rfl,hk1⟩
    · rename_i hge _ _ _ _
      have hge:¬k<10:=F3
      refine⟨trivial,(λh=>nomatch h),?_⟩;rw[show((k:Int)/10)=((k/10:Nat):Int) by omega];refine(ih (k/10) F3 F3 (n-1) W1).mono ?_;rintro e1 W2 ⟨rfl,hk2⟩;have hk3:KeepN (λ_=>True) w W2:=⟨λb hb _=>(hk2.same b (Nat.lt_of_lt_of_le hb hk1.gr.le) trivial).trans (hk1.same b hb trivial),⟨Nat.le_trans hk1.gr.le hk2.gr.le,hk2.gr.os.trans hk1.gr.os,hk2.gr.tape.trans hk1.gr.tape,hk2.gr.output.trans hk1.gr.output⟩⟩
      gi_wp2
      · exfalso
        have hl:=tP 20 (k/10) [];rename_i hx;rw[List.length_nil]at hl;omega
      · go_ret
        refine⟨?_,hk3⟩;rw[An6 k hge hk,hd];refine congrArg (λz=>Ending.returned (Value.string z)) (ByteArray.ext ?_);rw[ByteArray.data_append];simp
noncomputable def Qm:Con:=⟨[.lf (.int .i64) none],[.lf .str none],Fi⟩
theorem Ak5{gl:List (Nat×List Value)}(hE:Ent Tryz.prog 19):ConOk Tryz.prog gl 19 Qm:=by
  refine⟨hE,?_⟩;rintro R N w L0 vs ps (n:Int) y hargs hlen hit Xd hvs hgl hy;obtain rfl:=Option.some.inj (show some [PV.val (.int .i64) n]=some ps from hargs);obtain⟨v0,_,rfl,h0,rfl⟩:=hvs;obtain rfl:v0= .int .i64 n:=by cases(show [v0]=[.int .i64 n]from h0);rfl
  replace hy:Fi n=some y:=hy
  unfold Fi at hy;split at hy
  · rename_i hr
    obtain rfl:=Option.some.inj hy;have hr:=of_decide_eq_true hr;obtain⟨k,rfl⟩:∃k:Nat,n=k:=⟨n.toNat,F3⟩;refine(callsIn_wide.1 (Ao6 k F3 4 w)).mono ?_;rintro e w' ⟨rfl,hk⟩;exact⟨[sv (gN 20 k [])],rfl,Rf.uI (e:= .str) ⟨λb hb _=>hk.same b hb trivial,hk.gr⟩ (λB=>rfl) rfl⟩
  · cases hy
end Go.Proofs.YtniihmolajmfcaaGreatDoor
