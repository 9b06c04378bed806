/- A part of a proof (see the text that ends in Proof). No conditions. -/
import Derived.Test.YtniihmolajmfcaaGreatDoorCvPA
import Derived.Test.YtniihmolajmfcaaGreatDoorProg
import Derived.KernelRfl
import Derived.RangeFuncKeeps
import Derived.RangeFuncWrites
import Derived.Shelf.Abstract
import Derived.Test.YtniihmolajmfcaaGreatDoorCvRA
namespace Go
theorem F3{p:Prop}(h:p:=by kernel_rfl):p:=h
end Go
set_option linter.unusedVariables false
set_option linter.unusedSimpArgs false
namespace Go.Proofs.YtniihmolajmfcaaGreatDoor
open Go.RowKit Go.Shelf Go Go.Rx Go.Lv Go.Pl
attribute [local go_sem] Oper.semAt_some
def Tryz.Aij:Go.Shelf.Ren:=⟨λ|171=>99|243=>146|246=>201|283=>258|284=>259|285=>260|286=>261|129=>304|317=>303|318=>305|319=>306|320=>307|337=>339|338=>340|n=>n,λ|3=>3|9=>9|2=>2|4=>4|171=>335|0=>0|53=>272|37=>29|5=>5|173=>338|212=>398|51=>122|20=>20|213=>399|46=>137|232=>454|233=>455|n=>n,λ|17=>10|18=>12|19=>13|n=>n⟩
theorem Tryz.xP:Go.Proofs.LaysM.n171 Tryz.prog Tryz.Aij:={
  mixed:=F3
  f129:=Tryz.func304.trans (congrArg some F3)
  f171:=Tryz.func99.trans (congrArg some F3)
  f243:=Tryz.func146.trans (congrArg some F3)
  f246:=Tryz.func201.trans (congrArg some F3)
  f283:=Tryz.func258.trans (congrArg some F3)
  f284:=Tryz.func259.trans (congrArg some F3)
  f285:=Tryz.func260.trans (congrArg some F3)
  f286:=Tryz.func261.trans (congrArg some F3)
  f317:=Tryz.func303.trans (congrArg some F3)
  f318:=Tryz.func305.trans (congrArg some F3)
  f319:=Tryz.func306.trans (congrArg some F3)
  f320:=Tryz.func307.trans (congrArg some F3)
  f337:=Tryz.func339.trans (congrArg some F3)
  f338:=Tryz.func340.trans (congrArg some F3)
  t0:=Tryz.underlying0
  a0:=Tryz.isAgg0
  z0:=Tryz.sizeOf0
  v0:=Tryz.zeroValue0
  t2:=Tryz.underlying2
  a2:=Tryz.isAgg2
  z2:=Tryz.sizeOf2
  v2:=Tryz.zeroValue2
  t3:=Tryz.underlying3
  a3:=Tryz.isAgg3
  z3:=Tryz.sizeOf3
  v3:=Tryz.zeroValue3
  t4:=Tryz.underlying4
  a4:=Tryz.isAgg4
  z4:=Tryz.sizeOf4
  v4:=Tryz.zeroValue4
  t5:=Tryz.underlying5
  a5:=Tryz.isAgg5
  z5:=Tryz.sizeOf5
  v5:=Tryz.zeroValue5
  t9:=Tryz.underlying9
  a9:=Tryz.isAgg9
  z9:=Tryz.sizeOf9
  v9:=Tryz.zeroValue9
  t20:=Tryz.underlying20
  a20:=Tryz.isAgg20
  z20:=Tryz.sizeOf20
  v20:=Tryz.zeroValue20
  t37:=Tryz.underlying29
  a37:=Tryz.isAgg29
  z37:=Tryz.sizeOf29
  v37:=Tryz.zeroValue29
  t46:=Tryz.underlying137
  a46:=Tryz.isAgg137
  z46:=Tryz.sizeOf137
  v46:=Tryz.zeroValue137
  t51:=Tryz.underlying122
  a51:=Tryz.isAgg122
  z51:=Tryz.sizeOf122
  v51:=Tryz.zeroValue122
  t53:=Tryz.underlying272
  a53:=Tryz.isAgg272
  z53:=Tryz.sizeOf272
  v53:=Tryz.zeroValue272
  t171:=Tryz.underlying335
  a171:=Tryz.isAgg335
  z171:=Tryz.sizeOf335
  v171:=Tryz.zeroValue335
  t173:=Tryz.underlying338
  a173:=Tryz.isAgg338
  z173:=Tryz.sizeOf338
  v173:=Tryz.zeroValue338
  t212:=Tryz.underlying398
  a212:=Tryz.isAgg398
  z212:=Tryz.sizeOf398
  v212:=Tryz.zeroValue398
  t213:=Tryz.underlying399
  a213:=Tryz.isAgg399
  z213:=Tryz.sizeOf399
  t232:=Tryz.underlying454
  a232:=Tryz.isAgg454
  z232:=Tryz.sizeOf454
  v232:=Tryz.zeroValue454
  t233:=Tryz.underlying455
  a233:=Tryz.isAgg455
  z233:=Tryz.sizeOf455
  v233:=Tryz.zeroValue455
  g17:=F3
  g18:=F3
  g19:=F3
  i0:=F3
  i2:=F3
  i3:=F3
  i4:=F3
  i5:=F3
  i9:=F3
  i20:=F3
  i37:=F3
  i46:=F3
  i51:=F3
  i53:=F3
  i171:=F3
  i173:=F3
  i212:=F3
  i232:=F3
  i233:=F3
  m17:=F3
  m18:=F3
  m19:=by kernel_rfl}
def Tryz.Ajl:Go.Shelf.Ren:=⟨λ|172=>98|244=>144|245=>145|247=>196|279=>197|280=>198|281=>199|282=>200|287=>255|316=>256|171=>99|205=>257|321=>301|322=>302|243=>146|246=>201|283=>258|284=>259|285=>260|286=>261|129=>304|317=>303|318=>305|319=>306|320=>307|337=>339|338=>340|n=>n,λ|9=>9|3=>3|75=>56|76=>57|4=>4|5=>5|167=>260|37=>29|0=>0|85=>261|2=>2|168=>263|53=>272|175=>330|46=>137|210=>333|127=>85|145=>396|143=>394|21=>21|171=>335|173=>338|212=>398|51=>122|20=>20|213=>399|232=>454|233=>455|80=>61|n=>n,λ|15=>5|16=>6|17=>10|18=>12|19=>13|n=>n⟩
theorem Tryz.jm:Go.Proofs.LaysC.n172 Tryz.prog Tryz.Ajl:={
  mixed:=F3
  f129:=Tryz.func304.trans (congrArg some F3)
  f171:=Tryz.func99.trans (congrArg some F3)
  f172:=Tryz.func98.trans (congrArg some F3)
  f205:=Tryz.func257.trans (congrArg some F3)
  f243:=Tryz.func146.trans (congrArg some F3)
  f244:=Tryz.func144.trans (congrArg some F3)
  f245:=Tryz.func145.trans (congrArg some F3)
  f246:=Tryz.func201.trans (congrArg some F3)
  f247:=Tryz.func196.trans (congrArg some F3)
  f279:=Tryz.func197.trans (congrArg some F3)
  f280:=Tryz.func198.trans (congrArg some F3)
  f281:=Tryz.func199.trans (congrArg some F3)
  f282:=Tryz.func200.trans (congrArg some F3)
  f283:=Tryz.func258.trans (congrArg some F3)
  f284:=Tryz.func259.trans (congrArg some F3)
  f285:=Tryz.func260.trans (congrArg some F3)
  f286:=Tryz.func261.trans (congrArg some F3)
  f287:=Tryz.func255.trans (congrArg some F3)
  f316:=Tryz.func256.trans (congrArg some F3)
  f317:=Tryz.func303.trans (congrArg some F3)
  f318:=Tryz.func305.trans (congrArg some F3)
  f319:=Tryz.func306.trans (congrArg some F3)
  f320:=Tryz.func307.trans (congrArg some F3)
  f321:=Tryz.func301.trans (congrArg some F3)
  f322:=Tryz.func302.trans (congrArg some F3)
  f337:=Tryz.func339.trans (congrArg some F3)
  f338:=Tryz.func340.trans (congrArg some F3)
  t0:=Tryz.underlying0
  a0:=Tryz.isAgg0
  z0:=Tryz.sizeOf0
  v0:=Tryz.zeroValue0
  t2:=Tryz.underlying2
  a2:=Tryz.isAgg2
  z2:=Tryz.sizeOf2
  v2:=Tryz.zeroValue2
  t3:=Tryz.underlying3
  a3:=Tryz.isAgg3
  z3:=Tryz.sizeOf3
  v3:=Tryz.zeroValue3
  t4:=Tryz.underlying4
  a4:=Tryz.isAgg4
  z4:=Tryz.sizeOf4
  v4:=Tryz.zeroValue4
  t5:=Tryz.underlying5
  a5:=Tryz.isAgg5
  z5:=Tryz.sizeOf5
  v5:=Tryz.zeroValue5
  t9:=Tryz.underlying9
  a9:=Tryz.isAgg9
  z9:=Tryz.sizeOf9
  v9:=Tryz.zeroValue9
  t20:=Tryz.underlying20
  a20:=Tryz.isAgg20
  z20:=Tryz.sizeOf20
  v20:=Tryz.zeroValue20
  t21:=Tryz.underlying21
  a21:=Tryz.isAgg21
  z21:=Tryz.sizeOf21
  v21:=Tryz.zeroValue21
  t37:=Tryz.underlying29
  a37:=Tryz.isAgg29
  z37:=Tryz.sizeOf29
  v37:=Tryz.zeroValue29
  t46:=Tryz.underlying137
  a46:=Tryz.isAgg137
  z46:=Tryz.sizeOf137
  v46:=Tryz.zeroValue137
  t51:=Tryz.underlying122
  a51:=Tryz.isAgg122
  z51:=Tryz.sizeOf122
  v51:=Tryz.zeroValue122
  t53:=Tryz.underlying272
  a53:=Tryz.isAgg272
  z53:=Tryz.sizeOf272
  v53:=Tryz.zeroValue272
  t75:=Tryz.underlying56
  a75:=Tryz.isAgg56
  z75:=Tryz.sizeOf56
  v75:=Tryz.zeroValue56
  t76:=Tryz.underlying57
  a76:=Tryz.isAgg57
  z76:=Tryz.sizeOf57
  v76:=Tryz.zeroValue57
  t85:=Tryz.underlying261
  a85:=Tryz.isAgg261
  z85:=Tryz.sizeOf261
  v85:=Tryz.zeroValue261
  t127:=Tryz.underlying85
  a127:=Tryz.isAgg85
  z127:=Tryz.sizeOf85
  v127:=Tryz.zeroValue85
  t143:=Tryz.underlying394
  a143:=Tryz.isAgg394
  z143:=Tryz.sizeOf394
  v143:=Tryz.zeroValue394
  t145:=Tryz.underlying396
  a145:=Tryz.isAgg396
  z145:=Tryz.sizeOf396
  v145:=Tryz.zeroValue396
  t167:=Tryz.underlying260
  a167:=Tryz.isAgg260
  z167:=Tryz.sizeOf260
  v167:=Tryz.zeroValue260
  t168:=Tryz.underlying263
  a168:=Tryz.isAgg263
  z168:=Tryz.sizeOf263
  v168:=Tryz.zeroValue263
  t171:=Tryz.underlying335
  a171:=Tryz.isAgg335
  z171:=Tryz.sizeOf335
  v171:=Tryz.zeroValue335
  t173:=Tryz.underlying338
  a173:=Tryz.isAgg338
  z173:=Tryz.sizeOf338
  v173:=Tryz.zeroValue338
  t175:=Tryz.underlying330
  a175:=Tryz.isAgg330
  z175:=Tryz.sizeOf330
  v175:=Tryz.zeroValue330
  t210:=Tryz.underlying333
  a210:=Tryz.isAgg333
  z210:=Tryz.sizeOf333
  v210:=Tryz.zeroValue333
  t212:=Tryz.underlying398
  a212:=Tryz.isAgg398
  z212:=Tryz.sizeOf398
  v212:=Tryz.zeroValue398
  t213:=Tryz.underlying399
  a213:=Tryz.isAgg399
  z213:=Tryz.sizeOf399
  t232:=Tryz.underlying454
  a232:=Tryz.isAgg454
  z232:=Tryz.sizeOf454
  v232:=Tryz.zeroValue454
  t233:=Tryz.underlying455
  a233:=Tryz.isAgg455
  z233:=Tryz.sizeOf455
  v233:=Tryz.zeroValue455
  g15:=F3
  g16:=F3
  g17:=F3
  g18:=F3
  g19:=F3
  t80:=Tryz.underlying61
  a80:=Tryz.isAgg61
  z80:=Tryz.sizeOf61
  v80:=Tryz.zeroValue61
  i0:=F3
  i2:=F3
  i3:=F3
  i4:=F3
  i5:=F3
  i9:=F3
  i20:=F3
  i21:=F3
  i37:=F3
  i46:=F3
  i51:=F3
  i53:=F3
  i75:=F3
  i76:=F3
  i80:=F3
  i85:=F3
  i127:=F3
  i143:=F3
  i145:=F3
  i167:=F3
  i168:=F3
  i171:=F3
  i173:=F3
  i175:=F3
  i210:=F3
  i212:=F3
  i232:=F3
  i233:=F3
  m15:=F3
  m16:=F3
  m17:=F3
  m18:=F3
  m19:=F3
  c0:=F3
  c2:=F3
  c3:=F3
  c4:=F3
  c5:=F3
  c9:=F3
  c20:=F3
  c21:=F3
  c37:=F3
  c46:=F3
  c51:=F3
  c53:=F3
  c75:=F3
  c76:=F3
  c80:=F3
  c85:=F3
  c127:=F3
  c143:=F3
  c145:=F3
  c167:=F3
  c168:=F3
  c171:=F3
  c173:=F3
  c175:=F3
  c210:=F3
  c212:=F3
  c213:=F3
  c232:=F3
  c233:=by kernel_rfl}
def Tryz.Agx:Go.Shelf.Ren:=⟨λ|138=>27|195=>60|218=>61|143=>62|219=>100|217=>68|225=>147|224=>148|267=>149|266=>103|314=>202|n=>n,λ|9=>9|3=>3|4=>4|5=>5|0=>0|46=>137|146=>267|51=>122|n=>n,λ|1=>0|n=>n⟩
theorem Tryz.Aza:Go.Proofs.Lays.n138 Tryz.prog Tryz.Agx:={
  mixed:=F3
  f138:=Tryz.func27.trans (congrArg some F3)
  f143:=Tryz.func62.trans (congrArg some F3)
  f195:=Tryz.func60.trans (congrArg some F3)
  f217:=Tryz.func68.trans (congrArg some F3)
  f218:=Tryz.func61.trans (congrArg some F3)
  f219:=Tryz.func100.trans (congrArg some F3)
  f224:=Tryz.func148.trans (congrArg some F3)
  f225:=Tryz.func147.trans (congrArg some F3)
  f266:=Tryz.func103.trans (congrArg some F3)
  f267:=Tryz.func149.trans (congrArg some F3)
  f314:=Tryz.func202.trans (congrArg some F3)
  t0:=Tryz.underlying0
  a0:=Tryz.isAgg0
  z0:=Tryz.sizeOf0
  v0:=Tryz.zeroValue0
  t3:=Tryz.underlying3
  a3:=Tryz.isAgg3
  z3:=Tryz.sizeOf3
  v3:=Tryz.zeroValue3
  t4:=Tryz.underlying4
  a4:=Tryz.isAgg4
  z4:=Tryz.sizeOf4
  v4:=Tryz.zeroValue4
  t5:=Tryz.underlying5
  a5:=Tryz.isAgg5
  z5:=Tryz.sizeOf5
  v5:=Tryz.zeroValue5
  t9:=Tryz.underlying9
  a9:=Tryz.isAgg9
  z9:=Tryz.sizeOf9
  v9:=Tryz.zeroValue9
  t46:=Tryz.underlying137
  a46:=Tryz.isAgg137
  z46:=Tryz.sizeOf137
  v46:=Tryz.zeroValue137
  t51:=Tryz.underlying122
  a51:=Tryz.isAgg122
  z51:=Tryz.sizeOf122
  v51:=Tryz.zeroValue122
  t146:=Tryz.underlying267
  a146:=Tryz.isAgg267
  z146:=Tryz.sizeOf267
  v146:=Tryz.zeroValue267
  g1:=by kernel_rfl}
def Tryz.Aiy:Go.Shelf.Ren:=⟨λ|143=>62|219=>100|217=>68|225=>147|224=>148|267=>149|266=>103|314=>202|n=>n,λ|9=>9|3=>3|4=>4|5=>5|46=>137|146=>267|51=>122|n=>n,λ|1=>0|n=>n⟩
theorem Tryz.Ax9:Go.Proofs.Lays.n143 Tryz.prog Tryz.Aiy:={
  mixed:=F3
  f143:=Tryz.func62.trans (congrArg some F3)
  f217:=Tryz.func68.trans (congrArg some F3)
  f219:=Tryz.func100.trans (congrArg some F3)
  f224:=Tryz.func148.trans (congrArg some F3)
  f225:=Tryz.func147.trans (congrArg some F3)
  f266:=Tryz.func103.trans (congrArg some F3)
  f267:=Tryz.func149.trans (congrArg some F3)
  f314:=Tryz.func202.trans (congrArg some F3)
  t3:=Tryz.underlying3
  a3:=Tryz.isAgg3
  z3:=Tryz.sizeOf3
  v3:=Tryz.zeroValue3
  t4:=Tryz.underlying4
  a4:=Tryz.isAgg4
  z4:=Tryz.sizeOf4
  v4:=Tryz.zeroValue4
  t5:=Tryz.underlying5
  a5:=Tryz.isAgg5
  z5:=Tryz.sizeOf5
  v5:=Tryz.zeroValue5
  t9:=Tryz.underlying9
  a9:=Tryz.isAgg9
  z9:=Tryz.sizeOf9
  v9:=Tryz.zeroValue9
  t46:=Tryz.underlying137
  a46:=Tryz.isAgg137
  z46:=Tryz.sizeOf137
  v46:=Tryz.zeroValue137
  t51:=Tryz.underlying122
  a51:=Tryz.isAgg122
  z51:=Tryz.sizeOf122
  v51:=Tryz.zeroValue122
  t146:=Tryz.underlying267
  a146:=Tryz.isAgg267
  z146:=Tryz.sizeOf267
  v146:=Tryz.zeroValue267
  g1:=by kernel_rfl}
def Tryz.Ag0:Go.Shelf.Ren:=⟨λ|217=>68|266=>103|n=>n,λ|9=>9|5=>5|3=>3|n=>n,λ|n=>n⟩
theorem Tryz.Ayk:Go.Proofs.Lays.n217 Tryz.prog Tryz.Ag0:={
  mixed:=F3
  f217:=Tryz.func68.trans (congrArg some F3)
  f266:=Tryz.func103.trans (congrArg some F3)
  t3:=Tryz.underlying3
  a3:=Tryz.isAgg3
  z3:=Tryz.sizeOf3
  v3:=Tryz.zeroValue3
  t5:=Tryz.underlying5
  a5:=Tryz.isAgg5
  z5:=Tryz.sizeOf5
  v5:=Tryz.zeroValue5
  t9:=Tryz.underlying9
  a9:=Tryz.isAgg9
  z9:=Tryz.sizeOf9
  v9:=Tryz.zeroValue9}
def Tryz.mC:Go.Shelf.Ren:=⟨λ|165=>157|240=>36|241=>212|276=>69|277=>270|n=>n,λ|70=>49|3=>3|0=>0|4=>4|9=>9|20=>20|72=>51|37=>29|164=>91|5=>5|n=>n,λ|n=>n⟩
theorem Tryz.xI:Go.Proofs.Lays.n165 Tryz.prog Tryz.mC:={
  mixed:=F3
  f165:=Tryz.func157.trans (congrArg some F3)
  f240:=Tryz.func36.trans (congrArg some F3)
  f241:=Tryz.func212.trans (congrArg some F3)
  f276:=Tryz.func69.trans (congrArg some F3)
  f277:=Tryz.func270.trans (congrArg some F3)
  t0:=Tryz.underlying0
  a0:=Tryz.isAgg0
  z0:=Tryz.sizeOf0
  v0:=Tryz.zeroValue0
  t3:=Tryz.underlying3
  a3:=Tryz.isAgg3
  z3:=Tryz.sizeOf3
  v3:=Tryz.zeroValue3
  t4:=Tryz.underlying4
  a4:=Tryz.isAgg4
  z4:=Tryz.sizeOf4
  v4:=Tryz.zeroValue4
  t9:=Tryz.underlying9
  a9:=Tryz.isAgg9
  z9:=Tryz.sizeOf9
  v9:=Tryz.zeroValue9
  t20:=Tryz.underlying20
  a20:=Tryz.isAgg20
  z20:=Tryz.sizeOf20
  v20:=Tryz.zeroValue20
  t37:=Tryz.underlying29
  a37:=Tryz.isAgg29
  z37:=Tryz.sizeOf29
  v37:=Tryz.zeroValue29
  t70:=Tryz.underlying49
  a70:=Tryz.isAgg49
  z70:=Tryz.sizeOf49
  v70:=Tryz.zeroValue49
  t72:=Tryz.underlying51
  a72:=Tryz.isAgg51
  z72:=Tryz.sizeOf51
  v72:=Tryz.zeroValue51
  t164:=Tryz.underlying91
  a164:=Tryz.isAgg91
  z164:=Tryz.sizeOf91
  v164:=Tryz.zeroValue91}
def Tryz.Anm:Go.Shelf.Ren:=⟨λ|169=>26|n=>n,λ|70=>49|9=>9|0=>0|72=>51|37=>29|127=>85|3=>3|5=>5|n=>n,λ|n=>n⟩
theorem Tryz.Ay6:Go.Proofs.Lays.n169 Tryz.prog Tryz.Anm:={
  mixed:=F3
  f169:=Tryz.func26.trans (congrArg some F3)
  t0:=Tryz.underlying0
  a0:=Tryz.isAgg0
  z0:=Tryz.sizeOf0
  v0:=Tryz.zeroValue0
  t3:=Tryz.underlying3
  a3:=Tryz.isAgg3
  z3:=Tryz.sizeOf3
  v3:=Tryz.zeroValue3
  t9:=Tryz.underlying9
  a9:=Tryz.isAgg9
  z9:=Tryz.sizeOf9
  v9:=Tryz.zeroValue9
  t37:=Tryz.underlying29
  a37:=Tryz.isAgg29
  z37:=Tryz.sizeOf29
  v37:=Tryz.zeroValue29
  t70:=Tryz.underlying49
  a70:=Tryz.isAgg49
  z70:=Tryz.sizeOf49
  v70:=Tryz.zeroValue49
  t72:=Tryz.underlying51
  a72:=Tryz.isAgg51
  z72:=Tryz.sizeOf51
  v72:=Tryz.zeroValue51
  t127:=Tryz.underlying85
  a127:=Tryz.isAgg85
  z127:=Tryz.sizeOf85
  v127:=Tryz.zeroValue85}
theorem tC:Builder.X72 Tryz.prog Tryz.mC:=⟨F3,F3⟩
theorem Aof:uL Tryz.prog 36 51:=by
  intro w b p v hb hp;have L:Lays.n240 Tryz.prog Tryz.mC:={Tryz.xI with};rcases hp with rfl|rfl
  · refine(Any.Builder_copyCheck_fresh L tC b w (by rw[Lib.cell_of_heap hb];rfl) (by simp[World.shape?,hb];rfl) (Lib.frozen_of_heap hb 0)).mono ?_
    rintro e w' ⟨rfl,rfl⟩;exact⟨rfl,Rf.Aw4 hb 0 _⟩
  · refine(Any.Builder_copyCheck_used L tC b w (by rw[Lib.cell_of_heap hb];rfl)).mono ?_
    rintro e w' ⟨rfl,rfl⟩;exact⟨rfl,(Rf.Az8 hb).symm⟩
theorem Awj:Builder.Extra Tryz.prog Tryz.Anm where
  sizeBuilder:=F3
  liesBuilder:=F3
  t5:=Tryz.underlying5
  a5:=Tryz.isAgg5
  z5:=Tryz.sizeOf5
  v5:=Tryz.zeroValue5
  infoByte:=F3
  cellsByte:=F3
  sizeByte:=F3
  neB5:=F4
theorem Ary:j_ Tryz.prog 26 51 5:=Rf.Av3 Tryz.Ay6 Awj
theorem Aq0:Builder.Extra Tryz.prog Tryz.mC where
  sizeBuilder:=F3
  liesBuilder:=F3
  t5:=Tryz.underlying5
  a5:=Tryz.isAgg5
  z5:=Tryz.sizeOf5
  v5:=Tryz.zeroValue5
  infoByte:=F3
  cellsByte:=F3
  sizeByte:=F3
  neB5:=F4
theorem Aj1:jO Tryz.prog 157 51 5:=Rf.Atg Tryz.xI Aq0
def rE:Code->Code| .rangeFunc _ _ a _=>a|c=>c
def sK:Code->Code| .rangeFunc _ _ _ b=>b|c=>c
theorem Agl{s t:LB}{y:Int}(h:strings_Count s t=some y):∃c,t=[c]/\y=(s.count c:Nat):=by
  unfold strings_Count at h;split at h
  · exact⟨_,rfl,(Option.some.inj h).symm⟩
  · cases h
noncomputable def Sd:Con:=⟨[.lf .str none, .lf .str none],[.lf (.int .i64) none],λx=>strings_Count x.1 x.2⟩
theorem Bgi{gl:List (Nat×List Value)}(hE:Ent Tryz.prog 27):ConOk Tryz.prog gl 27 Sd:=by
  refine⟨hE,?_⟩;rintro R N w L0 vs ps ⟨s,t⟩ y hargs hlen hit AU hvs hgl hy;obtain rfl:=Option.some.inj (show some [PV.val .str s,PV.val .str t]=some ps from hargs);obtain⟨v0,_,rfl,h0,v1,_,rfl,h1,rfl⟩:=hvs;obtain rfl:v0=sv s:=by cases(show [v0]=[sv s]from h0);rfl
  obtain rfl:v1=sv t:=by cases(show [v1]=[sv t]from h1);rfl
  obtain⟨c,rfl,rfl⟩:=Agl (show strings_Count s t=some y from hy);refine(Any.strings_Count_one Tryz.Aza ⟨s.toArray⟩ c w).mono ?_;rintro e w' ⟨rfl,rfl⟩;exact⟨[.int .i64 (s.count c:Nat)],rfl,Rf.sY (e:= .int .i64) ⟨λ_ _ _=>rfl, .refl _⟩ (λB=>rfl) rfl⟩
theorem u_:∀(l:LB) (c:UInt8),Mf l c=Lib.indexByte l c
  |[],_=>rfl
  |b::l,c=>by rw[Mf,Lib.indexByte,u_ l c]
theorem Aiv{s t:LB}{y:Int}(h:strings_Index s t=some y):∃c,t=[c]/\y=Mf s c:=by
  unfold strings_Index at h;split at h
  · exact⟨_,rfl,(Option.some.inj h).symm⟩
  · cases h
noncomputable def HO:Con:=⟨[.lf .str none, .lf .str none],[.lf (.int .i64) none],λx=>strings_Index x.1 x.2⟩
theorem Bgk{gl:List (Nat×List Value)}(hE:Ent Tryz.prog 62):ConOk Tryz.prog gl 62 HO:=by
  refine⟨hE,?_⟩;rintro R N w L0 vs ps ⟨s,t⟩ y hargs hlen hit AU hvs hgl hy;obtain rfl:=Option.some.inj (show some [PV.val .str s,PV.val .str t]=some ps from hargs);obtain⟨v0,_,rfl,h0,v1,_,rfl,h1,rfl⟩:=hvs;obtain rfl:v0=sv s:=by cases(show [v0]=[sv s]from h0);rfl
  obtain rfl:v1=sv t:=by cases(show [v1]=[sv t]from h1);rfl
  obtain⟨c,rfl,rfl⟩:=Aiv (show strings_Index s t=some y from hy);refine(Any.strings_Index_one Tryz.Ax9 ⟨s.toArray⟩ c w).mono ?_;rintro e w' ⟨rfl,rfl⟩;refine⟨[.int .i64 (Mf s c)],by rw[u_];rfl,Rf.sY (e:= .int .i64) ⟨λ_ _ _=>rfl, .refl _⟩ (λB=>rfl) rfl⟩
noncomputable def Pv:Con:=⟨[.lf .str none, .lf (.int .u8) none],[.lf (.int .i64) none],λx=>stringslite_IndexByte x.1 x.2⟩
theorem Aut(s:LB)(c:UInt8)(w:World):Calls Tryz.prog 68 #[sv s, .int .u8 c.toNat] w λe w'=>e= .returned (.int .i64 (Mf s c))/\w'=w:=by
  refine(Any.stringslite_IndexByte Tryz.Ayk ⟨s.toArray⟩ c.toNat w).mono ?_;rintro e w' ⟨rfl,rfl⟩;exact⟨by rw[u_];simp,rfl⟩
theorem Azu{gl:List (Nat×List Value)}(hE:Ent Tryz.prog 68):ConOk Tryz.prog gl 68 Pv:=by
  refine⟨hE,?_⟩;rintro R N w L0 vs ps ⟨s,c⟩ y hargs hlen hit AU hvs hgl hy;obtain rfl:=Option.some.inj (show some [PV.val .str s,PV.val (.int .u8) c]=some ps from hargs);obtain⟨v0,_,rfl,h0,v1,_,rfl,h1,rfl⟩:=hvs;obtain rfl:v0=sv s:=by cases(show [v0]=[sv s]from h0);rfl
  obtain rfl:v1= .int .u8 (c:UInt8).toNat:=by cases(show [v1]=[.int .u8 (c:UInt8).toNat]from h1);rfl
  obtain rfl:Mf s c=y:=Option.some.inj (show some (Mf s c)=some y from hy);refine(Aut s c w).mono ?_;rintro e w' ⟨rfl,rfl⟩;exact⟨[.int .i64 (Mf s c)],rfl,Rf.sY (e:= .int .i64) ⟨λ_ _ _=>rfl, .refl _⟩ (λB=>rfl) rfl⟩
theorem V7:∀(l:LB) (c:UInt8),Mf l c= -1\/∃i:Nat,i<l.length/\Mf l c=i
  |[],_=> .inl rfl
  |b::l,c=>by
    rw[Mf];split
    · exact .inr ⟨0,F8,rfl⟩
    · split
      · exact .inl rfl
      · rename_i h
        rcases V7 l c with h'|⟨i,h1,h2⟩
        · exact absurd (by simp[h']) h
        · exact .inr ⟨i+1,by simpa using h1,by rw[h2];simp⟩
theorem sN{a:Int}(h1:0<=a)(h2:a<=34359738368):Ae a 1=a+1:=by
  show Go.Lv.wrap64 (a+1)=a+1;exact Go.Lv.Df F0 F0
theorem Akw {s:LB}{i:Nat}(h:i<=s.length):Cb s 0 (i:Int)=some (s.take i):=by
  unfold Cb;rw[if_pos ⟨Int.le_refl 0,F0,F0⟩];simp
theorem Ad9{s:LB}{i:Nat}(h:i<=s.length):Cb s (i:Int) (Ad s)=some (s.drop i):=by
  unfold Cb Ad;rw[if_pos ⟨F0,F0,Int.le_refl _⟩];simp
theorem MR{P:Program}{f:Func}(hrs:f.results= #[]) {m n:Nat} {J:Nat->Reg->World->Prop} {Jx:World->Prop} {N:Nat} {σ:Env} {a':Act} {w':World} (hf:Fits [] n a' σ) (hh:(∃V,J N V w')\/Jx w'):
    LeavesInM (wr none) m P f a'.tmps (λe W'=>(∃v,e= .returned v)/\ ((∃V,J N V W')\/Jx W')) a'.defers .returning w':=by
  rw[hf.defers];exact⟨_,Zv (rs:=[]) (vs:=[]) hrs hf trivial,⟨_,rfl⟩,hh⟩
theorem Axb(s:LB)(c:UInt8):Nf s c=some (Mf s c):=F3
theorem Apg{v:PV}(h:BT v=true):∀u∈[v],BT u=true:=λu hu=>by
  rcases List.mem_cons.1 hu with rfl|hu
  · exact h
  · cases hu
noncomputable def t!:Con:=⟨[.lf .str none, .lf (.int .u8) none],[.lf (.int .i64) none],λx=>Nf x.1 x.2⟩
noncomputable def OX(gl:List (Nat×List Value)):Tab:=⟨[(35,t!)],gl,false,false⟩
noncomputable abbrev pG{R:Type}(gl:List (Nat×List Value)):fN R:=Xp Tryz.prog (OX gl) 8 []
noncomputable def zl:Code:=cA (cA (fB Tryz.f34))
noncomputable def uG:Code:=cA zl
noncomputable def uh:Code:=cA (cA (cB zl))
noncomputable def ug:Code:=cA (cB (cA (cB zl)))
noncomputable def vV:Code:=cB (cB (cA (cB zl)))
noncomputable def pB:List Oper:=cO (cA vV)
noncomputable def iY:Code:=cB vV
noncomputable def pX:Oper:=oAt pB 2
noncomputable def vT:Oper:=oAt pB 3
theorem Ahe:Tryz.f34.body=some (.block 0 (.loop (.seq uG (.block 1 (.seq uh (.seq ug (.seq (.region 6 (pB.take 2++pX::[vT]).toArray false) iY))))))):=F3
theorem Arw:Tryz.f34.ntmps=25:=F3
theorem Ap4:pX.guard=none:=F3
theorem Arb:pX.dst=some 23:=F3
theorem sR:pX.op= .call ⟨.value (.tmp 21), #[.tmp 22], #[9]⟩:=F3
abbrev Qq(l:Nat):Value:= .func (.yield l) #[] #[]
abbrev ED(l:Nat)(s:LB)(sl:Slots):S:=⟨[(0, .cst (Qq l)),(1, .ptr 0 [])]++sl,[.box 9 (vs s)],[[(0, .ptr 0 [])]]⟩
theorem t?(gl:List (Nat×List Value))(l:Nat)(s:LB):ex Tryz.prog (OX gl) (pG gl) 25 uG .d (kC [0,1] []) (ED l s [])=if Eg (Ad s) 0=true then some (0,ED l s [])else some (2,ED l s []):=F3
theorem As8(gl:List (Nat×List Value))(l:Nat)(s:LB):ex Tryz.prog (OX gl) (pG gl) 25 uh .d (kC [0,1,3] []) (ED l s [])=some (0,ED l s [(3,vs [])]):=F3
theorem Aro(gl:List (Nat×List Value))(l:Nat)(s:LB):ex Tryz.prog (OX gl) (pG gl) 25 ug .d (kC [0,1,3] []) (ED l s [(3,vs [])])=
    Option.bind (Nf s 10) λi=>if Ha i 0=true then Option.bind (Cb s 0 (Ae i 1)) λa=>Option.bind (Cb s (Ae i 1) (Ad s)) λb=>some (0,ED l b [(3,vs a)])else some (0,ED l [] [(3,vs s)]):=F3
theorem Ars(gl:List (Nat×List Value))(l:Nat)(s x:LB):SA Tryz.prog (OX gl) (pG gl) 25 (pB.take 2++pX::[vT]).toArray (pB.take 2) (ED l s [(3,vs x)]) (cnP [0,1,21,22] [] 0)=some (0,ED l s [(21, .cst (Qq l)),(22,vs x)]):=F3
theorem Ap6(gl:List (Nat×List Value))(l:Nat)(s x:LB)(t:Bool):SA Tryz.prog (OX gl) (pG gl) 25 (pB.take 2++pX::[vT]).toArray [vT] ⟨j? (ED l s [(21, .cst (Qq l)),(22,vs x)]).sl 23 (vt t),[.box 9 (vs s)],[[(0, .ptr 0 [])]]⟩ (cnP [0,1,24] [] 0)=some (0,ED l s [(24,vt (!t))]):=F3
theorem Aq8(gl:List (Nat×List Value))(l:Nat)(s:LB)(t:Bool):ex Tryz.prog (OX gl) (pG gl) 25 iY .d (kC [0,1] []) (ED l s [(24,vt t)])=if t=true then some (1,ED l s [])else some (0,ED l s []):=F3
theorem Akm:SA Tryz.prog ⟨[],[],false,false⟩ (Xp Tryz.prog ⟨[],[],false,false⟩ 8 []) 25 (pB.take 2++pX::[vT]).toArray [vT] ⟨[(23,vt false)],[],[]⟩ (cnP [24] [] 0)=some (0,⟨[(24,vt true)],[],[]⟩):=F3
theorem Anq:ex Tryz.prog ⟨[],[],false,false⟩ (Xp Tryz.prog ⟨[],[],false,false⟩ 8 []) 25 iY .d (kC [] []) ⟨[(24,vt true)],[],[]⟩=some (1,⟨[],[],[]⟩):=F3
def zn:List PV->Option (List LB)
  |[.val .str s]=>D_ s
  |_=>none
theorem Ahi{q:Nat}{s x:LB}{r:List LB}(h:Wj q s=x::r)(hs:s.length<=17179869184):∃q' s',q=q'+1/\Eg (Ad s) 0=true/\s'.length<s.length/\Wj q' s'=r/\
    ((Ha (Mf s 10) 0=true/\Cb s 0 (Ae (Mf s 10) 1)=some x/\Cb s (Ae (Mf s 10) 1) (Ad s)=some s')\/ (Ha (Mf s 10) 0=false/\x=s/\s'=[])):=by
  match q,s with
  |0,_=>cases h
  |q+1,[]=>cases h
  |q+1,c::s=>
    rw[Wj]at h;have hpos:Eg (Ad (c::s)) 0=true:=by simp[Eg,Ad,GI.toZ]
    rcases V7 (c::s) 10 with h1|⟨i,h1,h2⟩
    · rw[h1,if_pos F4]at h
      injection h with h3 h4
      refine⟨q,[],rfl,hpos,F8,?_, .inr ⟨by rw[h1];rfl,h3.symm,rfl⟩⟩;rw[<-h4];cases q<;>rfl
    · rw[h2,if_neg (by simp[Cx,GI.toZ])]at h
      injection h with h3 h4
      have e:Ae (i:Int) 1=((i+1:Nat):Int):=by rw[sN F0 F0];omega
      refine⟨q,(c::s).drop (i+1),rfl,hpos,by simp;omega,?_, .inl ⟨by rw[h2];simp[Ha,GI.toZ],?_,?_⟩⟩
      · rw[<-h4];rfl
      · rw[h2,e,Akw F0,<-h3];rfl
      · rw[h2,e,Ad9 F0]
theorem Ag5{q:Nat}{s:LB}(h:Wj q s=[])(hq:s.length<q):Eg (Ad s) 0=false:=by
  match q,s with
  |q+1,[]=>rfl
  |q+1,c::s=>
    rw[Wj]at h;split at h<;>cases h
theorem Ahf{gl:List (Nat×List Value)}(hC:ConOk Tryz.prog gl 35 t!)(hE:Ent Tryz.prog 34):ItOk Tryz.prog gl 34 ⟨[9],true, .str,zn⟩:=by
  refine⟨hE,λm B w bs us xs hB hbs fM hgl hF=>?_⟩;have hM:Tryz.prog.follows .mixedOrders=true:=F3
  have hT:Sk Tryz.prog (OX gl):= .cons hC .nil;have hI:∀{R:Type},Qi (R:=R) Tryz.prog (OX gl).gl (pG gl):=RV hM hT Is.nil 8;have hF:zn us=some xs:=hF;obtain⟨s,rfl,hlim,rfl⟩:∃s,us=[vs s]/\s.length<=17179869184/\xs=Wj (s.length+1) s:=by
    unfold zn at hF;split at hF
    · obtain⟨u,hok,hF⟩:=Go.Lv.bind_some hF
      refine⟨_,rfl,?_,(Option.some.inj hF).symm⟩;unfold Gi at hok;split at hok
      · rename_i h;have h':=of_decide_eq_true h;unfold Ad at h';omega
      · cases hok
    · cases hF
  intro l J Jx W hk hJ hJx hY h0;have hW:Boxes true B W [9] bs [vs s]:=L7 hB hk fM hbs;obtain⟨L,it,hbi,hit⟩:=Aaw (λb hb=>Nat.lt_of_lt_of_le (hB b hb) hk.gr.le) (hgl.keep (λ_ h=>h) (λk hk'=>hk.same k (hB k hk') trivial) hk.gr) hW (Apg rfl);obtain⟨b,rfl⟩:∃b,bs=[b]:=let⟨b,cells,e,_⟩:=fM.one;⟨b,e⟩;subst hit;have hm0:MemB gl [b] B W (ED l s []) (QW [Qq l, .pointer (some ⟨b,0,none⟩)]):=S3 (y:=Qq l) rfl (λb hb=>Nat.lt_of_lt_of_le (hB b hb) hk.gr.le) (hgl.keep (λ_ h=>h) (λk hk'=>hk.same k (hB k hk') trivial) hk.gr) hbi;have H!:∀i V X Y,J i V X->KeepN (λk=>k∉ [b]) X Y->J i (grown V X Y) Y:=λi V X Y h k=>hJ i V X Y h (k.Ii λc hc=>hc rfl);refine callsIn_of_wp_marks Tryz.func34 Ahe trivial ?_ rfl;have ha0:=cZ (fn:=Tryz.f34) (vs:=[Qq l, .pointer (some ⟨b,0,none⟩)]) F3;have e0:(#[Qq l]++YD [b]:Array Value)=[Qq l, .pointer (some ⟨b,0,none⟩)].toArray:=by simp[YD]
  rw[e0]
  revert ha0
  generalize({tmps:=_,defers:=[]}:Act)=Bb0;rw[Arw];intro ha0;refine wpIn_block (Ajr ((Wj (s.length+1) s).length+1) (λq a' w'=>∃(i p:Nat) (s':LB) (V:Reg) (σ:Env),q+i=(Wj (s.length+1) s).length+1/\i<= (Wj (s.length+1) s).length/\Fits [] 25 a' σ/\J i V w'/\MemB gl [b] V w' (ED l s' []) σ/\Wj p s'=(Wj (s.length+1) s).drop i/\s'.length<=17179869184/\s'.length<p) ?_ ?_
    ⟨0,s.length+1,s,B,_,rfl,Nat.zero_le _,ha0,h0,hm0,rfl,hlim,Nat.lt_succ_self _⟩)
  · rintro a' w' ⟨i,p,s',V,σ,hq,hi,_⟩
    omega
  generalize Wj (s.length+1) s=xs at hY⊢;rintro q a' w' ⟨i,p,s',V,σ,hq,hi,hf,hj,hm,hp,hl',hlt'⟩;cases hd:xs.drop i with
  |nil=>
    rw[hd]at hp;have hlen:xs.length<=i:=List.drop_eq_nil_iff.1 hd;refine wpIn_seq (wpIn_mono (VW (bs:=[b]) hM hT hI (J:=J i) (H! i) (an:= .d) (lv:=[0,1]) (co:=[]) ((t? gl l s').trans (by rw[Ag5 hp hlt'];rfl)) rfl rfl hm hj hf) ?_);rintro e ac wc ⟨he,σc,Vc,fc,jc,mc⟩;cases e with
    |exit id=>
      obtain rfl:id=0:=by simpa [QI]using he
      exact MR F3 fc (.inl ⟨Vc,by rw[show xs.length=i by omega];exact jc⟩)
    |normal=>simp[QI]at he
    |ret=>simp[QI]at he
    |goto l=>cases he
    |panic c=>cases he
    |outgrown=>cases he
  |cons x r=>
    rw[hd]at hp;have hx:xs[i]? =some x:=by
      have:=congrArg List.head? hd;rwa [List.head?_drop]at this
    have hi':i<xs.length:=(List.getElem?_eq_some_iff.1 hx).1;have hr:xs.drop (i+1)=r:=by
      have:=congrArg List.tail hd;rwa [List.tail_drop]at this
    obtain⟨p',s2,rfl,hg,hle2,hp',hcase⟩:=Ahi hp hl';refine aZ (bs:=[b]) hM hT hI (J:=J i) (H! i) .d [0,1] [] ((t? gl l s').trans (by rw[hg];rfl)) rfl rfl hm hj hf λσ1 V1 w1 a1 f1 j1 m1=>?_;refine wpIn_block ?_;refine aZ (bs:=[b]) hM hT hI (J:=J i) (H! i) .d [0,1,3] [] (As8 gl l s') rfl rfl m1 j1 f1 λσ2 V2 w2 a2 f2 j2 m2=>?_;refine aZ (bs:=[b]) (s':=ED l s2 [(3,vs x)]) hM hT hI (J:=J i) (H! i) .d [0,1,3] [] ((Aro gl l s').trans (by
      rw[Axb];rcases hcase with⟨g1,g2,g3⟩|⟨g1,rfl,rfl⟩
      · show(if Ha (Mf s' 10) 0=true then _ else _)=_
        rw[if_pos g1,g2,g3];rfl
      · show(if Ha (Mf x 10) 0=true then _ else _)=_
        rw[if_neg (by rw[g1];simp)])) rfl rfl m2 j2 f2 λσ3 V3 w3 a3 f3 j3 m3=>?_
    refine wpIn_seq (wpIn_region_lit ?_);refine tU (T:=OX gl) (bs:=[b]) hT hI (J:=J i) (H! i) [0,1,21,22] F3 (Ars gl l s2 x) rfl rfl m3 j3 f3 λσ4 V4 w4 a4 f4 j4 m4=>?_;have v21:σ4 21=Qq l:=by
      obtain⟨L4,this⟩:=m4.val (t:=21) (p:= .cst (Qq l)) F8 rfl;exact(show [σ4 21]=[Qq l]/\ _ from this).1|>List.head_eq_of_cons_eq
    have v22:Ga V4 w4 [] (vs x) (σ4 22):=by
      obtain⟨L4,this⟩:=m4.val (t:=22) (p:=vs x) F8 rfl;exact(show [σ4 22]=[sv x]from this)
    refine E9 Ap4 Arb F4 (λc hc=>by rw[sR]at hc;cases hc) (iF sR v21 rfl) (hY i V4 w4 (σ4 22) hi' j4 (λx' hx'=>by rw[hx]at hx';cases hx';exact v22)) ?_ f4;rintro e w5 (⟨rfl,j5,hgr,hsame⟩|⟨rfl,jx⟩)
    · refine⟨_,rfl,λa5 f5=>?_⟩
      have m5:=(m4.round hgr λk hk'=>hsame k (hk'.imp id λh h'=>h' rfl h)).set (d:=23) (p:=vt true) (v:= .bool true) rfl (λL=>show [Value.bool true]=[Value.bool true]from rfl);refine tU (T:=OX gl) (l2:=[]) (bs:=[b]) hT hI (J:=J (i+1)) (H! (i+1)) [0,1,24] F3 (Ap6 gl l s2 x true) rfl rfl m5 j5 f5 λσ6 V6 w6 a6 f6 j6 m6=>?_;refine wpIn_mono (VW (bs:=[b]) hM hT hI (J:=J (i+1)) (H! (i+1)) (an:= .d) (lv:=[0,1]) (co:=[]) (Aq8 gl l s2 false) rfl rfl m6 j6 f6) ?_;rintro e ac wc ⟨he,σc,Vc,fc,jc,mc⟩;cases e with
      |normal=>exact⟨i+1,p',s2,Vc,σc,F0,F0,fc,jc,mc,by rw[hp',hr],F0,F0⟩
      |ret=>simp[QI]at he
      |exit id=>simp[QI]at he
      |goto l=>cases he
      |panic c=>cases he
      |outgrown=>cases he
    · refine⟨_,rfl,λa5 f5=>?_⟩
      have hT0:Sk Tryz.prog ⟨[],[],false,false⟩:= .nil;have hI0:∀{R:Type},Qi (R:=R) Tryz.prog [] (Xp Tryz.prog ⟨[],[],false,false⟩ 8 []):=RV hM hT0 Is.nil 8;have hx0:∀X Y,Jx X->KeepN (λ_=>True) X Y->Jx Y:=λX Y h k=>hJx X Y h (k.Ii λ_ _=>trivial);have m5:MemI [] (λ_=>False) w5 ⟨[(23,vt false)],[],[]⟩ (Mr σ4 23 (.bool false)):=⟨λ_ h=>h.elim,rfl,rfl,(λp hp=>by
        rcases List.mem_cons.1 hp with rfl|hp
        · exact Gx.put rfl (show [Value.bool false]=[Value.bool false]from rfl)
        · cases hp),λp hp=>by cases hp⟩
      refine sA (T:=⟨[],[],false,false⟩) (l2:=[]) hT0 hI0 (J:=λ_ W=>Jx W) (λ_ X Y h k=>hx0 X Y h k) [24] F3 Akm rfl m5 jx f5 λσb Vb wb ab fb jb mb=>?_;refine wpIn_mono (rV (T:=⟨[],[],false,false⟩) hM hT0 hI0 (J:=λ_ W=>Jx W) (λ_ X Y h k=>hx0 X Y h k) (an:= .d) (lv:=[]) (co:=[]) Anq rfl mb jb fb) ?_;rintro e ac wc ⟨he,σc,Vc,fc,jc,mc⟩;cases e with
      |ret=>exact MR F3 fc (.inr jc)
      |normal=>simp[QI]at he
      |exit id=>simp[QI]at he
      |goto l=>cases he
      |panic c=>cases he
      |outgrown=>cases he
noncomputable def sD:Con:=⟨[.lf .str none, .lf .str none],[.lf (.int .i64) none],λx=>strings_Index x.1 x.2⟩
noncomputable def Ys(gl:List (Nat×List Value)):Tab:=⟨[(62,sD)],gl,false,false⟩
noncomputable abbrev UL{R:Type}(gl:List (Nat×List Value)):fN R:=Xp Tryz.prog (Ys gl) 8 []
noncomputable def uJ:Code:=cA (fB Tryz.f138)
noncomputable def S9:Code:=cA (cA (cA (cA (cB (fB Tryz.f138)))))
noncomputable def uM:Code:=cA S9
noncomputable def w!:Code:=cA (cB S9)
noncomputable def wW:Code:=cA (cB (cB S9))
noncomputable def uo:Code:=cA (cB (cB (cB S9)))
noncomputable def vB:Code:=cB (cB (cB (cB S9)))
noncomputable def pM:List Oper:=cO (cA uo)
noncomputable def hH:Code:=cB uo
noncomputable def oX:Oper:=oAt pM 2
noncomputable def xA:Oper:=oAt pM 3
noncomputable def B!:List Oper:=cO (cB (cB (fB Tryz.f138)))
noncomputable def vR:Oper:=oAt B! 2
theorem Ag4:Tryz.f138.body=some (.seq uJ (.seq (.block 2 (.loop (.block 3 (.seq uM (.seq w! (.seq wW (.seq (.seq (.region 8 (pM.take 2++oX::[xA]).toArray false) hH) vB))))))) (.region 10 (B!.take 2++vR::[]).toArray false))):=F3
theorem Asq:Tryz.f138.ntmps=52:=F3
theorem Aqe:oX.guard=none:=F3
theorem As3:oX.dst=some 41:=F3
theorem rU:oX.op= .call ⟨.value (.tmp 39), #[.tmp 40], #[9]⟩:=F3
theorem Aqi:vR.guard=none:=F3
theorem Aqo:vR.dst=some 51:=F3
theorem rz:vR.op= .call ⟨.value (.tmp 49), #[.tmp 50], #[9]⟩:=F3
abbrev xJ(c:UInt8)(s:LB):List Rx.Item:=[.box 9 (vs [c]), .box 9 (vs s), .box 3 (vi 0)]
abbrev yF:List Slots:=[[(0, .ptr 0 []),(1, .ptr 1 []),(2, .ptr 2 [])]]
abbrev Wa(l:Nat)(c:UInt8)(s:LB)(sl:Slots):S:=⟨[(0, .cst (Qq l)),(1, .ptr 0 []),(2, .ptr 1 []),(3, .ptr 2 [])]++sl,xJ c s,yF⟩
theorem Apd(gl:List (Nat×List Value))(l:Nat)(c:UInt8)(s:LB):ex Tryz.prog (Ys gl) (UL gl) 52 uJ .d (kC [0,1,2,3] []) (Wa l c s [])=some (0,Wa l c s []):=F3
theorem Apz(gl:List (Nat×List Value))(l:Nat)(c:UInt8)(s:LB):ex Tryz.prog (Ys gl) (UL gl) 52 uM .d (kC [0,1,2,3,7] []) (Wa l c s [])=Option.bind (strings_Index s [c]) λi=>some (0,Wa l c s [(7,vi i)]):=F3
theorem rS(gl:List (Nat×List Value))(l:Nat)(c:UInt8)(s:LB)(i:Int):ex Tryz.prog (Ys gl) (UL gl) 52 w! .d (kC [0,1,2,3,7] []) (Wa l c s [(7,vi i)])=if Cx i 0=true then some (4,Wa l c s [(7,vi i)])else some (0,Wa l c s [(7,vi i)]):=F3
theorem Ata(gl:List (Nat×List Value))(l:Nat)(c:UInt8)(s:LB)(i:Int):ex Tryz.prog (Ys gl) (UL gl) 52 wW .d (kC [0,1,2,3,7,8] []) (Wa l c s [(7,vi i)])=Option.bind (Cb s 0 (Ae i 0)) λx=>some (0,Wa l c s [(7,vi i),(8,vs x)]):=F3
theorem Apj(gl:List (Nat×List Value))(l:Nat)(c:UInt8)(s x:LB)(i:Int):SA Tryz.prog (Ys gl) (UL gl) 52 (pM.take 2++oX::[xA]).toArray (pM.take 2) (Wa l c s [(7,vi i),(8,vs x)]) (cnP [0,1,2,3,7,39,40] [] 0)=some (0,Wa l c s [(7,vi i),(39, .cst (Qq l)),(40,vs x)]):=F3
theorem Ate(gl:List (Nat×List Value))(l:Nat)(c:UInt8)(s x:LB)(i:Int)(t:Bool):SA Tryz.prog (Ys gl) (UL gl) 52 (pM.take 2++oX::[xA]).toArray [xA] ⟨j? (Wa l c s [(7,vi i),(39, .cst (Qq l)),(40,vs x)]).sl 41 (vt t),xJ c s,yF⟩ (cnP [0,1,2,3,7,42] [] 0)=some (0,Wa l c s [(7,vi i),(42,vt (!t))]):=F3
theorem Ari(gl:List (Nat×List Value))(l:Nat)(c:UInt8)(s:LB)(i:Int)(t:Bool):ex Tryz.prog (Ys gl) (UL gl) 52 hH .d (kC [0,1,2,3,7] []) (Wa l c s [(7,vi i),(42,vt t)])=if t=true then some (1,Wa l c s [(7,vi i)])else some (0,Wa l c s [(7,vi i)]):=F3
theorem Aq5(gl:List (Nat×List Value))(l:Nat)(c:UInt8)(s:LB)(i:Int):ex Tryz.prog (Ys gl) (UL gl) 52 vB .d (kC [0,1,2,3] []) (Wa l c s [(7,vi i)])=Option.bind (Cb s (Ae i 1) (Ad s)) λs'=>some (0,Wa l c s' []):=F3
theorem Aqg(gl:List (Nat×List Value))(l:Nat)(c:UInt8)(s:LB)(i:Int):SA Tryz.prog (Ys gl) (UL gl) 52 (B!.take 2++vR::[]).toArray (B!.take 2) (Wa l c s [(7,vi i)]) (cnP [0,1,2,3,49,50] [] 0)=some (0,Wa l c s [(49, .cst (Qq l)),(50,vs s)]):=F3
theorem Alw:SA Tryz.prog ⟨[],[],false,false⟩ (Xp Tryz.prog ⟨[],[],false,false⟩ 8 []) 52 (pM.take 2++oX::[xA]).toArray [xA] ⟨[(41,vt false)],[],[]⟩ (cnP [42] [] 0)=some (0,⟨[(42,vt true)],[],[]⟩):=F3
theorem Ani:ex Tryz.prog ⟨[],[],false,false⟩ (Xp Tryz.prog ⟨[],[],false,false⟩ 8 []) 52 hH .d (kC [] []) ⟨[(42,vt true)],[],[]⟩=some (1,⟨[],[],[]⟩):=F3
def J4:List PV->Option (List LB)
  |[.val .str sep, .val .str s, .val (.int .i64) n]=>match sep with|[c]=>if n=0 then wG c s else none|_=>none
  |_=>none
theorem Acb{us:List PV}{xs:List LB}(h:J4 us=some xs):∃c s,us=[vs [c],vs s,vi 0]/\s.length<=17179869184/\xs=Wk c (s.length+1) s:=by
  unfold J4 at h;split at h
  · rename_i sep s n
    split at h
    · rename_i c
      split at h
      · rename_i hn
        subst hn;obtain⟨u,hok,hF⟩:=Go.Lv.bind_some h;refine⟨c,s,rfl,?_,(Option.some.inj hF).symm⟩;unfold Gi at hok;split at hok
        · rename_i h;have h':=of_decide_eq_true h;unfold Ad at h';omega
        · cases hok
      · cases h
    · cases h
  · cases h
theorem Aun{i:Nat}(h:i<17179869184):Ae (i:Int) 0=(i:Int):=by
  show Go.Lv.wrap64 ((i:Int)+0)=i;rw[Int.add_zero];exact Go.Lv.Df F0 F0
theorem Aic{c:UInt8}{q:Nat}{s x:LB}{r:List LB}(h:Wk c q s=x::r)(hs:s.length<=17179869184):∃q',q=q'+1/\
    ((Cx (Mf s c) 0=true/\x=s/\r=[])\/ (Cx (Mf s c) 0=false/\∃s',s'.length<s.length/\Wk c q' s'=r/\Cb s 0 (Ae (Mf s c) 0)=some x/\Cb s (Ae (Mf s c) 1) (Ad s)=some s')):=by
  match q with
  |0=>cases h
  |q+1=>
    rw[Wk]at h;refine⟨q,rfl,?_⟩;rcases V7 s c with h1|⟨i,h1,h2⟩
    · rw[h1,if_pos F4]at h
      injection h with h3 h4
      exact .inl ⟨by rw[h1];rfl,h3.symm,h4.symm⟩
    · rw[h2,if_neg (by simp[Cx,GI.toZ])]at h
      injection h with h3 h4
      have e:Ae (i:Int) 1=((i+1:Nat):Int):=by rw[sN F0 F0];omega
      refine .inr ⟨by rw[h2];simp[Cx,GI.toZ],s.drop (i+1),by simp;omega,?_,?_,?_⟩
      · rw[<-h4];rfl
      · rw[h2,Aun F0,Akw F0,<-h3];rfl
      · rw[h2,e,Ad9 F0]
theorem Asc{c:UInt8}{q:Nat}{s:LB}(h:Wk c q s=[])(hq:s.length<q):False:=by
  match q with
  |q+1=>
    rw[Wk]at h;split at h<;>cases h
theorem As6{u v w:PV}(h1:BT u=true)(h2:BT v=true)(h3:BT w=true):∀x∈[u,v,w],BT x=true:=λx hx=>by
  rcases List.mem_cons.1 hx with rfl|hx
  · exact h1
  rcases List.mem_cons.1 hx with rfl|hx
  · exact h2
  rcases List.mem_cons.1 hx with rfl|hx
  · exact h3
  · cases hx
theorem Agn{B:Reg}{w:World}{T1 T2 T3:TypeId}{bs:List Nat}{v1 v2 v3:PV}(h:Boxes true B w [T1,T2,T3] bs [v1,v2,v3]):∃b1 b2 b3,bs=[b1,b2,b3]:=by
  cases h with
  |cons h1 h2 h3 h4 h5 h6=>
    cases h6 with
    |cons h1 h2 h3 h4 h5 h6=>
      cases h6 with
      |cons h1 h2 h3 h4 h5 h6=>cases h6;exact⟨_,_,_,rfl⟩
theorem Aig{gl:List (Nat×List Value)}(hC:ConOk Tryz.prog gl 62 sD)(hE:Ent Tryz.prog 138):ItOk Tryz.prog gl 138 ⟨[9,9,3],true, .str,J4⟩:=by
  refine⟨hE,λm B w bs us xs hB hbs fM hgl hF=>?_⟩;have hM:Tryz.prog.follows .mixedOrders=true:=F3
  have hT:Sk Tryz.prog (Ys gl):= .cons hC .nil;have hI:∀{R:Type},Qi (R:=R) Tryz.prog (Ys gl).gl (UL gl):=RV hM hT Is.nil 8;obtain⟨c,s,rfl,hlim,rfl⟩:=Acb (show J4 us=some xs from hF);intro l J Jx W hk hJ hJx hY h0;have hW:Boxes true B W [9,9,3] bs [vs [c],vs s,vi 0]:=L7 hB hk fM hbs;obtain⟨L,it,hbi,hit⟩:=Aaw (λb hb=>Nat.lt_of_lt_of_le (hB b hb) hk.gr.le) (hgl.keep (λ_ h=>h) (λk hk'=>hk.same k (hB k hk') trivial) hk.gr) hW (As6 rfl rfl rfl);obtain⟨b1,b2,b3,rfl⟩:=Agn fM;subst hit;have hm0:MemB gl [b1,b2,b3] B W (Wa l c s []) (QW [Qq l, .pointer (some ⟨b1,0,none⟩), .pointer (some ⟨b2,0,none⟩), .pointer (some ⟨b3,0,none⟩)]):=S3 (y:=Qq l) rfl (λb hb=>Nat.lt_of_lt_of_le (hB b hb) hk.gr.le) (hgl.keep (λ_ h=>h) (λk hk'=>hk.same k (hB k hk') trivial) hk.gr) hbi;have H!:∀i V X Y,J i V X->KeepN (λk=>k∉ [b1,b2,b3]) X Y->J i (grown V X Y) Y:=λi V X Y h k=>hJ i V X Y h (k.Ii λc hc=>hc rfl);have hx0:∀X Y,Jx X->KeepN (λ_=>True) X Y->Jx Y:=λX Y h k=>hJx X Y h (k.Ii λ_ _=>trivial);refine callsIn_of_wp_marks Tryz.func138 Ag4 trivial ?_ rfl;have ha0:=cZ (fn:=Tryz.f138) (vs:=[Qq l, .pointer (some ⟨b1,0,none⟩), .pointer (some ⟨b2,0,none⟩), .pointer (some ⟨b3,0,none⟩)]) F3;have e0:(#[Qq l]++YD [b1,b2,b3]:Array Value)=[Qq l, .pointer (some ⟨b1,0,none⟩), .pointer (some ⟨b2,0,none⟩), .pointer (some ⟨b3,0,none⟩)].toArray:=by simp[YD]
  rw[e0]
  revert ha0
  generalize({tmps:=_,defers:=[]}:Act)=Bb0;rw[Asq];intro ha0;generalize hxs:Wk c (s.length+1) s=xs at hY⊢;refine aZ (bs:=[b1,b2,b3]) hM hT hI (J:=J 0) (H! 0) .d [0,1,2,3] [] (Apd gl l c s) rfl rfl hm0 h0 ha0 λσ0 V0 w0 a0 f0 j0 m0=>?_;refine wpIn_seq (wpIn_block (Ajr (xs.length+1) (λq a' w'=>∃(i p:Nat) (s':LB) (V:Reg) (σ:Env),q+i=xs.length+1/\i<=xs.length/\Fits [] 52 a' σ/\J i V w'/\MemB gl [b1,b2,b3] V w' (Wa l c s' []) σ/\Wk c p s'=xs.drop i/\s'.length<=17179869184/\s'.length<p) ?_ ?_
    ⟨0,s.length+1,s,V0,σ0,rfl,Nat.zero_le _,f0,j0,m0,hxs,hlim,Nat.lt_succ_self _⟩))
  · rintro a' w' ⟨i,p,s',V,σ,hq,hi,_⟩
    omega
  rintro q a' w' ⟨i,p,s',V,σ,hq,hi,hf,hj,hm,hp,hl',hlt'⟩;cases hd:xs.drop i with
  |nil=>rw[hd]at hp;exact(Asc hp hlt').elim
  |cons x r=>
    rw[hd]at hp;have hx:xs[i]? =some x:=by
      have:=congrArg List.head? hd;rwa [List.head?_drop]at this
    have hi':i<xs.length:=(List.getElem?_eq_some_iff.1 hx).1;have hr:xs.drop (i+1)=r:=by
      have:=congrArg List.tail hd;rwa [List.tail_drop]at this
    obtain⟨p',rfl,hcase⟩:=Aic hp hl';refine wpIn_block ?_;refine aZ (bs:=[b1,b2,b3]) hM hT hI (J:=J i) (H! i) .d [0,1,2,3,7] [] ((Apz gl l c s').trans (by rw[show strings_Index s' [c]=some (Mf s' c)from rfl];rfl)) rfl rfl hm hj hf λσ1 V1 w1 a1 f1 j1 m1=>?_;rcases hcase with⟨g1,rfl,rfl⟩|⟨g1,s2,g2,g3,g4,g5⟩
    · refine wpIn_seq (wpIn_mono (VW (bs:=[b1,b2,b3]) hM hT hI (J:=J i) (H! i) (an:= .d) (lv:=[0,1,2,3,7]) (co:=[]) ((rS gl l c x (Mf x c)).trans (by rw[g1];rfl)) rfl rfl m1 j1 f1) ?_)
      rintro e ac wc ⟨he,σc,Vc,fc,jc,mc⟩;have hend:xs.length=i+1:=by
        have:=List.drop_eq_nil_iff.1 hr;omega
      cases e with
      |exit id=>
        obtain rfl:id=2:=by simpa [QI]using he
        refine wpIn_region_lit ?_;refine tU (T:=Ys gl) (bs:=[b1,b2,b3]) (l2:=[vR]) hT hI (J:=J i) (H! i) [0,1,2,3,49,50] F3 (Aqg gl l c x (Mf x c)) rfl rfl mc jc fc λσ4 V4 w4 a4 f4 j4 m4=>?_;have v49:σ4 49=Qq l:=by
          obtain⟨L4,this⟩:=m4.val (t:=49) (p:= .cst (Qq l)) F8 rfl;exact(show [σ4 49]=[Qq l]/\ _ from this).1|>List.head_eq_of_cons_eq
        have v50:Ga V4 w4 [] (vs x) (σ4 50):=by
          obtain⟨L4,this⟩:=m4.val (t:=50) (p:=vs x) F8 rfl;exact(show [σ4 50]=[sv x]from this)
        refine E9 Aqi Aqo F4 (λc hc=>by rw[rz]at hc;cases hc) (iF rz v49 rfl) (hY i V4 w4 (σ4 50) hi' j4 (λx' hx'=>by rw[hx]at hx';cases hx';exact v50)) ?_ f4;rintro e w5 (⟨rfl,j5,_⟩|⟨rfl,jx⟩)
        · exact⟨_,rfl,λa5 f5=>MR F3 f5 (.inl ⟨_,by rw[hend];exact j5⟩)⟩
        · exact⟨_,rfl,λa5 f5=>MR F3 f5 (.inr jx)⟩
      |normal=>simp[QI]at he
      |ret=>simp[QI]at he
      |goto l=>cases he
      |panic c=>cases he
      |outgrown=>cases he
    · refine aZ (bs:=[b1,b2,b3]) hM hT hI (J:=J i) (H! i) .d [0,1,2,3,7] [] ((rS gl l c s' (Mf s' c)).trans (by rw[g1];rfl)) rfl rfl m1 j1 f1 λσ2 V2 w2 a2 f2 j2 m2=>?_
      refine aZ (bs:=[b1,b2,b3]) hM hT hI (J:=J i) (H! i) .d [0,1,2,3,7,8] [] ((Ata gl l c s' (Mf s' c)).trans (by rw[g4];rfl)) rfl rfl m2 j2 f2 λσ3 V3 w3 a3 f3 j3 m3=>?_;refine wpIn_seq (wpIn_seq (wpIn_region_lit ?_));refine tU (T:=Ys gl) (bs:=[b1,b2,b3]) hT hI (J:=J i) (H! i) [0,1,2,3,7,39,40] F3 (Apj gl l c s' x (Mf s' c)) rfl rfl m3 j3 f3 λσ4 V4 w4 a4 f4 j4 m4=>?_;have v39:σ4 39=Qq l:=by
        obtain⟨L4,this⟩:=m4.val (t:=39) (p:= .cst (Qq l)) F8 rfl;exact(show [σ4 39]=[Qq l]/\ _ from this).1|>List.head_eq_of_cons_eq
      have v40:Ga V4 w4 [] (vs x) (σ4 40):=by
        obtain⟨L4,this⟩:=m4.val (t:=40) (p:=vs x) F8 rfl;exact(show [σ4 40]=[sv x]from this)
      refine E9 Aqe As3 F4 (λc hc=>by rw[rU]at hc;cases hc) (iF rU v39 rfl) (hY i V4 w4 (σ4 40) hi' j4 (λx' hx'=>by rw[hx]at hx';cases hx';exact v40)) ?_ f4;rintro e w5 (⟨rfl,j5,hgr,hsame⟩|⟨rfl,jx⟩)
      · refine⟨_,rfl,λa5 f5=>?_⟩
        have m5:=(m4.round hgr λk hk'=>hsame k (hk'.imp id λh h'=>h' rfl h)).set (d:=41) (p:=vt true) (v:= .bool true) rfl (λL=>show [Value.bool true]=[Value.bool true]from rfl);refine tU (T:=Ys gl) (l2:=[]) (bs:=[b1,b2,b3]) hT hI (J:=J (i+1)) (H! (i+1)) [0,1,2,3,7,42] F3 (Ate gl l c s' x (Mf s' c) true) rfl rfl m5 j5 f5 λσ6 V6 w6 a6 f6 j6 m6=>?_;refine wpIn_mono (VW (bs:=[b1,b2,b3]) hM hT hI (J:=J (i+1)) (H! (i+1)) (an:= .d) (lv:=[0,1,2,3,7]) (co:=[]) (Ari gl l c s' (Mf s' c) false) rfl rfl m6 j6 f6) ?_;rintro e ac wc ⟨he,σc,Vc,fc,jc,mc⟩;cases e with
        |normal=>
          refine wpIn_mono (VW (bs:=[b1,b2,b3]) hM hT hI (J:=J (i+1)) (H! (i+1)) (an:= .d) (lv:=[0,1,2,3]) (co:=[]) ((Aq5 gl l c s' (Mf s' c)).trans (by rw[g5];rfl)) rfl rfl mc jc fc) ?_;rintro e ad wd ⟨he,σd,Vd,fd,jd,md⟩;cases e with
          |normal=>exact⟨i+1,p',s2,Vd,σd,F0,F0,fd,jd,md,by rw[g3,hr],F0,F0⟩
          |ret=>simp[QI]at he
          |exit id=>simp[QI]at he
          |goto l=>cases he
          |panic c=>cases he
          |outgrown=>cases he
        |ret=>simp[QI]at he
        |exit id=>simp[QI]at he
        |goto l=>cases he
        |panic c=>cases he
        |outgrown=>cases he
      · refine⟨_,rfl,λa5 f5=>?_⟩
        have hT0:Sk Tryz.prog ⟨[],[],false,false⟩:= .nil;have hI0:∀{R:Type},Qi (R:=R) Tryz.prog [] (Xp Tryz.prog ⟨[],[],false,false⟩ 8 []):=RV hM hT0 Is.nil 8;have m5:MemI [] (λ_=>False) w5 ⟨[(41,vt false)],[],[]⟩ (Mr σ4 41 (.bool false)):=⟨λ_ h=>h.elim,rfl,rfl,(λp hp=>by
          rcases List.mem_cons.1 hp with rfl|hp
          · exact Gx.put rfl (show [Value.bool false]=[Value.bool false]from rfl)
          · cases hp),λp hp=>by cases hp⟩
        refine sA (T:=⟨[],[],false,false⟩) (l2:=[]) hT0 hI0 (J:=λ_ W=>Jx W) (λ_ X Y h k=>hx0 X Y h k) [42] F3 Alw rfl m5 jx f5 λσb Vb wb ab fb jb mb=>?_;refine wpIn_mono (rV (T:=⟨[],[],false,false⟩) hM hT0 hI0 (J:=λ_ W=>Jx W) (λ_ X Y h k=>hx0 X Y h k) (an:= .d) (lv:=[]) (co:=[]) Ani rfl mb jb fb) ?_;rintro e ac wc ⟨he,σc,Vc,fc,jc,mc⟩;cases e with
        |ret=>exact MR F3 fc (.inr jc)
        |normal=>simp[QI]at he
        |exit id=>simp[QI]at he
        |goto l=>cases he
        |panic c=>cases he
        |outgrown=>cases he
theorem sH:∀(q n:Nat) (a:LB),n<10^q->0<q->jY q n a=Lib.decDigits n++a:=by
  intro q
  induction q with
  |zero=>intro n a _ h;omega
  |succ q ih=>
    intro n a hn _;show(if n<10 then UInt8.ofNat (48+n)::a else jY q (n/10) (UInt8.ofNat (48+n %10)::a))=_;rw[Lib.decDigits];by_cases h:n<10
    · rw[if_pos h,dif_pos h];rfl
    · have hq:0<q:=by
        rcases Nat.eq_zero_or_pos q with rfl|h'
        · simp at hn;omega
        · exact h'
      rw[if_neg h,dif_neg h,ih _ _ (by rw[Nat.pow_succ]at hn;omega) hq];simp
theorem qN{n:Int}{y:LB}(h:strconv_Itoa n=some y):(-9223372036854775808<=n/\n<=9223372036854775807)/\y=Lib.itoa n:=by
  unfold strconv_Itoa at h;split at h
  case isFalse=>cases h
  rename_i hd;have hr:=of_decide_eq_true hd;refine⟨hr,?_⟩;rw[<-Option.some.inj h];unfold Lib.itoa;split
  · rw[sH _ _ _ F0 F0,List.append_nil]
  · rw[sH _ _ _ F0 F0,List.append_nil]
theorem sW{w:World}{T:TypeId}{fr:Nat×Nat}{nm:String}(hn:Tryz.prog.globalNamed nm=some 10)(h:w.heap[10]? =some (.cells (Lib.pow10Tab.map λz=>Value.int .u64 z).toArray T fr)):Lib.TabIs Tryz.prog w nm .u64 Lib.pow10Tab:=by
  unfold Lib.TabIs World.var?;rw[hn];simp only[Option.bind_some,h]
noncomputable def Pa:Con:=⟨[.lf (.int .i64) none],[.lf .str none],strconv_Itoa⟩
theorem Awd{gl:List (Nat×List Value)}(hE:Ent Tryz.prog 99)(hG:(10,Lib.pow10Tab.map λz=>Value.int .u64 z)∈gl):ConOk Tryz.prog gl 99 Pa:=by
  refine⟨hE,?_⟩;rintro R N w L0 vs ps n y hargs hlen hit AU hvs hgl hy;obtain rfl:=Option.some.inj (show some [PV.val (.int .i64) n]=some ps from hargs);obtain⟨v0,_,rfl,h0,rfl⟩:=hvs;obtain rfl:v0= .int .i64 n:=by cases(show [v0]=[.int .i64 n]from h0);rfl
  obtain⟨hr,hy2⟩:=qN (show strconv_Itoa n=some y from hy);obtain⟨q1,q2,T,fr,q3⟩:=hgl _ hG;refine(Any.strconv_Itoa Tryz.xP n hr.1 hr.2 w (sW F3 q3)).mono ?_;rintro e w' ⟨rfl,k,os,rfl⟩;subst hy2;refine⟨[sv (Lib.itoa n)],rfl,Rf.sY (e:= .str) ⟨λb hb _=>?_,⟨?_,rfl,rfl,rfl⟩⟩ (λB=>rfl) rfl⟩
  · show(w.heap++os)[b]? =_
    rw[Array.getElem?_append_left hb]
  · show w.heap.size<= (w.heap++os).size
    simp
theorem Bcf{W W':World}(h:KeepN (λ_=>True) W W'):W.grownBy W' none:=⟨h.gr.os,h.gr.tape,h.gr.output,h.gr.le,λk hk _=>h.same k hk trivial⟩
theorem Alh{F:Fence}{n:Nat}{P:Program}{Q:Exit->Act->World->Prop}{a:Act}{w:World}{c:Code}(m:Nat)(I:Nat->Act->World->Prop)(h0:∀a w,¬I 0 a w)
    (hs:∀q a w,I (q+1) a w->c.wpIn F n P (Exit.then (I q) Q) a w) (h:I m a w):(Code.loop c).wpIn F n P Q a w:=by
  refine wpIn_loop_rounds m ?_
  induction m generalizing a w with
  |zero=>exact absurd h (h0 a w)
  |succ m ih=>
    rw[roundsIn_succ];refine wpIn_mono (hs m a w h) λe a' w' hh=>?_;cases e<;>first|exact ih hh|exact hh
theorem Aye{α:Type}{c:Prop} [Decidable c]{a b y:α}(h:(if c then a else b)=y)(hc:¬c):b=y:=by rw[if_neg hc]at h;exact h
theorem Arz{A:Reg}{w:World}{v:Value}{k:Kd}{l y:List k.T}{a:Int}(h:Ax A w (.list (.int k)) l [v])(hc:Cb l a (Ad l)=some y):
    ∃(p:Option Addr) (len cap m:Nat),v= .slice p len cap/\a=(m:Int)/\m<=len/\len<=cap/\Ax A w (.list (.int k)) y [.slice (if cap=m then p else p.map (·.add m)) (len-m) (cap-m)]:=by
  obtain⟨v1,c0,e1,h1,h2⟩:=h;cases e1;obtain⟨p,len,cap,rfl,g1,g2,g3,g4⟩:=h1;obtain⟨k1,k2,k3,k4,rfl⟩:=LD hc;simp only[ET.size,Nat.mul_one]at g1 g4;have hll:=h2.len (z:=1) λx c h=>by rw[show c=_ from h];rfl
  have hln:l.length=len:=F0
  have hto:(Ad l).toNat=len:=by simp[Ad,hln]
  rw[hto]at k3⊢;refine⟨p,len,cap,a.toNat,rfl,k1,k3,g2,_,c0.drop a.toNat,rfl,⟨_,_,_,rfl,?_,F0,λhp=>?_,λhcap=>?_⟩,?_⟩
  · simp only[ET.size,List.length_drop];omega
  · split at hp
    · omega
    · rename_i hne
      cases p with
      |none=>have:=g3 rfl;omega
      |some a=>cases hp
  · rw[if_neg F0]
    obtain⟨b,off,arr,T,fr,rfl,e2,e3,e4,e5⟩:=g4 F0;refine⟨b,off+a.toNat,arr,T,fr,by simp[Addr.add],e2,e3,by simp only[ET.size];omega,λi hi=>?_⟩;simp only[ET.size]at hi;rw[List.getElem?_drop,<-e5 (a.toNat+i) F0,Nat.add_assoc]
  · have:=Cj.drop (z:=1) (λx c h=>by rw[show c=_ from h];rfl) a.toNat h2
    rw[Nat.mul_one]at this;rw[List.take_of_length_le F0];exact this
theorem Azn{P:Program}{f:Nat}{gl:List (Nat×List Value)}{F:List UInt8->Option (Int×Int)}(hC:ConOk P gl f ⟨[.lf (.list (.int .u8)) none],[.lf (.int .i64) none, .lf (.int .i64) none],F⟩){A:Reg}{W:World}{v:Value}{s:List UInt8}{r:Int×Int}
    (hv:Ax A W (.list (.int .u8)) s [v]) (hgl:GlOk gl A W) (h:F s=some r):Calls P f #[v] W λe W'=>e= .returned (.tuple #[.int .i64 r.1, .int .i64 r.2])/\KeepN (λ_=>True) W W':=by
  have hv':Ax (λ_=>True/\True) W (.list (.int .u8)) s [v]:=Ax.step (λ_ _=>⟨trivial,trivial⟩) (λ_ _=>rfl) hv;refine(hC.ok (λ_=>True) (λ_=>True) W [] [v] [.val (.list (.int .u8)) s] s r rfl rfl (λi a m _ h=>by simp at h) trivial ⟨v,[],rfl,hv',rfl⟩ (λp hp=>⟨(hgl p hp).1,trivial,(hgl p hp).2.2⟩) h).mono ?_;rintro e w' ⟨us,rfl,hk,A1,L1,g1,g2,g3⟩;obtain⟨ps,its,k1,k2,k3,k4,k5⟩:=g3 ⟨[],[],[]⟩ [] (λ_=>True) rfl (λ_ _=>trivial) (λ_ _ _=>trivial);refine⟨?_,hk⟩;obtain rfl:=Option.some.inj (show some [PV.val (.int .i64) r.1,PV.val (.int .i64) r.2]=some ps from k2);obtain⟨_,_,rfl,e1,_,_,rfl,e2,rfl⟩:=k3;cases(show [_]=[Value.int .i64 r.1]from e1);cases(show [_]=[Value.int .i64 r.2]from e2);rfl
structure KpF (n₀ Bx:Nat) (A B:World):Prop where
  le:A.heap.size<=B.heap.size
  box:B.heap[Bx]? =A.heap[Bx]?
  old:∀k,k<n₀->B.heap[k]? =A.heap[k]?
def F!(l:List (Int×Int)):Int:=l.foldl (λs x=>Ae s x.1) 0
def fin(y:Int×Int)(xs:List (Int×Int)):Prop:=(∃x∈xs,x.2≠0)\/y=(F! xs,0)
def wT(y:Int×Int)(pre:List (Int×Int)):Prop:=∃p x,pre=p++[x]/\ (x.2≠0->y=(0,x.2))
theorem Tryz.Azc:Tryz.f262.ntmps=35:=F3
theorem Tryz.u25:Tryz.prog.underlying 29=some (.slice 5):=F3
theorem Tryz.sz5:Im Tryz.prog 5 1:=Im.mk F3
set_option maxHeartbeats 2000000 in
set_option maxRecDepth 100000 in
theorem Ar4(n:Nat)(l Bx n₀:Nat)(v:Value)(b:List UInt8)(y:Int×Int)(J Jx:List (Int×Int)->World->Prop)(gl:List (Nat×List Value))
    (hC:ConOk Tryz.prog gl 263 ⟨[.lf (.list (.int .u8)) none],[.lf (.int .i64) none, .lf (.int .i64) none],Ue⟩)
    (hY:∀pre x W,J pre W->pre.length<Ay->YieldAt Fence.wide (n-1) Tryz.prog l #[.int .i64 x.1, .int .i64 x.2] W λe W'=>
      (e= .returned (.bool true)/\J (pre++[x]) W'/\KpF n₀ Bx W W')\/ (e= .returned (.bool false)/\Jx (pre++[x]) W'))
    (W0:World) (hJ:AbidesFrom W0.heap.size J) (fM:W0.heap[Bx]? =some (.cells #[v] 29 (0,0))) (hn:n₀<=W0.heap.size) (hv:Ax (λk=>k<n₀) W0 (.list (.int .u8)) b [v]) (hgl:GlOk gl (λk=>k<n₀) W0)
    (h0:J [] W0) (hy:Hf b=some y):
    CallsIn Fence.wide n Tryz.prog 262 #[.func (.yield l) #[] #[], .pointer (some ⟨Bx,0,none⟩)] W0 λe W'=>(∃v,e= .returned v)/\ ((∃ys,fin y ys/\J ys W')\/ (∃pre,wT y pre/\Jx pre W')):=by
  refine callsIn_of_wp Tryz.func262 rfl trivial ?_ rfl;simp only[Tryz.Azc,List.size_toArray,List.length_cons,List.length_nil,Nat.reduceAdd,Nat.reduceSub,Array.replicate_succ,Array.replicate_zero,List.push_toArray,List.append_toArray,List.nil_append,List.cons_append]
  gi_wp2
  refine Alh Ay (λq a W=>∃(pre:List (Int×Int)) (x:Int) (v2 v4 v5 v6 v7 v8 v9 v10 v11 v12 v13 v14 v15 v16 v17 v18 v19 v20 v21 v22 v23 v24 v25 v26 v27 v28 v29 v30 v31 v32 v33 v34:Value),a={tmps:= #[.func (.yield l) #[] #[], .pointer (some ⟨Bx,0,none⟩),v2, .int .i64 x,v4,v5,v6,v7,v8,v9,v10,v11,v12,v13,v14,v15,v16,v17,v18,v19,v20,v21,v22,v23,v24,v25,v26,v27,v28,v29,v30,v31,v32,v33,v34],defers:=[]}/\Tf b q x=some y/\F! pre=x/\pre.length+q=Ay/\J pre W/\KpF n₀ Bx W0 W/\W0.heap.size<=W.heap.size) ?_ ?_ ?_
  · rintro a W ⟨pre,x,v2,v4,v5,v6,v7,v8,v9,v10,v11,v12,v13,v14,v15,v16,v17,v18,v19,v20,v21,v22,v23,v24,v25,v26,v27,v28,v29,v30,v31,v32,v33,v34,_,h,_⟩
    cases h
  · rintro q a W ⟨pre,x,v2,v4,v5,v6,v7,v8,v9,v10,v11,v12,v13,v14,v15,v16,v17,v18,v19,v20,v21,v22,v23,v24,v25,v26,v27,v28,v29,v30,v31,v32,v33,v34,rfl,h,hx,hl,hJ1,hk,hs⟩
    simp only[Tf]at h;obtain⟨s,hcut,h⟩:=Go.Lv.bind_some h;obtain⟨r,hsz,h⟩:=Go.Lv.bind_some h;have hvW:Ax (λk=>k<n₀) W (.list (.int .u8)) b [v]:=Ax.step (λ_ h=>h) (λk hk'=>hk.old k hk') hv;obtain⟨p,len,cap,m,rfl,rfl,hm,hlc,hsv⟩:=Arz (k:= .u8) hvW hcut;have hc:W.cell? ⟨Bx,0,none⟩=some (.slice p len cap):=by
      have:=hk.box;simp only[World.cell?,this,fM];rfl
    have hu:=Tryz.u25;have hz:=Tryz.sz5;obtain⟨k,e⟩:=r;have e1:geq e 6=(e==6):=rfl;have e2:geq e 0=(e==0):=rfl;have e3:Ae (m:Int) k=RowKit.wrap64 (m+k):=by
      simp only[Ae,GI.ofZ,GI.toZ,Go.Lv.wrap64,RowKit.wrap64];exact IntKind.wrap_i64 _
    have e4:Eg (RowKit.wrap64 (m+k)) 4000=decide (4000<RowKit.wrap64 (m+k)):=rfl;have e5:Bg e 0=(e !=0):=rfl;rw[e1,e2,e3,e4,e5]at h;have hp:=h;have hgW:GlOk gl (λk=>k<n₀) W:=λp hp=>⟨Nat.lt_of_lt_of_le (hgl p hp).1 hs,(hgl p hp).2.1,by rw[hk.old _ (hgl p hp).2.1];exact(hgl p hp).2.2⟩;have hcall:∀v',Ax (λk=>k<n₀) W (.list (.int .u8)) s [v']->CallsIn Fence.wide (n-1) Tryz.prog 263 #[v'] W λe0 W'=>e0= .returned (.tuple #[.int .i64 k, .int .i64 e])/\KeepN (λ_=>True) W W':=
      λv' hv'=>callsIn_wide.2 (Azn hC hv' hgW hsz)
    have hsm:∀z:Int,F! (pre++[(k,z)])=RowKit.wrap64 (m+k):=λz=>by rw[<-e3,<-hx];simp[F!]
    have hlt:Bx<W.heap.size:=Nat.lt_of_lt_of_le (Array.getElem?_eq_some_iff.1 fM).1 hs
    gi_wp2
    all_goals
      refine⟨trivial,(λh=>nomatch h),(hcall _ (by first|(rw[if_neg (by assumption)]at hsv;exact hsv)|(simpa [*]using hsv))).mono ?_⟩;rintro e0 W1 ⟨rfl,hk1⟩;have hJ2:=hJ pre W W1 none hJ1 (Bcf hk1) (λr e=>by cases e);have hyl:∀e',YieldAt Fence.wide (n-1) Tryz.prog l #[Value.int IntKind.i64 k,Value.int IntKind.i64 e'] W1 _:=λe'=>hY pre (k,e') W1 hJ2 F0
      gi_wp2
      · rename_i h6
        rw[if_pos h6]at hp;refine bodyPost_ret (results_none rfl _ _ _) rfl ?_;exact⟨⟨_,rfl⟩, .inl ⟨pre, .inr (by rw[hx];cases hp;rfl),hJ2⟩⟩
      · obtain⟨fn,tmps,assign,body,hy1,hR⟩:=hyl 4
        rw[hy1]
        gi_wp2
        refine⟨(λh=>nomatch h),hR.mono ?_⟩;rintro e3 W3 (⟨rfl,hJ3,hk3⟩|⟨rfl,hJx3⟩)
        · gi_wp2
          refine bodyPost_ret (results_none rfl _ _ _) rfl ?_;exact⟨⟨_,rfl⟩, .inl ⟨pre++[(k,4)], .inl ⟨(k,4),F8,F8⟩,hJ3⟩⟩
        · gi_wp2
          refine bodyPost_ret (results_none rfl _ _ _) rfl ?_;refine⟨⟨_,rfl⟩, .inr ⟨pre++[(k,4)],⟨pre,(k,4),rfl,λhne=>?_⟩,hJx3⟩⟩;simp at hne
          all_goals simp_all
      · obtain⟨fn,tmps,assign,body,hy1,hR⟩:=hyl 0
        rw[hy1]
        gi_wp2
        refine⟨(λh=>nomatch h),hR.mono ?_⟩;rintro e3 W3 (⟨rfl,hJ3,hk3⟩|⟨rfl,hJx3⟩)
        · gi_wp2
          refine⟨pre++[(k,0)],_,_,_,_,_,_,_,_,_,_,_,_,_,_,_,_,_,_,_,_,_,_,_,_,_,_,_,_,_,_,_,_,_,rfl,?_,‹∀z:Int,F! (pre++[(k,z)])=RowKit.wrap64 ((m:Int)+k)› 0,by simp;omega,hJ3,⟨?_,?_,?_⟩,?_⟩
          · simp_all
            exact Aye (by assumption) F0
          · exact Nat.le_trans hk.le (Nat.le_trans hk1.gr.le hk3.le)
          · exact hk3.box.trans ((hk1.same _ ‹Bx<W.heap.size› trivial).trans hk.box)
          · exact λj hj=>(hk3.old j hj).trans ((hk1.same j (Nat.lt_of_lt_of_le hj (Nat.le_trans hn hs)) trivial).trans (hk.old j hj))
          · exact Nat.le_trans hs (Nat.le_trans hk1.gr.le hk3.le)
        · gi_wp2
          refine bodyPost_ret (results_none rfl _ _ _) rfl ?_;exact⟨⟨_,rfl⟩, .inr ⟨pre++[(k,0)],⟨pre,(k,0),rfl,λhne=>absurd rfl hne⟩,hJx3⟩⟩
      · obtain⟨fn,tmps,assign,body,hy1,hR⟩:=hyl e
        rw[hy1]
        gi_wp2
        refine⟨(λh=>nomatch h),hR.mono ?_⟩;rintro e3 W3 (⟨rfl,hJ3,hk3⟩|⟨rfl,hJx3⟩)
        · gi_wp2
          rename_i hne;refine bodyPost_ret (results_none rfl _ _ _) rfl ?_;exact⟨⟨_,rfl⟩, .inl ⟨pre++[(k,e)], .inl ⟨(k,e),F8,by simpa using hne⟩,hJ3⟩⟩
        · gi_wp2
          refine bodyPost_ret (results_none rfl _ _ _) rfl ?_;refine⟨⟨_,rfl⟩, .inr ⟨pre++[(k,e)],⟨pre,(k,e),rfl,λhne=>?_⟩,hJx3⟩⟩;simp at hne
          all_goals simp_all
  · exact⟨[],0,_,_,_,_,_,_,_,_,_,_,_,_,_,_,_,_,_,_,_,_,_,_,_,_,_,_,_,_,_,_,_,_,rfl,hy,rfl,F8,h0,⟨Nat.le_refl _,rfl,λ_ _=>rfl⟩,Nat.le_refl _⟩
theorem Au7(n Bx n₀:Nat)(v:Value)(b:List UInt8)(y:Int×Int)(gl:List (Nat×List Value))
    (hC:ConOk Tryz.prog gl 263 ⟨[.lf (.list (.int .u8)) none],[.lf (.int .i64) none, .lf (.int .i64) none],Ue⟩)
    (w:World) (fM:w.heap[Bx]? =some (.cells #[v] 29 (0,0))) (hn:n₀<=w.heap.size) (hv:Ax (λk=>k<n₀) w (.list (.int .u8)) b [v]) (hgl:GlOk gl (λk=>k<n₀) w) (hy:Hf b=some y):
    SeqStopsK Fence.wide n Tryz.prog 262 #[.pointer (some ⟨Bx,0,none⟩)] (λx:Int×Int=> #[.int .i64 x.1, .int .i64 x.2]) (KpF n₀ Bx) (fin y) (wT y) Ay w:=by
  intro l J Jx W hW hJ hJx hY h0;have hlt:=(Array.getElem?_eq_some_iff.1 fM).1;have hb:∀k,k<n₀->W.heap[k]? =w.heap[k]? :=λk hk=>hW.block k (Nat.lt_of_lt_of_le hk hn);exact Ar4 n l Bx n₀ v b y J Jx gl hC hY W hJ ((hW.block Bx hlt).trans fM) (Nat.le_trans hn hW.size) (Ax.step (λ_ h=>h) hb hv)
    (λp hp=>⟨Nat.lt_of_lt_of_le (hgl p hp).1 hW.size,(hgl p hp).2.1,by rw[hb _ (hgl p hp).2.1];exact(hgl p hp).2.2⟩) h0 hy
theorem gV{w W:World}{a:Addr}{v:Value}(h:KeepN (λ_=>True) w W)(ha:w.heap.size<=a.block):KeepN (λ_=>True) w (W.setCell a v):=by
  have hb:=(Below.refl w.heap.size W).setCell (p:=a) ha v;exact⟨λb hb' _=>(hb.block b hb').trans (h.same b hb' trivial),h.gr.trans ⟨hb.size,hb.os,hb.tape,hb.output⟩⟩
theorem heap_set{W:World}{a:Addr}{v:Value}{k:Nat}(h:k≠a.block):(W.setCell a v).heap[k]? =W.heap[k]? :=
  ((Below.refl (k+1) {W with heap:=W.heap}).block k F0▸(by
    show(W.heap.modify a.block _)[k]? =W.heap[k]?;rw[Array.getElem?_modify,if_neg (Ne.symm h)]))
theorem Adl{W:World}{B:Nat}{v:Value}{t:TypeId}(h:W.heap[B]? =some (.cells #[v] t (0,0))):W.cell? ⟨B,0,none⟩=some v/\W.frozen? ⟨B,0,none⟩=false:=by
  constructor<;>simp[World.cell?,World.frozen?,h]
theorem pH(W:World)(v:Value)(t:TypeId):(W.alloc (.cells #[v] t)).cell? ⟨W.heap.size,0,none⟩=some v/\ (W.alloc (.cells #[v] t)).frozen? ⟨W.heap.size,0,none⟩=false:=Adl (World.alloc_heap_new W _)
theorem Jk{W:World}{a:Addr}{v:Value}(o:Obj)(h:W.cell? a=some v):(W.alloc o).cell? a=some v:=cell_kept h (World.grownBy_alloc W o none) (λr e=>by cases e)
theorem Ox{W:World}{a:Addr}{v:Value}(o:Obj)(h:W.cell? a=some v)(hf:W.frozen? a=false):(W.alloc o).frozen? a=false:=(frozen_kept h (World.grownBy_alloc W o none) (λr e=>by cases e)).trans hf
theorem Tryz.Ayp:Tryz.f203.ntmps=4:=F3
theorem Tryz.Ayv:Tryz.f151.ntmps=18:=F3
set_option maxHeartbeats 1000000 in
set_option maxRecDepth 100000 in
theorem Asf(n:Nat)(p:Option Addr)(len cap:Nat)(w:World):
    CallsIn Fence.wide n Tryz.prog 203 #[.slice p len cap] w λe w'=>e= .returned (.func (.func 262) #[] #[.pointer (some ⟨w.heap.size,0,none⟩)])/\w'=w.alloc (.cells #[.slice p len cap] 29):=by
  refine callsIn_of_wp Tryz.func203 rfl trivial ?_ rfl;simp only[Tryz.Ayp,List.size_toArray,List.length_cons,List.length_nil,Nat.reduceAdd,Nat.reduceSub,Array.replicate_succ,Array.replicate_zero,List.push_toArray,List.append_toArray,List.nil_append,List.cons_append]
  gi_wp2
  go_ret
  exact⟨rfl,rfl⟩
set_option maxHeartbeats 1000000 in
set_option maxRecDepth 100000 in
theorem Ak3(n:Nat)(h1:3<=n)(p:Option Addr)(len cap:Nat)(b:List UInt8)(y:Int×Int)(gl:List (Nat×List Value))
    (hC:ConOk Tryz.prog gl 263 ⟨[.lf (.list (.int .u8)) none],[.lf (.int .i64) none, .lf (.int .i64) none],Ue⟩)
    (w:World) (hv:Ax (λk=>k<w.heap.size) w (.list (.int .u8)) b [.slice p len cap]) (hgl:GlOk gl (λk=>k<w.heap.size) w) (hy:Hf b=some y):
    CallsIn Fence.wide n Tryz.prog 151 #[.slice p len cap] w λe w'=>e= .returned (.tuple #[.int .i64 y.1, .int .i64 y.2])/\KeepN (λ_=>True) w w':=by
  refine callsIn_of_wp_marks Tryz.func151 rfl trivial ?_ rfl;simp only[Tryz.Ayv,List.size_toArray,List.length_cons,List.length_nil,Nat.reduceAdd,Nat.reduceSub,Array.replicate_succ,Array.replicate_zero,List.push_toArray,List.append_toArray,List.nil_append,List.cons_append]
  gi_wp2
  refine⟨trivial,(λh=>nomatch h),(Asf (n-1) _ _ _ _).mono ?_⟩;rintro e w' ⟨rfl,rfl⟩
  gi_wp2
  refine wpIn_rangeFunc_ownG (Kp:=KpF w.heap.size (w.heap.size+1+1+1)) rfl F0 (gf:=262) (lb:= #[.pointer (some ⟨w.heap.size+1+1+1,0,none⟩)]) rfl trivial (enters_of Tryz.func262 F3 rfl)
    (Au7 (n-1) (w.heap.size+1+1+1) w.heap.size (.slice p len cap) b y gl hC _ ?fM ?hn ?hv ?hgl hy)
    (λh k=>⟨Nat.le_trans h.le k.le,k.box.trans h.box,λj hj=>(k.old j hj).trans (h.old j hj)⟩) ?hKb (Below.refl _ _) (λ_=>rfl)
    (λpre W=>(∀x∈pre,x.2=0)/\ (W.cell? ⟨w.heap.size+1+1,0,none⟩=some (.int .i64 (F! pre))/\W.frozen? ⟨w.heap.size+1+1,0,none⟩=false)/\
      (∃v,W.cell? ⟨w.heap.size,0,none⟩=some v/\W.frozen? ⟨w.heap.size,0,none⟩=false)/\ (∃v,W.cell? ⟨w.heap.size+1,0,none⟩=some v/\W.frozen? ⟨w.heap.size+1,0,none⟩=false)/\KeepN (λ_=>True) w W)
    (λc pre W=>c= .ret/\ (∃eO x,pre=eO++[x]/\x.2≠0/\W.cell? ⟨w.heap.size,0,none⟩=some (.int .i64 0)/\W.cell? ⟨w.heap.size+1,0,none⟩=some (.int .i64 x.2))/\KeepN (λ_=>True) w W)
    ?hI ?hIx ?h0
    (λx=>{tmps:= #[.slice p len cap,undef, .pointer (some ⟨w.heap.size,0,none⟩), .pointer (some ⟨w.heap.size+1,0,none⟩), .pointer (some ⟨w.heap.size+1+1,0,none⟩), .int .i64 x.1, .int .i64 x.2, .slice p len cap, .func (.func 262) #[] #[.pointer (some ⟨w.heap.size+1+1+1,0,none⟩)], .int .i64 x.1, .int .i64 x.2,undef,undef,undef,undef,undef,undef,undef],defers:=[]}) ?assign ?body ?done ?stop
  case assign=>
    intro l x W K hK
    gi_wp2
    exact hK
  case body=>
    rintro l pre x W ⟨hz,⟨hc,hf⟩,⟨v2,hc2,hf2⟩,⟨v3,hc3,hf3⟩,hk⟩ _
    gi_wp2
    · rename_i hx
      refine⟨(KeepsOthers.trans (KeepsOthers.setCell _ _ _) (KeepsOthers.setCell _ _ _)).from _,rfl,⟨pre,x,rfl,by simpa using hx,?_,?_⟩,gV (gV hk (Nat.le_refl _)) (Nat.le_succ _)⟩
      · refine(World.cell?_setCell_other _ _ _ _ F8).trans ?_
        exact World.cell?_setCell_same' _ _ _ (by rw[hc2];rfl)
      · refine World.cell?_setCell_same' _ _ _ ?_
        rw[World.cell?_setCell_other W ⟨w.heap.size,0,none⟩ ⟨w.heap.size+1,0,none⟩ _ F8,hc3];rfl
    · rename_i hx
      have hx0:x.2=0:=by simpa using hx
      refine⟨(KeepsOthers.setCell _ _ _).from _,⟨((Below.refl 0 W).setCell (p:=⟨w.heap.size+1+1,0,none⟩) (Nat.zero_le _) _).size,heap_set F8,λk hk'=>heap_set F5⟩,?_,⟨?_,by rw[World.frozen?_setCell];exact hf⟩,⟨v2,?_,by rw[World.frozen?_setCell];exact hf2⟩,⟨v3,?_,by rw[World.frozen?_setCell];exact hf3⟩,gV hk F5⟩
      · intro z hz'
        rcases List.mem_append.1 hz' with h|h
        · exact hz z h
        · simp at h;subst h;exact hx0
      · have e:F! (pre++[x])=RowKit.wrap64 (F! pre+x.1):=by
          simp only[F!,List.foldl_append,List.foldl_cons,List.foldl_nil,Ae,GI.ofZ,GI.toZ,Go.Lv.wrap64,RowKit.wrap64];exact IntKind.wrap_i64 _
        rw[e];exact World.cell?_setCell_same' _ _ _ (by rw[hc];rfl)
      · exact(World.cell?_setCell_other _ _ _ _ (by simp;try omega)).trans hc2
      · exact(World.cell?_setCell_other _ _ _ _ F8).trans hc3
  case done=>
    rintro D xs W hD hS ⟨hz,⟨hc,hf⟩,⟨v2,hc2,hf2⟩,⟨v3,hc3,hf3⟩,hk⟩ hK
    gi_wp2
    have hy':y=(F! xs,0):=hS.elim (λ⟨x,hx,hne⟩=>absurd (hz x hx) hne) id;have hlen:w.heap.size+4<=D:=by simp only[World.size_alloc]at hD;omega
    have hK':=((KeepsOthers.setCell W ⟨w.heap.size,0,none⟩ (.int .i64 (F! xs))).trans (KeepsOthers.setCell _ ⟨w.heap.size+1,0,none⟩ (.int .i64 0))).same D _ hK rfl;have hk2:=gV (v:= .int .i64 0) (a:=⟨w.heap.size+1,0,none⟩) (gV (v:= .int .i64 (F! xs)) (a:=⟨w.heap.size,0,none⟩) hk (Nat.le_refl _)) (Nat.le_succ _);have d0:((W.setCell ⟨w.heap.size,0,none⟩ (.int .i64 (F! xs))).setCell ⟨w.heap.size+1,0,none⟩ (.int .i64 0)).cell? ⟨w.heap.size,0,none⟩=some (.int .i64 (F! xs)):=
      (World.cell?_setCell_other _ _ _ _ F8).trans (World.cell?_setCell_same' _ _ _ (by rw[hc2];rfl))
    have d1:((W.setCell ⟨w.heap.size,0,none⟩ (.int .i64 (F! xs))).setCell ⟨w.heap.size+1,0,none⟩ (.int .i64 0)).cell? ⟨w.heap.size+1,0,none⟩=some (.int .i64 0):=
      World.cell?_setCell_same' _ _ _ (by rw[World.cell?_setCell_other W ⟨w.heap.size,0,none⟩ ⟨w.heap.size+1,0,none⟩ _ F8,hc3];rfl)
    refine⟨F8, .inl ⟨_,_,rfl,run_takeDeferred hK',?_⟩⟩;have hg:=grownBy_putObj' ((W.setCell ⟨w.heap.size,0,none⟩ (.int .i64 (F! xs))).setCell ⟨w.heap.size+1,0,none⟩ (.int .i64 0)) D (.deferred none);have hr':∀r,some D=some r->∃o:Obj,((W.setCell ⟨w.heap.size,0,none⟩ (.int .i64 (F! xs))).setCell ⟨w.heap.size+1,0,none⟩ (.int .i64 0)).heap[r]? =some o/\o.isCells=false:=λr e=>by cases e;exact⟨_,hK',rfl⟩
    have hc5:=cell_kept d0 hg hr';have hc6:=cell_kept d1 hg hr';refine⟨.tuple #[.int .i64 (F! xs), .int .i64 0],?_,by rw[hy'],?_⟩
    · simp[results,Tryz.f151,go_sem,hc5,hc6]
    · refine⟨λb hb _=>(hg.block b (Nat.lt_of_lt_of_le hb hk2.gr.le) (λe=>?_)).trans (hk2.same b hb trivial),hk2.gr.trans ⟨hg.size,hg.os,hg.tape,hg.output⟩⟩
      cases e;omega
  case stop=>
    rintro D c pre W hD hS ⟨rfl,⟨eO,x,rfl,hx,hc2,hc3⟩,hk⟩ hK
    gi_wp2
    obtain⟨p1,x1,he,hy1⟩:=hS;have hy':y=(0,x.2):=by
      have:=List.append_inj' he rfl;cases this.2;exact hy1 hx
    have hlen:w.heap.size+4<=D:=by simp only[World.size_alloc]at hD;omega
    refine⟨F8, .inl ⟨_,_,rfl,run_takeDeferred hK,?_⟩⟩;have hg:=grownBy_putObj' W D (.deferred none);have hr':∀r,some D=some r->∃o:Obj,W.heap[r]? =some o/\o.isCells=false:=λr e=>by cases e;exact⟨_,hK,rfl⟩
    have hc5:=cell_kept hc2 hg hr';have hc6:=cell_kept hc3 hg hr';refine⟨.tuple #[.int .i64 0, .int .i64 x.2],?_,by rw[hy'],?_⟩
    · simp[results,Tryz.f151,go_sem,hc5,hc6]
    · refine⟨λb hb _=>(hg.block b (Nat.lt_of_lt_of_le hb hk.gr.le) (λe=>?_)).trans (hk.same b hb trivial),hk.gr.trans ⟨hg.size,hg.os,hg.tape,hg.output⟩⟩
      cases e;omega
  case fM=>
    have h:=World.alloc_heap_new (((w.alloc (.cells #[.int .i64 0] 3)).alloc (.cells #[.int .i64 0] 24)).alloc (.cells #[.int .i64 0] 3)) (.cells #[.slice p len cap] 29);simp only[World.size_alloc]at h;exact h
  case hn=>simp;omega
  case hI=>
    rintro s A B row ⟨hz,⟨hc,hf⟩,⟨v2,hc2,hf2⟩,⟨v3,hc3,hf3⟩,hk⟩ hg hr;have hr':∀r,row=some r->∃o:Obj,A.heap[r]? =some o/\o.isCells=false:=λr e=>(hr r e).2;refine⟨hz,⟨cell_kept hc hg hr',(frozen_kept hc hg hr').trans hf⟩,⟨v2,cell_kept hc2 hg hr',(frozen_kept hc2 hg hr').trans hf2⟩,⟨v3,cell_kept hc3 hg hr',(frozen_kept hc3 hg hr').trans hf3⟩,?_⟩;refine⟨λb hb _=>(hg.block b (Nat.lt_of_lt_of_le hb hk.gr.le) (λe=>?_)).trans (hk.same b hb trivial),hk.gr.trans ⟨hg.size,hg.os,hg.tape,hg.output⟩⟩;have:=(hr b e.symm).1;simp at this;omega
  case hIx=>
    rintro c s A B row ⟨hc,⟨eO,x,hs,hx,hc2,hc3⟩,hk⟩ hg hr;have hr':∀r,row=some r->∃o:Obj,A.heap[r]? =some o/\o.isCells=false:=λr e=>(hr r e).2;refine⟨hc,⟨eO,x,hs,hx,cell_kept hc2 hg hr',cell_kept hc3 hg hr'⟩,?_⟩;refine⟨λb hb _=>(hg.block b (Nat.lt_of_lt_of_le hb hk.gr.le) (λe=>?_)).trans (hk.same b hb trivial),hk.gr.trans ⟨hg.size,hg.os,hg.tape,hg.output⟩⟩;have:=(hr b e.symm).1;simp at this;omega
  case hKb=>
    intro W l o o' hl h _ _;have hlt:=(Array.getElem?_eq_some_iff.1 h).1;simp at hl;have hg:=grownBy_putObj' W l o';exact⟨hg.size,hg.block _ F0 (λe=>by cases e;omega),λk hk=>hg.block k F0 (λe=>by cases e;omega)⟩
  case hgl=>
    intro q hq;refine⟨by simp;have:=(hgl q hq).1;omega,(hgl q hq).2.1,?_⟩;have hb:=((((Below.refl w.heap.size w).alloc (Nat.le_refl _) (.cells #[.int .i64 0] 3)).alloc F8 (.cells #[.int .i64 0] 24)).alloc F5 (.cells #[.int .i64 0] 3)).alloc F5 (.cells #[.slice p len cap] 29);rw[hb.block _ (hgl q hq).1];exact(hgl q hq).2.2
  case hv=>
    have hb:=((((Below.refl w.heap.size w).alloc (Nat.le_refl _) (.cells #[.int .i64 0] 3)).alloc F8 (.cells #[.int .i64 0] 24)).alloc F5 (.cells #[.int .i64 0] 3)).alloc F5 (.cells #[.slice p len cap] 29);exact Ax.step (λ_ h=>h) (λk hk=>hb.block k hk) hv
  case h0=>
    have c0:=pH w (.int .i64 0) 3;have c1:=pH (w.alloc (.cells #[.int .i64 0] 3)) (.int .i64 0) 24;have c2:=pH ((w.alloc (.cells #[.int .i64 0] 3)).alloc (.cells #[.int .i64 0] 24)) (.int .i64 0) 3;simp only[World.size_alloc]at c1 c2;have hb:=((((Below.refl w.heap.size w).alloc (Nat.le_refl _) (.cells #[.int .i64 0] 3)).alloc F8 (.cells #[.int .i64 0] 24)).alloc F5 (.cells #[.int .i64 0] 3)).alloc F5 (.cells #[.slice p len cap] 29);exact⟨F8,⟨Jk _ c2.1,Ox _ c2.1 c2.2⟩,⟨_,Jk _ (Jk _ (Jk _ c0.1)),Ox _ (Jk _ (Jk _ c0.1)) (Ox _ (Jk _ c0.1) (Ox _ c0.1 c0.2))⟩,
      ⟨_,Jk _ (Jk _ c1.1),Ox _ (Jk _ c1.1) (Ox _ c1.1 c1.2)⟩,⟨λb hb' _=>hb.block b hb',⟨hb.size,hb.os,hb.tape,hb.output⟩⟩⟩
def Lk:Con:=⟨[.lf (.list (.int .u8)) none],[.lf (.int .i64) none, .lf (.int .i64) none],λx=>Hf x⟩
theorem Ay5{gl:List (Nat×List Value)}(hE:Ent Tryz.prog 151)(hC:ConOk Tryz.prog gl 263 ⟨[.lf (.list (.int .u8)) none],[.lf (.int .i64) none, .lf (.int .i64) none],Ue⟩):ConOk Tryz.prog gl 151 Lk:=by
  refine⟨hE,?_⟩;intro R N w L0 vs ps x y hargs hlen hit AU hvs hgl hy;obtain rfl:=Option.some.inj (show some [PV.val (.list (.int .u8)) x]=some ps from hargs);obtain⟨v,_,rfl,h1,rfl⟩:=hvs;have h2:Ax (λb=>R b/\N b) w (.list (.int .u8)) x [v]:=h1;have h3:=Ax.step (B':=λk=>k<w.heap.size) (λ_ h=>h.1) (λ_ _=>rfl) (Yx h2);obtain⟨p,len,cap,rfl⟩:∃p len cap,v= .slice p len cap:=by
    obtain⟨v1,c0,e1,⟨p,len,cap,rfl,_⟩,_⟩:=h2;cases e1;exact⟨_,_,_,rfl⟩
  refine(callsIn_wide.1 (Ak3 3 (Nat.le_refl _) p len cap x y gl hC w h3 (λq hq=>⟨(hgl q hq).1,(hgl q hq).1,(hgl q hq).2.2⟩) hy)).mono ?_;rintro e w' ⟨rfl,hk⟩;refine⟨[.int .i64 y.1, .int .i64 y.2],rfl,⟨λb hb _=>hk.same b hb trivial,hk.gr⟩,λ_=>False,[],λ_ h=>h.elim,?_,?_⟩
  · trivial
  · intro s L B' hl _ _
    refine⟨[.val (.int .i64) y.1, .val (.int .i64) y.2],[],(show s=⟨s.sl,s.it++[],s.st⟩ by simp),rfl,?_,rfl,λi a m h=>by simp at h⟩;exact⟨_,_,rfl,rfl,_,_,rfl,rfl,rfl⟩
noncomputable def TH:Con:=⟨[.lf .str none],[.lf (.int .i32) none, .lf (.int .i64) none],Auo⟩
theorem Ayt{gl:List (Nat×List Value)}(hE:Ent Tryz.prog 139):ConOk Tryz.prog gl 139 TH:=⟨hE,λ_ _ _ _ _ _ _ _ _ _ _ _ _ _ h=>nomatch (show none=some _ from h)⟩
noncomputable def bY:Con:=⟨[.lf (.list (.int .u8)) none, .lf .str none],[.lf (.list (.int .i64)) (some 3), .lf (.int .i64) none],λx=>pN x.1 x.2⟩
theorem Bc9{gl:List (Nat×List Value)}(hE:Ent Tryz.prog 80):ConOk Tryz.prog gl 80 bY:=⟨hE,λ_ _ _ _ _ _ _ _ _ _ _ _ _ _ h=>nomatch (show none=some _ from h)⟩
noncomputable def HP:Con:=⟨[.lf (.list (.int .u8)) none, .lf .str none],[.lf (.list (.int .u8)) (some 5), .lf (.int .i64) none],λx=>UF x.1 x.2⟩
theorem Bg3{gl:List (Nat×List Value)}(hE:Ent Tryz.prog 82):ConOk Tryz.prog gl 82 HP:=⟨hE,λ_ _ _ _ _ _ _ _ _ _ _ _ _ _ h=>nomatch (show none=some _ from h)⟩
noncomputable def IQ:Con:=⟨[.lf .str none],[.lf (.list (.int .u8)) (some 5), .lf .bool none],UJ⟩
theorem Bgm{gl:List (Nat×List Value)}(hE:Ent Tryz.prog 93):ConOk Tryz.prog gl 93 IQ:=⟨hE,λ_ _ _ _ _ _ _ _ _ _ _ _ _ _ h=>nomatch (show none=some _ from h)⟩
theorem Tryz.Ba2:Tryz.f58.ntmps=28:=F3
noncomputable def Vs:Con:=⟨[.lf .str none],[.lf (.int .i64) none, .lf .bool none],Hu⟩
set_option maxHeartbeats 4000000 in
set_option maxRecDepth 100000 in
theorem As5(n:Nat)(s:LB)(w:World)(y:Int×Bool)(ev er:Value)(hl:s.length<=281474976710656)(hev:ev= .nilIface\/∃te pe,ev= .iface te pe)(her:er= .nilIface\/∃te pe,er= .iface te pe)(T:TypeId)(fr:Nat×Nat)(hv:w.heap[5]? =some (.cells #[ev] T fr)) (T3:TypeId) (fr3:Nat×Nat) (hv3:w.heap[6]? =some (.cells #[er] T3 fr3)) (T2:TypeId) (fr2:Nat×Nat) (htab:w.heap[10]? =some (.cells ((Lib.pow10Tab.map λz=>Value.int .u64 z)).toArray T2 fr2)) (hy:Hu s=some y):
    CallsIn Fence.wide n Tryz.prog 58 #[sv s] w λe w'=>e= .returned (.tuple #[.int .i64 y.1, .bool y.2])/\KeepN (λ_=>True) w w':=by
  unfold Hu at hy;rw[if_pos hl]at hy;have hz:(⟨s.toArray⟩:ByteArray).size<=281474976710656:=show s.toArray.size<= _ by simpa using hl
  refine callsIn_of_wp Tryz.func58 rfl trivial ?_ rfl;simp only[Tryz.Ba2,List.size_toArray,List.length_cons,List.length_nil,Nat.reduceAdd,Nat.reduceSub,Array.replicate_succ,Array.replicate_zero,List.push_toArray,List.append_toArray,List.nil_append,List.cons_append];cases ha:Lib.atoiAll s with
  |ok k=>
    rw[ha]at hy;obtain⟨t,ht,hy⟩:=Go.Lv.bind_some hy;obtain⟨hr,rfl⟩:=qN ht;cases hy
    gi_wp2
    refine⟨trivial,(λh=>nomatch h),(callsIn_wide.2 (Any.strconv_Atoi_ok Tryz.jm ⟨s.toArray⟩ (Nat.le_trans hz F4) k (by simpa using ha) w)).mono ?_⟩;rintro e1 W1 ⟨rfl,hW1⟩;have hb1:Below w.heap.size w W1:=by
      rcases hW1 with rfl|⟨t1,rfl⟩
      · exact Below.refl _ _
      · exact Lib.bytesWorld_below _ _ _
    clear hW1
    gi_wp2
    refine⟨trivial,(λh=>nomatch h),(callsIn_wide.2 (Any.strconv_Itoa Tryz.xP k hr.1 hr.2 W1 (sW F3 ((hb1.block _ (Go.Lv.lt_of_heap htab)).trans htab)))).mono ?_⟩;rintro e2 W2 ⟨rfl,k2,os,hW⟩;have hk:KeepN (λ_=>True) w W2:=by
      rw[hW];exact⟨λb hb _=>by
        show(W1.heap++os)[b]? =_;rw[Array.getElem?_append_left (Nat.lt_of_lt_of_le hb hb1.size),hb1.block b hb],⟨by
        show _<= (W1.heap++os).size;have:=hb1.size;simp;omega,hb1.os,hb1.tape,hb1.output⟩⟩
    clear hW;clear ht hy ha hz
    gi_wp2
    all_goals (go_ret2;refine⟨?_,hk⟩;clear hk;rename_i hx;simp_all [Ha,MQ,GI.toZ];try omega)
  |range=>
    rw[ha]at hy;cases hy
    gi_wp2
    refine⟨trivial,(λh=>nomatch h),(callsIn_wide.2 (Any.strconv_Atoi_range Tryz.jm ⟨s.toArray⟩ hz (by simpa using ha) er w (show w.cell? ⟨6,0,none⟩=some er by rw[Lib.cell_of_heap hv3];rfl) her)).mono ?_⟩;rintro e1 W1 ⟨N,rfl,h1,h2,hb1⟩;have hk:KeepN (λ_=>True) w W1:=⟨λb hb _=>hb1.block b hb,⟨hb1.size,hb1.os,hb1.tape,hb1.output⟩⟩
    gi_wp2
    refine⟨trivial,?_⟩
    gi_wp2
    go_ret2
    exact⟨rfl,hk⟩
  |_=>
    rw[ha]at hy;cases hy
    gi_wp2
    refine⟨trivial,(λh=>nomatch h),(callsIn_wide.2 (Any.strconv_Atoi_syntax Tryz.jm ⟨s.toArray⟩ hz (by simpa using ha) ev w (show w.cell? ⟨5,0,none⟩=some ev by rw[Lib.cell_of_heap hv];rfl) hev)).mono ?_⟩;rintro e1 W1 ⟨N,rfl,h1,h2,hb1⟩;have hk:KeepN (λ_=>True) w W1:=⟨λb hb _=>hb1.block b hb,⟨hb1.size,hb1.os,hb1.tape,hb1.output⟩⟩
    gi_wp2
    refine⟨trivial,?_⟩
    gi_wp2
    go_ret2
    exact⟨rfl,hk⟩
theorem Bfi [Ev]{gl:List (Nat×List Value)}(hE:Ent Tryz.prog 58)(hG:(10,Lib.pow10Tab.map λz=>Value.int .u64 z)∈gl)(hS:(5,[Ev.ev 5])∈gl)(hQ:(6,[Ev.ev 6])∈gl):ConOk Tryz.prog gl 58 Vs:=by
  refine⟨hE,?_⟩;rintro R N w L0 vs ps s y hargs hlen hit AU hvs hgl hy;obtain rfl:=Option.some.inj (show some [PV.val .str s]=some ps from hargs);obtain⟨v0,_,rfl,h0,rfl⟩:=hvs;obtain rfl:v0=sv s:=by cases(show [v0]=[sv s]from h0);rfl
  replace hy:Hu s=some y:=hy
  have hl:s.length<=281474976710656:=by
    unfold Hu at hy;split at hy
    · assumption
    · cases hy
  obtain⟨_,_,T,fr,q3⟩:=hgl _ hS;obtain⟨_,_,T3,fr3,q5⟩:=hgl _ hQ;obtain⟨_,_,T2,fr2,q4⟩:=hgl _ hG;refine(callsIn_wide.1 (As5 4 s w y (Ev.ev 5) (Ev.ev 6) hl (Ev.ok _) (Ev.ok _) T fr q3 T3 fr3 q5 T2 fr2 q4 hy)).mono ?_;rintro e w' ⟨rfl,hk⟩;refine⟨[.int .i64 y.1, .bool y.2],rfl,⟨λb hb _=>hk.same b hb trivial,hk.gr⟩,λ_=>False,[],λb hb=>hb.elim,trivial,?_⟩;intro s' L B' hl h1 _;exact⟨[.val (.int .i64) y.1, .val .bool y.2],[],by
    show(⟨s'.sl,s'.it,s'.st⟩:S)=⟨s'.sl,s'.it++[],s'.st⟩;rw[List.append_nil],rfl,⟨_,_,rfl,rfl,_,_,rfl,rfl,rfl⟩,rfl,λi a m h=>by simp at h⟩
noncomputable def TJ:Con:=⟨[.lf .str none, .lf (.list (.int .u8)) none, .lf (.list (.cons (.int .u8) (.cons (.int .i64) .nil))) none],[.lf (.int .i64) none, .lf (.int .i64) none, .lf (.int .i64) none],λx=>iI x.1 x.2.1 x.2.2⟩
theorem Ay2{gl:List (Nat×List Value)}(hE:Ent Tryz.prog 142):ConOk Tryz.prog gl 142 TJ:=⟨hE,λ_ _ _ _ _ _ _ _ _ _ _ _ _ _ h=>nomatch (show none=some _ from h)⟩
noncomputable def LH:Con:=⟨[.lf (.list (.int .u8)) none, .lf .str none, .lf (.int .i64) none],[.agg [.lf (.int .i64) none, .lf (.int .u8) none, .lf (.int .i64) none, .lf (.int .i64) none], .lf (.int .i64) none],λx=>Ru x.1 x.2.1 x.2.2⟩
theorem Bhe{gl:List (Nat×List Value)}(hE:Ent Tryz.prog 84):ConOk Tryz.prog gl 84 LH:=⟨hE,λ_ _ _ _ _ _ _ _ _ _ _ _ _ _ h=>nomatch (show none=some _ from h)⟩
noncomputable def lD:Con:=⟨[.lf (.list (.int .u8)) none, .lf .str none, .lf (.int .i64) none],[.lf (.list (.int .u8)) (some 5), .lf (.int .i64) none],λx=>vD x.1 x.2.1 x.2.2⟩
theorem Beg{gl:List (Nat×List Value)}(hE:Ent Tryz.prog 87):ConOk Tryz.prog gl 87 lD:=⟨hE,λ_ _ _ _ _ _ _ _ _ _ _ _ _ _ h=>nomatch (show none=some _ from h)⟩
noncomputable def OS:Con:=⟨[.lf (.list (.int .u8)) none, .lf (.int .i64) none, .lf (.int .u32) none],[.lf (.list (.int .u8)) (some 5), .lf (.int .i64) none],λx=>aO x.1 x.2.1 x.2.2⟩
theorem Bhf{gl:List (Nat×List Value)}(hE:Ent Tryz.prog 89):ConOk Tryz.prog gl 89 OS:=⟨hE,λ_ _ _ _ _ _ _ _ _ _ _ _ _ _ h=>nomatch (show none=some _ from h)⟩
noncomputable def TK:Con:=⟨[.lf .str none, .lf (.list (.int .u8)) none, .lf (.int .i64) none, .lf (.int .i64) none],[.lf (.int .i64) none, .lf (.int .i64) none],λx=>kK x.1 x.2.1 x.2.2.1 x.2.2.2⟩
theorem Ay9{gl:List (Nat×List Value)}(hE:Ent Tryz.prog 90):ConOk Tryz.prog gl 90 TK:=⟨hE,λ_ _ _ _ _ _ _ _ _ _ _ _ _ _ h=>nomatch (show none=some _ from h)⟩
theorem uf:∀(q n:Nat) (a b:LB),jY q n (a++b)=jY q n a++b
  |0,n,a,b=>rfl
  |q+1,n,a,b=>by
    unfold jY;split
    · rfl
    · exact uf q (n/10) (UInt8.ofNat (48+n %10)::a) b
theorem s?:∀(q n:Nat) (a:LB),n<10^q->0<q->jY (q+1) n a=jY q n a
  |0,n,a,h,h0=>absurd h0 F4
  |1,n,a,h,h0=>by
    unfold jY;rw[if_pos F0,if_pos F0]
  |q+2,n,a,h,h0=>by
    rw[jY]
    conv=>rhs;rw[jY]
    split
    · rfl
    · exact s? (q+1) (n/10) _ (by rw[Nat.pow_succ]at h;omega) F0
theorem tq:∀(q n:Nat) (a:LB),(jY q n a).length<=a.length+q
  |0,n,a=>Nat.le_refl _
  |q+1,n,a=>by
    unfold jY;split
    · rw[List.length_cons];omega
    · have:=tq q (n/10) (UInt8.ofNat (48+n %10)::a)
      rw[List.length_cons]at this;omega
theorem As1(k:Nat)(h:¬k<10)(h2:k<=9223372036854775807):jY 20 k []=jY 20 (k/10) []++[UInt8.ofNat (48+k %10)]:=by
  rw[jY,if_neg h,s? 19 (k/10) [] F0 F4];exact uf 19 (k/10) [] [UInt8.ofNat (48+k %10)]
theorem Tryz.Bav:Tryz.f19.ntmps=18:=F3
set_option maxHeartbeats 4000000 in
set_option maxRecDepth 100000 in
theorem Aqa(k:Nat):k<=9223372036854775807->∀(n:Nat) (w:World),CallsIn Fence.wide n Tryz.prog 19 #[.int .i64 (k:Int)] w λe w'=>e= .returned (sv (jY 20 k []))/\KeepN (λ_=>True) w w':=by
  induction k using Nat.strongRecOn with
  |_ k ih=>
    intro hk n w;refine callsIn_of_wp Tryz.func19 rfl trivial ?_ rfl;simp only[Tryz.Bav,List.size_toArray,List.length_cons,List.length_nil,Nat.reduceAdd,Nat.reduceSub,Array.replicate_succ,Array.replicate_zero,List.push_toArray,List.append_toArray,List.nil_append,List.cons_append]
    gi_wp2
    have hb8:(UInt8.ofNat (48+k %10)).toNat=48+k %10:=by rw[UInt8.toNat_ofNat'];omega
    have hcv:Value.int IntKind.u8 (48+(k:Int) %10)=Value.int IntKind.u8 ((UInt8.ofNat (48+k %10)).toNat:Int):=by rw[hb8];congr 1
    generalize hd:UInt8.ofNat (48+k %10)=c at*
    rw[hcv];have hrun:Sem.run Tryz.prog (convert 29 9 (Value.slice (some {block:=w.heap.size,off:=0}) 1 1)) (w.alloc (Obj.cells #[Value.int IntKind.u8 (c.toNat:Int)] 5))= .ok (sv [c]) (w.alloc (Obj.cells #[Value.int IntKind.u8 (c.toNat:Int)] 5)):=by
      refine run_convert_bytes_back (P:=Tryz.prog) _ 29 9 5 ⟨w.heap.size,0,none⟩ 1 [c] Tryz.underlying29 Tryz.underlying5 Tryz.underlying9 (λj hj=>?_);have:j=0:=by simp at hj;omega
      subst this;rw[Lb,cell_of (show(w.alloc (Obj.cells #[Value.int IntKind.u8 (c.toNat:Int)] 5)).heap[w.heap.size]? =some _ from Array.getElem?_push_size)];rfl
    rw[hrun];have hk1:KeepN (λ_=>True) w (w.alloc (Obj.cells #[Value.int IntKind.u8 (c.toNat:Int)] 5)):=by
      refine⟨λb hb _=>?_,⟨?_,rfl,rfl,rfl⟩⟩
      · show(w.heap.push _)[b]? =_
        rw[Array.getElem?_push_lt hb,Array.getElem?_eq_getElem hb]
      · show w.heap.size<= (w.heap.push _).size
        rw[Array.size_push];omega
    clear hrun hcv hb8;generalize w.alloc (Obj.cells #[Value.int IntKind.u8 (c.toNat:Int)] 5)=W1 at*
    gi_wp2
    · rename_i hlt
      have e:jY 20 k []=[c]:=by
        rw[jY,if_pos F0,<-hd,Nat.mod_eq_of_lt (show k<10 by omega)]
      rw[e]
      go_ret
      exact⟨rfl,hk1⟩
    · rename_i hge _ _ _ _
      have hge:¬k<10:=F0
      refine⟨trivial,(λh=>nomatch h),?_⟩;rw[show((k:Int)/10)=((k/10:Nat):Int) by omega];refine(ih (k/10) F0 F0 (n-1) W1).mono ?_;rintro e1 W2 ⟨rfl,hk2⟩;have hk3:KeepN (λ_=>True) w W2:=⟨λb hb _=>(hk2.same b (Nat.lt_of_lt_of_le hb hk1.gr.le) trivial).trans (hk1.same b hb trivial),⟨Nat.le_trans hk1.gr.le hk2.gr.le,hk2.gr.os.trans hk1.gr.os,hk2.gr.tape.trans hk1.gr.tape,hk2.gr.output.trans hk1.gr.output⟩⟩
      gi_wp2
      · exfalso
        have hl:=tq 20 (k/10) [];rename_i hx;rw[List.length_nil]at hl;omega
      · go_ret
        refine⟨?_,hk3⟩;rw[As1 k hge hk,hd];refine congrArg (λz=>Ending.returned (Value.string z)) (ByteArray.ext ?_);rw[ByteArray.data_append];simp
noncomputable def Th:Con:=⟨[.lf (.int .i64) none],[.lf .str none],Cf⟩
theorem Bdp{gl:List (Nat×List Value)}(hE:Ent Tryz.prog 19):ConOk Tryz.prog gl 19 Th:=by
  refine⟨hE,?_⟩;rintro R N w L0 vs ps (n:Int) y hargs hlen hit AU hvs hgl hy;obtain rfl:=Option.some.inj (show some [PV.val (.int .i64) n]=some ps from hargs);obtain⟨v0,_,rfl,h0,rfl⟩:=hvs;obtain rfl:v0= .int .i64 n:=by cases(show [v0]=[.int .i64 n]from h0);rfl
  replace hy:Cf n=some y:=hy
  unfold Cf at hy;split at hy
  · rename_i hr
    obtain rfl:=Option.some.inj hy;have hr:=of_decide_eq_true hr;obtain⟨k,rfl⟩:∃k:Nat,n=k:=⟨n.toNat,F0⟩;refine(callsIn_wide.1 (Aqa k F0 4 w)).mono ?_;rintro e w' ⟨rfl,hk⟩;exact⟨[sv (jY 20 k [])],rfl,Rf.sY (e:= .str) ⟨λb hb _=>hk.same b hb trivial,hk.gr⟩ (λB=>rfl) rfl⟩
  · cases hy
end Go.Proofs.YtniihmolajmfcaaGreatDoor
