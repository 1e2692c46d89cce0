/- parts -/
import Derived.Test.YtpmbddooibgnaaaGreatDoorS1
import Derived.Test.YtpmbddooibgnaaaGreatDoorS2
import Derived.Test.YtpmbddooibgnaaaGreatDoorS3
import Derived.Test.YtpmbddooibgnaaaGreatDoorS4
import Derived.Shelf.Strings.IndexAnyAll
import Derived.Shelf.Unicode.ValidAny
import Derived.Shelf.Small.Wraps
import Derived.Shelf.Small.Utf8
import Derived.Laws.RangeAny
import Derived.Shelf.Strings.Split
import Derived.Shelf.Strings.Cut
import Derived.Shelf.Strings.Prefix
import Derived.Shelf.Strings.OnBuilder
import Derived.Shelf.Strings.SlTrimAscii
import Derived.Shelf.Strconv.Atoi
import Derived.Shelf.Strconv.Itoa3
import Derived.Shelf.Strconv.Itoa4
import Derived.Shelf.Small.Strs
import Derived.Deep.QuietTactic
import Derived.BigQuiet
import Derived.Deep.RegionHeld3
import Derived.Deep.CutRange
import Derived.Deep.CutBlock
import Derived.Recover
import Derived.Defers
import Derived.Deep.Slices
import Derived.Laws.ResultCell
import Derived.Laws.IdiomStrings
import Derived.Lib.IndexBytes
import Derived.Lib.SmallJoins
import Derived.Deep.MidRow
import Derived.Great.BuildSlice
import Derived.Laws.LoneSync
import Derived.RegionCalls
set_option maxRecDepth 100000
set_option maxHeartbeats 8000000
set_option linter.all false
namespace Go.Proofs.YtpmbddooibgnaaaGreatDoor
open Go.RowKit Go.Shelf
noncomputable def fK:Go.Shelf.Ren:=⟨fun x=>match x with|99=>167|103=>239|118=>418|119=>525|120=>502|129=>232|137=>245|138=>243|143=>244|145=>253|146=>108|150=>250|151=>423|152=>458|153=>358|159=>192|160=>194|165=>292|166=>65|167=>248|168=>419|169=>67|171=>66|172=>265|173=>286|195=>352|196=>249|197=>353|204=>294|205=>528|206=>246|210=>350|217=>356|218=>354|219=>355|220=>359|221=>164|224=>455|225=>454|226=>459|227=>297|228=>422|230=>293|231=>295|232=>296|233=>298|234=>299|235=>300|236=>301|240=>121|241=>417|242=>500|243=>122|244=>377|245=>378|246=>196|247=>470|259=>357|260=>453|262=>421|266=>457|267=>456|268=>242|270=>420|271=>424|274=>551|275=>552|276=>195|277=>499|278=>550|279=>471|280=>472|281=>473|282=>474|283=>302|284=>303|285=>304|286=>305|287=>491|313=>501|314=>524|316=>527|317=>425|318=>426|319=>427|320=>428|321=>535|322=>536|337=>503|338=>504|n=>n,fun x=>match x with|0=>0|2=>2|3=>3|4=>4|5=>5|9=>9|12=>12|20=>20|21=>21|24=>222|31=>146|37=>154|46=>232|51=>88|53=>292|59=>402|70=>153|72=>156|75=>158|76=>159|80=>163|85=>585|105=>498|107=>451|116=>454|117=>455|119=>501|124=>458|127=>235|138=>503|139=>504|143=>650|145=>652|146=>618|160=>643|162=>610|164=>333|167=>584|168=>587|171=>459|173=>461|175=>542|203=>608|206=>667|208=>669|210=>622|212=>558|213=>559|232=>646|233=>647|n=>n,fun x=>match x with|1=>3|3=>0|4=>1|13=>4|15=>5|16=>6|17=>2|18=>7|19=>8|n=>n⟩
theorem uh:Lays.n150 Tryz.prog fK where
 mixed:=by kernel_rfl
 f119:=Tryz.func525.trans (congrArg some (by kernel_rfl))
 f137:=Tryz.func245.trans (congrArg some (by kernel_rfl))
 f150:=Tryz.func250.trans (congrArg some (by kernel_rfl))
 f152:=CV.trans (congrArg some (by kernel_rfl))
 f153:=Tryz.func358.trans (congrArg some (by kernel_rfl))
 f217:=Tryz.func356.trans (congrArg some (by kernel_rfl))
 f224:=Tryz.func455.trans (congrArg some (by kernel_rfl))
 f225:=Tryz.func454.trans (congrArg some (by kernel_rfl))
 f226:=Tryz.func459.trans (congrArg some (by kernel_rfl))
 f227:=Tryz.func297.trans (congrArg some (by kernel_rfl))
 f228:=Tryz.func422.trans (congrArg some (by kernel_rfl))
 f266:=Tryz.func457.trans (congrArg some (by kernel_rfl))
 t0:=fC
 a0:=jX
 z0:=jr
 v0:=fP
 t3:=bS
 a3:=iH
 z3:=gD
 v3:=dW
 t4:=dV
 a4:=jB
 z4:=iM
 v4:=fB
 t5:=dx
 a5:=jW
 z5:=jq
 v5:=fO
 t9:=bf
 a9:=je
 z9:=gU
 v9:=eG
 t21:=wu
 a21:=PY
 z21:=Ku
 v21:=yE
 t46:=gK
 a46:=kT
 z46:=jV
 v46:=iG
 t116:=Tryz.underlying454
 a116:=Tryz.isAgg454
 z116:=Tryz.sizeOf454
 t117:=Tryz.underlying455
 a117:=Tryz.isAgg455
 z117:=Tryz.sizeOf455
 v117:=Tryz.zeroValue455
 t124:=Tryz.underlying458
 a124:=Tryz.isAgg458
 z124:=Tryz.sizeOf458
 v124:=Tryz.zeroValue458
theorem FH:Lays.n196 Tryz.prog fK where
 mixed:=by kernel_rfl
 f196:=Tryz.func249.trans (congrArg some (by kernel_rfl))
 f259:=Tryz.func357.trans (congrArg some (by kernel_rfl))
 t0:=fC
 a0:=jX
 z0:=jr
 v0:=fP
 t3:=bS
 a3:=iH
 z3:=gD
 v3:=dW
 t4:=dV
 a4:=jB
 z4:=iM
 v4:=fB
 t5:=dx
 a5:=jW
 z5:=jq
 v5:=fO
 t9:=bf
 a9:=je
 z9:=gU
 v9:=eG
 t12:=Tryz.underlying12
 a12:=Tryz.isAgg12
 z12:=Tryz.sizeOf12
 v12:=Tryz.zeroValue12
 t46:=gK
 a46:=kT
 z46:=jV
 v46:=iG
 t53:=nY
 a53:=Kz
 z53:=Fx
 v53:=vZ
 t119:=Fv
 a119:=Tryz.isAgg501
 z119:=Tryz.sizeOf501
 t138:=Fu
 a138:=Tryz.isAgg503
 z138:=Tryz.sizeOf503
 v138:=Kr
 t139:=Fs
 a139:=Tryz.isAgg504
 z139:=Tryz.sizeOf504
 v139:=Kq
 g3:=by kernel_rfl
 g4:=by kernel_rfl
theorem Ru:Lays.n103 Tryz.prog fK where
 mixed:=by kernel_rfl
 f103:=Tryz.func239.trans (congrArg some (by kernel_rfl))
 f206:=Tryz.func246.trans (congrArg some (by kernel_rfl))
 f210:=Tryz.func350.trans (congrArg some (by kernel_rfl))
 t3:=bS
 a3:=iH
 z3:=gD
 v3:=dW
 t4:=dV
 a4:=jB
 z4:=iM
 v4:=fB
 t9:=bf
 a9:=je
 z9:=gU
 v9:=eG
 t24:=Tryz.underlying222
 a24:=Tryz.isAgg222
 z24:=Tryz.sizeOf222
 v24:=Tryz.zeroValue222
theorem F8:(Tryz.prog.info? 454).map (fun i=>(i.zero,i.size))=some (some (.agg (Array.replicate 256 (.bool false))),256):=by kernel_rfl
theorem Ri:Lays.n137 Tryz.prog fK where
 mixed:=by kernel_rfl
 f137:=Tryz.func245.trans (congrArg some (by kernel_rfl))
 f217:=Tryz.func356.trans (congrArg some (by kernel_rfl))
 f266:=Tryz.func457.trans (congrArg some (by kernel_rfl))
 t3:=bS
 a3:=iH
 z3:=gD
 v3:=dW
 t5:=dx
 a5:=jW
 z5:=jq
 v5:=fO
 t9:=bf
 a9:=je
 z9:=gU
 v9:=eG
theorem QB:Lays.n146 Tryz.prog fK where
 mixed:=by kernel_rfl
 f138:=Tryz.func243.trans (congrArg some (by kernel_rfl))
 f143:=Tryz.func244.trans (congrArg some (by kernel_rfl))
 f146:=Tryz.func108.trans (congrArg some (by kernel_rfl))
 f195:=Tryz.func352.trans (congrArg some (by kernel_rfl))
 f197:=Tryz.func353.trans (congrArg some (by kernel_rfl))
 f217:=Tryz.func356.trans (congrArg some (by kernel_rfl))
 f218:=Tryz.func354.trans (congrArg some (by kernel_rfl))
 f219:=Tryz.func355.trans (congrArg some (by kernel_rfl))
 f221:=Tryz.func164.trans (congrArg some (by kernel_rfl))
 f224:=Tryz.func455.trans (congrArg some (by kernel_rfl))
 f225:=Tryz.func454.trans (congrArg some (by kernel_rfl))
 f260:=Tryz.func453.trans (congrArg some (by kernel_rfl))
 f266:=Tryz.func457.trans (congrArg some (by kernel_rfl))
 f267:=Tryz.func456.trans (congrArg some (by kernel_rfl))
 f268:=Tryz.func242.trans (congrArg some (by kernel_rfl))
 f314:=Tryz.func524.trans (congrArg some (by kernel_rfl))
 t0:=fC
 a0:=jX
 z0:=jr
 v0:=fP
 t3:=bS
 a3:=iH
 z3:=gD
 v3:=dW
 t4:=dV
 a4:=jB
 z4:=iM
 v4:=fB
 t5:=dx
 a5:=jW
 z5:=jq
 v5:=fO
 t9:=bf
 a9:=je
 z9:=gU
 v9:=eG
 t21:=wu
 a21:=PY
 z21:=Ku
 v21:=yE
 t31:=iV
 a31:=Tryz.isAgg146
 z31:=Tryz.sizeOf146
 v31:=Tryz.zeroValue146
 t46:=gK
 a46:=kT
 z46:=jV
 v46:=iG
 t51:=mD
 a51:=wB
 z51:=sV
 v51:=nC
 t105:=Tryz.underlying498
 a105:=Tryz.isAgg498
 z105:=Tryz.sizeOf498
 v105:=Tryz.zeroValue498
 t119:=Fv
 a119:=Tryz.isAgg501
 z119:=Tryz.sizeOf501
 t138:=Fu
 a138:=Tryz.isAgg503
 z138:=Tryz.sizeOf503
 v138:=Kr
 t139:=Fs
 a139:=Tryz.isAgg504
 z139:=Tryz.sizeOf504
 v139:=Kq
 t146:=Tryz.underlying618
 a146:=Tryz.isAgg618
 z146:=Tryz.sizeOf618
 v146:=Tryz.zeroValue618
 g1:=by kernel_rfl
 g3:=by kernel_rfl
 g4:=by kernel_rfl
theorem Rk:Lays.n99 Tryz.prog fK where
 mixed:=by kernel_rfl
 f99:=Tryz.func167.trans (congrArg some (by kernel_rfl))
 f206:=Tryz.func246.trans (congrArg some (by kernel_rfl))
 t3:=bS
 a3:=iH
 z3:=gD
 v3:=dW
 t4:=dV
 a4:=jB
 z4:=iM
 v4:=fB
 t9:=bf
 a9:=je
 z9:=gU
 v9:=eG
theorem OT:Lays.n145 Tryz.prog fK where
 mixed:=by kernel_rfl
 f145:=Tryz.func253.trans (congrArg some (by kernel_rfl))
 f217:=Tryz.func356.trans (congrArg some (by kernel_rfl))
 f219:=Tryz.func355.trans (congrArg some (by kernel_rfl))
 f220:=Tryz.func359.trans (congrArg some (by kernel_rfl))
 f224:=Tryz.func455.trans (congrArg some (by kernel_rfl))
 f225:=Tryz.func454.trans (congrArg some (by kernel_rfl))
 f266:=Tryz.func457.trans (congrArg some (by kernel_rfl))
 f267:=Tryz.func456.trans (congrArg some (by kernel_rfl))
 f314:=Tryz.func524.trans (congrArg some (by kernel_rfl))
 t3:=bS
 a3:=iH
 z3:=gD
 v3:=dW
 t4:=dV
 a4:=jB
 z4:=iM
 v4:=fB
 t5:=dx
 a5:=jW
 z5:=jq
 v5:=fO
 t9:=bf
 a9:=je
 z9:=gU
 v9:=eG
 t46:=gK
 a46:=kT
 z46:=jV
 v46:=iG
 t51:=mD
 a51:=wB
 z51:=sV
 v51:=nC
 t59:=Tryz.underlying402
 a59:=Tryz.isAgg402
 z59:=Tryz.sizeOf402
 v59:=Tryz.zeroValue402
 t146:=Tryz.underlying618
 a146:=Tryz.isAgg618
 z146:=Tryz.sizeOf618
 v146:=Tryz.zeroValue618
 g1:=by kernel_rfl
theorem Qt:Lays.n159 Tryz.prog fK where
 mixed:=by kernel_rfl
 f118:=Tryz.func418.trans (congrArg some (by kernel_rfl))
 f159:=Tryz.func192.trans (congrArg some (by kernel_rfl))
 f165:=Tryz.func292.trans (congrArg some (by kernel_rfl))
 f166:=Tryz.func65.trans (congrArg some (by kernel_rfl))
 f167:=Tryz.func248.trans (congrArg some (by kernel_rfl))
 f168:=Tryz.func419.trans (congrArg some (by kernel_rfl))
 f169:=Tryz.func67.trans (congrArg some (by kernel_rfl))
 f197:=Tryz.func353.trans (congrArg some (by kernel_rfl))
 f204:=Tryz.func294.trans (congrArg some (by kernel_rfl))
 f230:=Tryz.func293.trans (congrArg some (by kernel_rfl))
 f240:=Tryz.func121.trans (congrArg some (by kernel_rfl))
 f241:=Tryz.func417.trans (congrArg some (by kernel_rfl))
 f242:=Tryz.func500.trans (congrArg some (by kernel_rfl))
 f260:=Tryz.func453.trans (congrArg some (by kernel_rfl))
 f262:=Tryz.func421.trans (congrArg some (by kernel_rfl))
 f270:=Tryz.func420.trans (congrArg some (by kernel_rfl))
 f274:=Tryz.func551.trans (congrArg some (by kernel_rfl))
 f275:=Tryz.func552.trans (congrArg some (by kernel_rfl))
 f276:=Tryz.func195.trans (congrArg some (by kernel_rfl))
 f277:=Tryz.func499.trans (congrArg some (by kernel_rfl))
 f278:=Tryz.func550.trans (congrArg some (by kernel_rfl))
 f313:=Tryz.func501.trans (congrArg some (by kernel_rfl))
 t0:=fC
 a0:=jX
 z0:=jr
 v0:=fP
 t3:=bS
 a3:=iH
 z3:=gD
 v3:=dW
 t4:=dV
 a4:=jB
 z4:=iM
 v4:=fB
 t5:=dx
 a5:=jW
 z5:=jq
 v5:=fO
 t9:=bf
 a9:=je
 z9:=gU
 v9:=eG
 t20:=wz
 a20:=PZ
 z20:=Kw
 v20:=yF
 t21:=wu
 a21:=PY
 z21:=Ku
 v21:=yE
 t37:=aO
 a37:=KA
 z37:=Fy
 v37:=wh
 t46:=gK
 a46:=kT
 z46:=jV
 v46:=iG
 t51:=mD
 a51:=wB
 z51:=sV
 v51:=nC
 t70:=tN
 a70:=Tryz.isAgg153
 z70:=Tryz.sizeOf153
 v70:=Tryz.zeroValue153
 t72:=Tryz.underlying156
 a72:=Tryz.isAgg156
 z72:=Tryz.sizeOf156
 v72:=Tryz.zeroValue156
 t75:=Tryz.underlying158
 a75:=Tryz.isAgg158
 z75:=Tryz.sizeOf158
 v75:=Tryz.zeroValue158
 t76:=Tryz.underlying159
 a76:=Tryz.isAgg159
 z76:=Tryz.sizeOf159
 v76:=Tryz.zeroValue159
 t105:=Tryz.underlying498
 a105:=Tryz.isAgg498
 z105:=Tryz.sizeOf498
 v105:=Tryz.zeroValue498
 t107:=Tryz.underlying451
 a107:=Tryz.isAgg451
 z107:=Tryz.sizeOf451
 v107:=Tryz.zeroValue451
 t119:=Fv
 a119:=Tryz.isAgg501
 z119:=Tryz.sizeOf501
 t127:=Tryz.underlying235
 a127:=Tryz.isAgg235
 z127:=Tryz.sizeOf235
 v127:=Tryz.zeroValue235
 t138:=Fu
 a138:=Tryz.isAgg503
 z138:=Tryz.sizeOf503
 v138:=Kr
 t139:=Fs
 a139:=Tryz.isAgg504
 z139:=Tryz.sizeOf504
 v139:=Kq
 t160:=Tryz.underlying643
 a160:=Tryz.isAgg643
 z160:=Tryz.sizeOf643
 v160:=Tryz.zeroValue643
 t162:=Tryz.underlying610
 a162:=Tryz.isAgg610
 z162:=Tryz.sizeOf610
 v162:=Tryz.zeroValue610
 t164:=nX
 a164:=Tryz.isAgg333
 z164:=Tryz.sizeOf333
 v164:=Tryz.zeroValue333
 t203:=Tryz.underlying608
 a203:=Tryz.isAgg608
 z203:=Tryz.sizeOf608
 v203:=Tryz.zeroValue608
 t206:=Tryz.underlying667
 a206:=Tryz.isAgg667
 z206:=Tryz.sizeOf667
 v206:=Tryz.zeroValue667
 t208:=Tryz.underlying669
 a208:=Tryz.isAgg669
 z208:=Tryz.sizeOf669
 v208:=Tryz.zeroValue669
 g3:=by kernel_rfl
 g4:=by kernel_rfl
 g13:=by kernel_rfl
theorem Qr:Lays.n160 Tryz.prog fK where
 mixed:=by kernel_rfl
 f119:=Tryz.func525.trans (congrArg some (by kernel_rfl))
 f120:=Tryz.func502.trans (congrArg some (by kernel_rfl))
 f137:=Tryz.func245.trans (congrArg some (by kernel_rfl))
 f151:=Tryz.func423.trans (congrArg some (by kernel_rfl))
 f152:=CV.trans (congrArg some (by kernel_rfl))
 f160:=Tryz.func194.trans (congrArg some (by kernel_rfl))
 f197:=Tryz.func353.trans (congrArg some (by kernel_rfl))
 f217:=Tryz.func356.trans (congrArg some (by kernel_rfl))
 f224:=Tryz.func455.trans (congrArg some (by kernel_rfl))
 f225:=Tryz.func454.trans (congrArg some (by kernel_rfl))
 f227:=Tryz.func297.trans (congrArg some (by kernel_rfl))
 f228:=Tryz.func422.trans (congrArg some (by kernel_rfl))
 f231:=Tryz.func295.trans (congrArg some (by kernel_rfl))
 f232:=Tryz.func296.trans (congrArg some (by kernel_rfl))
 f233:=Tryz.func298.trans (congrArg some (by kernel_rfl))
 f234:=Tryz.func299.trans (congrArg some (by kernel_rfl))
 f235:=Tryz.func300.trans (congrArg some (by kernel_rfl))
 f236:=Tryz.func301.trans (congrArg some (by kernel_rfl))
 f260:=Tryz.func453.trans (congrArg some (by kernel_rfl))
 f266:=Tryz.func457.trans (congrArg some (by kernel_rfl))
 f271:=Tryz.func424.trans (congrArg some (by kernel_rfl))
 t0:=fC
 a0:=jX
 z0:=jr
 v0:=fP
 t3:=bS
 a3:=iH
 z3:=gD
 v3:=dW
 t4:=dV
 a4:=jB
 z4:=iM
 v4:=fB
 t5:=dx
 a5:=jW
 z5:=jq
 v5:=fO
 t9:=bf
 a9:=je
 z9:=gU
 v9:=eG
 t21:=wu
 a21:=PY
 z21:=Ku
 v21:=yE
 t46:=gK
 a46:=kT
 z46:=jV
 v46:=iG
 t105:=Tryz.underlying498
 a105:=Tryz.isAgg498
 z105:=Tryz.sizeOf498
 v105:=Tryz.zeroValue498
 t116:=Tryz.underlying454
 a116:=Tryz.isAgg454
 z116:=Tryz.sizeOf454
 t117:=Tryz.underlying455
 a117:=Tryz.isAgg455
 z117:=Tryz.sizeOf455
 v117:=Tryz.zeroValue455
 t119:=Fv
 a119:=Tryz.isAgg501
 z119:=Tryz.sizeOf501
 t124:=Tryz.underlying458
 a124:=Tryz.isAgg458
 z124:=Tryz.sizeOf458
 v124:=Tryz.zeroValue458
 t138:=Fu
 a138:=Tryz.isAgg503
 z138:=Tryz.sizeOf503
 v138:=Kr
 t139:=Fs
 a139:=Tryz.isAgg504
 z139:=Tryz.sizeOf504
 v139:=Kq
 g3:=by kernel_rfl
 g4:=by kernel_rfl
theorem Ry:Lays.n172 Tryz.prog fK where
 mixed:=by kernel_rfl
 f129:=Tryz.func232.trans (congrArg some (by kernel_rfl))
 f171:=Tryz.func66.trans (congrArg some (by kernel_rfl))
 f172:=Tryz.func265.trans (congrArg some (by kernel_rfl))
 f205:=Tryz.func528.trans (congrArg some (by kernel_rfl))
 f243:=Tryz.func122.trans (congrArg some (by kernel_rfl))
 f244:=Tryz.func377.trans (congrArg some (by kernel_rfl))
 f245:=Tryz.func378.trans (congrArg some (by kernel_rfl))
 f246:=Tryz.func196.trans (congrArg some (by kernel_rfl))
 f247:=Tryz.func470.trans (congrArg some (by kernel_rfl))
 f279:=Tryz.func471.trans (congrArg some (by kernel_rfl))
 f280:=Tryz.func472.trans (congrArg some (by kernel_rfl))
 f281:=Tryz.func473.trans (congrArg some (by kernel_rfl))
 f282:=Tryz.func474.trans (congrArg some (by kernel_rfl))
 f283:=Tryz.func302.trans (congrArg some (by kernel_rfl))
 f284:=Tryz.func303.trans (congrArg some (by kernel_rfl))
 f285:=Tryz.func304.trans (congrArg some (by kernel_rfl))
 f286:=Tryz.func305.trans (congrArg some (by kernel_rfl))
 f287:=Tryz.func491.trans (congrArg some (by kernel_rfl))
 f316:=Tryz.func527.trans (congrArg some (by kernel_rfl))
 f317:=Tryz.func425.trans (congrArg some (by kernel_rfl))
 f318:=Tryz.func426.trans (congrArg some (by kernel_rfl))
 f319:=Tryz.func427.trans (congrArg some (by kernel_rfl))
 f320:=Tryz.func428.trans (congrArg some (by kernel_rfl))
 f321:=Tryz.func535.trans (congrArg some (by kernel_rfl))
 f322:=Tryz.func536.trans (congrArg some (by kernel_rfl))
 f337:=Tryz.func503.trans (congrArg some (by kernel_rfl))
 f338:=Tryz.func504.trans (congrArg some (by kernel_rfl))
 t0:=fC
 a0:=jX
 z0:=jr
 v0:=fP
 t2:=Tryz.underlying2
 a2:=Tryz.isAgg2
 z2:=Tryz.sizeOf2
 v2:=Tryz.zeroValue2
 t3:=bS
 a3:=iH
 z3:=gD
 v3:=dW
 t4:=dV
 a4:=jB
 z4:=iM
 v4:=fB
 t5:=dx
 a5:=jW
 z5:=jq
 v5:=fO
 t9:=bf
 a9:=je
 z9:=gU
 v9:=eG
 t20:=wz
 a20:=PZ
 z20:=Kw
 v20:=yF
 t21:=wu
 a21:=PY
 z21:=Ku
 v21:=yE
 t37:=aO
 a37:=KA
 z37:=Fy
 v37:=wh
 t46:=gK
 a46:=kT
 z46:=jV
 v46:=iG
 t51:=mD
 a51:=wB
 z51:=sV
 v51:=nC
 t53:=nY
 a53:=Kz
 z53:=Fx
 v53:=vZ
 t75:=Tryz.underlying158
 a75:=Tryz.isAgg158
 z75:=Tryz.sizeOf158
 v75:=Tryz.zeroValue158
 t76:=Tryz.underlying159
 a76:=Tryz.isAgg159
 z76:=Tryz.sizeOf159
 v76:=Tryz.zeroValue159
 t85:=Tryz.underlying585
 a85:=Tryz.isAgg585
 z85:=Tryz.sizeOf585
 v85:=Tryz.zeroValue585
 t127:=Tryz.underlying235
 a127:=Tryz.isAgg235
 z127:=Tryz.sizeOf235
 v127:=Tryz.zeroValue235
 t143:=Tryz.underlying650
 a143:=Tryz.isAgg650
 z143:=Tryz.sizeOf650
 v143:=Tryz.zeroValue650
 t145:=Tryz.underlying652
 a145:=Tryz.isAgg652
 z145:=Tryz.sizeOf652
 v145:=Tryz.zeroValue652
 t167:=Tryz.underlying584
 a167:=Tryz.isAgg584
 z167:=Tryz.sizeOf584
 v167:=Tryz.zeroValue584
 t168:=Tryz.underlying587
 a168:=Tryz.isAgg587
 z168:=Tryz.sizeOf587
 v168:=Tryz.zeroValue587
 t171:=Tryz.underlying459
 a171:=Tryz.isAgg459
 z171:=Tryz.sizeOf459
 v171:=Tryz.zeroValue459
 t173:=Tryz.underlying461
 a173:=Tryz.isAgg461
 z173:=Tryz.sizeOf461
 v173:=Tryz.zeroValue461
 t175:=Tryz.underlying542
 a175:=Tryz.isAgg542
 z175:=Tryz.sizeOf542
 v175:=Tryz.zeroValue542
 t210:=Tryz.underlying622
 a210:=Tryz.isAgg622
 z210:=Tryz.sizeOf622
 v210:=Tryz.zeroValue622
 t212:=Fq
 a212:=Tryz.isAgg558
 z212:=Tryz.sizeOf558
 v212:=Tryz.zeroValue558
 t213:=Tryz.underlying559
 a213:=Tryz.isAgg559
 z213:=Tryz.sizeOf559
 t232:=Tryz.underlying646
 a232:=Tryz.isAgg646
 z232:=Tryz.sizeOf646
 v232:=Tryz.zeroValue646
 t233:=Tryz.underlying647
 a233:=Tryz.isAgg647
 z233:=Tryz.sizeOf647
 v233:=Tryz.zeroValue647
 g15:=by kernel_rfl
 g16:=by kernel_rfl
 g17:=by kernel_rfl
 g18:=by kernel_rfl
 g19:=by kernel_rfl
theorem Rb:LaysM.n171 Tryz.prog fK where
 mixed:=by kernel_rfl
 f129:=Tryz.func232.trans (congrArg some (by kernel_rfl))
 f171:=Tryz.func66.trans (congrArg some (by kernel_rfl))
 f243:=Tryz.func122.trans (congrArg some (by kernel_rfl))
 f246:=Tryz.func196.trans (congrArg some (by kernel_rfl))
 f283:=Tryz.func302.trans (congrArg some (by kernel_rfl))
 f284:=Tryz.func303.trans (congrArg some (by kernel_rfl))
 f285:=Tryz.func304.trans (congrArg some (by kernel_rfl))
 f286:=Tryz.func305.trans (congrArg some (by kernel_rfl))
 f317:=Tryz.func425.trans (congrArg some (by kernel_rfl))
 f318:=Tryz.func426.trans (congrArg some (by kernel_rfl))
 f319:=Tryz.func427.trans (congrArg some (by kernel_rfl))
 f320:=Tryz.func428.trans (congrArg some (by kernel_rfl))
 f337:=Tryz.func503.trans (congrArg some (by kernel_rfl))
 f338:=Tryz.func504.trans (congrArg some (by kernel_rfl))
 t0:=fC
 a0:=jX
 z0:=jr
 v0:=fP
 t2:=Tryz.underlying2
 a2:=Tryz.isAgg2
 z2:=Tryz.sizeOf2
 v2:=Tryz.zeroValue2
 t3:=bS
 a3:=iH
 z3:=gD
 v3:=dW
 t4:=dV
 a4:=jB
 z4:=iM
 v4:=fB
 t5:=dx
 a5:=jW
 z5:=jq
 v5:=fO
 t9:=bf
 a9:=je
 z9:=gU
 v9:=eG
 t20:=wz
 a20:=PZ
 z20:=Kw
 v20:=yF
 t37:=aO
 a37:=KA
 z37:=Fy
 v37:=wh
 t46:=gK
 a46:=kT
 z46:=jV
 v46:=iG
 t51:=mD
 a51:=wB
 z51:=sV
 v51:=nC
 t53:=nY
 a53:=Kz
 z53:=Fx
 v53:=vZ
 t171:=Tryz.underlying459
 a171:=Tryz.isAgg459
 z171:=Tryz.sizeOf459
 v171:=Tryz.zeroValue459
 t173:=Tryz.underlying461
 a173:=Tryz.isAgg461
 z173:=Tryz.sizeOf461
 v173:=Tryz.zeroValue461
 t212:=Fq
 a212:=Tryz.isAgg558
 z212:=Tryz.sizeOf558
 v212:=Tryz.zeroValue558
 t213:=Tryz.underlying559
 a213:=Tryz.isAgg559
 z213:=Tryz.sizeOf559
 t232:=Tryz.underlying646
 a232:=Tryz.isAgg646
 z232:=Tryz.sizeOf646
 v232:=Tryz.zeroValue646
 t233:=Tryz.underlying647
 a233:=Tryz.isAgg647
 z233:=Tryz.sizeOf647
 v233:=Tryz.zeroValue647
 g17:=by kernel_rfl
 g18:=by kernel_rfl
 g19:=by kernel_rfl
 i0:=by kernel_rfl
 i2:=by kernel_rfl
 i3:=by kernel_rfl
 i4:=by kernel_rfl
 i5:=by kernel_rfl
 i9:=by kernel_rfl
 i20:=by kernel_rfl
 i37:=by kernel_rfl
 i46:=by kernel_rfl
 i51:=by kernel_rfl
 i53:=by kernel_rfl
 i171:=by kernel_rfl
 i173:=by kernel_rfl
 i212:=by kernel_rfl
 i232:=by kernel_rfl
 i233:=by kernel_rfl
 m17:=by kernel_rfl
 m18:=by kernel_rfl
 m19:=by kernel_rfl
theorem Ro:Lays.n173 Tryz.prog fK where
 mixed:=by kernel_rfl
 f129:=Tryz.func232.trans (congrArg some (by kernel_rfl))
 f173:=Tryz.func286.trans (congrArg some (by kernel_rfl))
 f246:=Tryz.func196.trans (congrArg some (by kernel_rfl))
 f283:=Tryz.func302.trans (congrArg some (by kernel_rfl))
 f284:=Tryz.func303.trans (congrArg some (by kernel_rfl))
 f285:=Tryz.func304.trans (congrArg some (by kernel_rfl))
 f286:=Tryz.func305.trans (congrArg some (by kernel_rfl))
 f317:=Tryz.func425.trans (congrArg some (by kernel_rfl))
 f318:=Tryz.func426.trans (congrArg some (by kernel_rfl))
 f319:=Tryz.func427.trans (congrArg some (by kernel_rfl))
 f320:=Tryz.func428.trans (congrArg some (by kernel_rfl))
 f337:=Tryz.func503.trans (congrArg some (by kernel_rfl))
 f338:=Tryz.func504.trans (congrArg some (by kernel_rfl))
 t0:=fC
 a0:=jX
 z0:=jr
 v0:=fP
 t2:=Tryz.underlying2
 a2:=Tryz.isAgg2
 z2:=Tryz.sizeOf2
 v2:=Tryz.zeroValue2
 t3:=bS
 a3:=iH
 z3:=gD
 v3:=dW
 t4:=dV
 a4:=jB
 z4:=iM
 v4:=fB
 t5:=dx
 a5:=jW
 z5:=jq
 v5:=fO
 t9:=bf
 a9:=je
 z9:=gU
 v9:=eG
 t20:=wz
 a20:=PZ
 z20:=Kw
 v20:=yF
 t37:=aO
 a37:=KA
 z37:=Fy
 v37:=wh
 t46:=gK
 a46:=kT
 z46:=jV
 v46:=iG
 t51:=mD
 a51:=wB
 z51:=sV
 v51:=nC
 t53:=nY
 a53:=Kz
 z53:=Fx
 v53:=vZ
 t171:=Tryz.underlying459
 a171:=Tryz.isAgg459
 z171:=Tryz.sizeOf459
 v171:=Tryz.zeroValue459
 t173:=Tryz.underlying461
 a173:=Tryz.isAgg461
 z173:=Tryz.sizeOf461
 v173:=Tryz.zeroValue461
 t212:=Fq
 a212:=Tryz.isAgg558
 z212:=Tryz.sizeOf558
 v212:=Tryz.zeroValue558
 t213:=Tryz.underlying559
 a213:=Tryz.isAgg559
 z213:=Tryz.sizeOf559
 t232:=Tryz.underlying646
 a232:=Tryz.isAgg646
 z232:=Tryz.sizeOf646
 v232:=Tryz.zeroValue646
 t233:=Tryz.underlying647
 a233:=Tryz.isAgg647
 z233:=Tryz.sizeOf647
 v233:=Tryz.zeroValue647
 g17:=by kernel_rfl
 g18:=by kernel_rfl
 g19:=by kernel_rfl
def TA (s:ByteArray)(c:Nat):Int:=Lib.indexByte s.data.toList c.toUInt8
theorem Co (s:ByteArray)(c:Nat)(w:World)(_hc:c<256):Calls Tryz.prog 245 #[.string s,.int .u8 c] w fun e w'=>e= .returned (.int .i64 (TA s c))/\w'=w:=by
 have h:=Any.strings_IndexByte Ri s c w
 exact h
theorem Keep.as {M:Nat->Prop}{w w' w'':World}(h:Keep M w w')(e:w''.heap=w'.heap)(e1:w''.os=w'.os)(e2:w''.tape=w'.tape)(e3:w''.output=w'.output):Keep M w w'':=
 ⟨e1.trans h.os,e2.trans h.tape,e3.trans h.output,by rw[e];exact h.size,fun k hk hn=>by rw[e];exact h.block k hk hn⟩
def oJ (w:World)(rb:Nat)(s:ByteArray)(u:Nat):Prop:=w.heap[rb]? =some (.cells #[.string s,.int .i64 u] 345 (0,0))
theorem oJ.cells {w:World}{rb:Nat}{s:ByteArray}{u:Nat}(h:oJ w rb s u):w.cell? ⟨rb,0,none⟩=some (.string s)/\w.cell? ⟨rb,1,none⟩=some (.int .i64 u)/\w.frozen? ⟨rb,1,none⟩=false/\rb<w.heap.size:=by
 unfold oJ at h
 exact⟨by simp[World.cell?,h],by simp[World.cell?,h],by simp[World.frozen?,h],(ah.1 h).1⟩
theorem oJ.set {w:World}{rb:Nat}{s:ByteArray}{u:Nat}(h:oJ w rb s u)(v:Nat):oJ (w.setCell ⟨rb,1,none⟩ (.int .i64 v)) rb s v/\Keep (· =rb) w (w.setCell ⟨rb,1,none⟩ (.int .i64 v)):=by
 refine⟨?_,(Keep.refl (· =rb) w).setCell (p:=⟨rb,1,none⟩) (.inr rfl) _⟩
 unfold oJ at h ⊢
 simp[World.setCell,aJ,h]
theorem oJ.keep {M:Nat->Prop}{w w':World}{rb:Nat}{s:ByteArray}{u:Nat}(h:oJ w rb s u)(hk:Keep M w w')(hM:¬M rb):oJ w' rb s u:=(hk.block rb (ah.1 h).1 hM).trans h
structure rY (s:ByteArray)(u i:Nat)(rest fr bk l:ByteArray):Prop where
 hr:s.extract u s.size=rest
 hf:rest.extract 0 (min rest.size 1026)=fr
 hb:rest.extract 0 i=bk
 hl:rest.extract 0 (i - 1)=l
 hi:TA fr 10=i
 hc:TA bk 13=(i:Int) - 1
 h1:1<=i
 h2:i<rest.size
 hu:u<=s.size
 hs:s.size<=1000000
 hz:rest.size=s.size - u
theorem KM (rb:Nat)(s:ByteArray)(u i:Nat)(rest fr bk l:ByteArray)(lg br:Int)(w:World)(h:oJ w rb s u)(hl:rY s u i rest fr bk l):
  Calls Tryz.prog 310 #[.pointer (some ⟨rb,0,none⟩),.int .i64 lg,.int .i64 br] w fun e w'=>e= .returned (.string l)/\oJ w' rb s (u+i+1)/\Keep (· =rb) w w':=by
 obtain⟨q1,q2,q3,q4,q5,q6,q7,q8,q9,q10,q11⟩:=hl
 obtain⟨c0,c1,f1,lr⟩:=h.cells
 have HS:=af (h.set (u+i+1))
 have s1:∀W:World,(Instr.slice 9 (.string s) (some (.int .i64 u)) none none).run Tryz.prog W= .ok (.string rest) W:=fun W=>by
  rw[run_slice_string_l W _ s bf .i64 u (by omega) (by omega),cB,q1]
 have s2:∀W:World,(Instr.slice 9 (.string rest) none (some (.int .i64 (min (rest.size:Int) 1026))) none).run Tryz.prog W= .ok (.string fr) W:=fun W=>by
  rw[RG W _ rest bf .i64 _ (by omega) (by omega),show (min (rest.size:Int) 1026).toNat=min rest.size 1026 by omega,q2]
 have s3:∀W:World,(Instr.slice 9 (.string rest) none (some (.int .i64 i)) none).run Tryz.prog W= .ok (.string bk) W:=fun W=>by
  rw[RG W _ rest bf .i64 i (by omega) (by omega),cB,q3]
 have s4:∀W:World,(Instr.slice 9 (.string rest) none (some (.int .i64 ((i:Int) - 1))) none).run Tryz.prog W= .ok (.string l) W:=fun W=>by
  rw[RG W _ rest bf .i64 _ (by omega) (by omega),show ((i:Int) - 1).toNat=i - 1 by omega,q4]
 have x1:¬((i:Int)<0):=by omega
 have x2:((i:Int)==0)=false:=by simp;omega
 have x3:¬(i:Int)=0:=by omega
 have x4:IntKind.i64.wrap ((i:Int) - 1)=(i:Int) - 1:=by rw[bJ];omega
 have x5:IntKind.i64.wrap ((i:Int)+1)=(i:Int)+1:=by rw[bJ];omega
 have x6:IntKind.i64.wrap ((u:Int)+((i:Int)+1))=((u+i+1:Nat):Int):=by rw[bJ];omega
 obtain⟨n,hn⟩:∃n:Nat,Hid (u+i+1=n):=⟨_,af rfl⟩
 rw[hn.out] at x6 HS ⊢
 clear h q1 q2 q3 q4 q7 q8 q9 q10 q11
 go_enter Tryz.func310,Tryz.ntmps310
 go_upto_region 1 with (fail)
 go_quiet (fail)
 go_wp2_with (first
  |(go_at_call 245;go_must (refine(Co fr 10 _ (by decide)).mono ?_;rintro e w1 ⟨rfl,hw⟩;subst w1;rw[q5];refine Stop.of ?_)))
 refine Stop.on ?_
 go_wp2_with (first
  |(go_at_call 245;go_must (refine(Co bk 13 _ (by decide)).mono ?_;rintro e w1 ⟨rfl,hw⟩;subst w1;rw[q6])))
 go_ret
 exact⟨rfl,HS.out.1,HS.out.2.as rfl rfl rfl rfl⟩
theorem RU (rb:Nat)(s:ByteArray)(u n:Nat)(p:ByteArray)(w:World)(h:oJ w rb s u)(hu:u+n<=s.size)(hs:s.size<=1000000)(hp:s.extract u (u+n)=p):
  Calls Tryz.prog 320 #[.pointer (some ⟨rb,0,none⟩),.int .i64 n] w fun e w'=>e= .returned (.string p)/\oJ w' rb s (u+n)/\Keep (· =rb) w w':=by
 obtain⟨c0,c1,f1,lr⟩:=h.cells
 obtain⟨m,hm⟩:∃m:Nat,Hid (u+n=m):=⟨_,af rfl⟩
 have hq:=h.set m
 obtain⟨d0,d1,_,lr2⟩:=hq.1.cells
 have x1:¬((s.size:Int) - (u:Int)<(n:Int)):=by omega
 have x2:IntKind.i64.wrap ((s.size:Int) - (u:Int))=(s.size:Int) - (u:Int):=by rw[bJ];omega
 have x3:IntKind.i64.wrap ((u:Int)+(n:Int))=(m:Int):=by rw[bJ];have:=hm.out;omega
 have x4:IntKind.i64.wrap ((m:Int) - (n:Int))=(u:Int):=by rw[bJ];have:=hm.out;omega
 have s1:∀W:World,(Instr.slice 9 (.string s) (some (.int .i64 u)) (some (.int .i64 m)) none).run Tryz.prog W= .ok (.string p) W:=fun W=>by
  rw[run_slice_string W _ s .i64 .i64 u m bf (by omega) (by have:=hm.out;omega) (by have:=hm.out;omega),cB,cB,<-hm.out,hp]
 rw[hm.out]
 have HS:=af hq
 clear h hq hu hs hp
 go_enter Tryz.func320,Tryz.ntmps320
 go_upto_region 1 with (fail)
 go_quiet (fail)
 go_upto_region 4 with (fail)
 go_quiet (fail)
 go_wp2_with fail
 go_ret
 exact⟨rfl,HS.out.1,HS.out.2.as rfl rfl rfl rfl⟩
def NI (c:UInt8):Bool:=decide (65<=c.toNat) && decide (c.toNat<=90)||decide (97<=c.toNat) && decide (c.toNat<=122)||decide (c.toNat=45)
theorem Qs:∀x:Nat,x<128->(65<=x/\x<=90\/97<=x/\x<=122)->97<=bits .or .u8 (x:Int) 32/\bits .or .u8 (x:Int) 32<=122:=by decide+kernel
theorem OP:TA ⟨#[33,35,36,37,38,39,42,43,45,46,94,95,96,124,126]⟩ 45=8:=by kernel_rfl
theorem bytes_at {s:ByteArray}{p:UInt8->Bool}(h:s.data.toList.all p=true){k:Nat}(hk:k<s.size):p (s[k]'hk)=true:=
 BB.1 h _ (tT (Lib.data_getElem? s k hk))
theorem KH (s:ByteArray)(w:World)(hs:s.size<=1000000)(h0:(s.toList==[])=false)(h:s.data.toList.all NI=true):
  Calls Tryz.prog 311 #[.string s] w fun e w'=>e= .returned (.bool true)/\w'=w:=by
 have HB:Hid (∀k (hk:k<s.size),NI (s[k]'hk)=true):=af (fun k hk=>bytes_at h hk)
 have h0':s.data.toList.isEmpty=false:=by rw[toList_eq] at h0;cases hq:s.data.toList<;>simp_all
 clear h
 go_enter Tryz.func311,Tryz.ntmps311
 go_wp2
 go_loopw [3,4,7] (fun _ _ i wr=>∃k:Nat,k<=s.size/\i= .int .i64 k/\wr=w) (fun _ _ i _=>s.size - (intOf i).toNat)
 case atStart=>exact⟨0,aN _,rfl,rfl⟩
 case round=>
  obtain⟨k,hk,rfl,hwr⟩:=hrel
  subst hwr
  by_cases hkl:k<s.size
  ·have hkl':(k:Int)<(s.size:Int):=by omega
   have hb:=HB.out k hkl
   obtain⟨x,hx⟩:∃x:UInt8,s[k]'hkl=x:=⟨_,rfl⟩
   rw[hx] at hb
   simp only[NI,uy,dI,dB] at hb
   have hfin:IntKind.i64.wrap ((k:Int)+1)=((k+1:Nat):Int):=by rw[bJ];omega
   rcases hb with hb|hb
   ·obtain⟨y1,y2⟩:=Qs x.toNat (by omega) hb
    obtain⟨y,hy⟩:∃y,bits .or .u8 (x.toNat:Int) 32=y:=⟨_,rfl⟩
    rw[hy] at y1 y2
    have y3:(65:Int)<=(x.toNat:Int):=by omega
    clear hb
    go_wp2_with fail
    go_roundw
    case rel=>exact⟨k+1,by omega,by go_num,by trivial⟩
    case measure=>simp[intOf];omega
   ·have hx2:x=45:=uw.1 hb
    subst hx2
    clear hb
    go_wp2_with (first
     |(go_at_call 245;go_must (refine(Co ⟨#[33,35,36,37,38,39,42,43,45,46,94,95,96,124,126]⟩ 45 _ (by decide)).mono ?_;rintro e w1 ⟨rfl,hw⟩;subst w1;rw[OP])))
    go_roundw
    case rel=>exact⟨k+1,by omega,by go_num,by trivial⟩
    case measure=>simp[intOf];omega
  ·obtain rfl:k=s.size:=by omega
   have x2:¬(s.size:Int)<(s.size:Int):=by omega
   go_wp2_with fail
   go_ret
   exact⟨rfl,rfl⟩
theorem wall (g:Nat)(s:ByteArray)(w:World)(hs:s.size<=1000000)(hent:∀args w,(callFunc g args).run Tryz.prog w= .ok (.enter g args) w)(p:UInt8->Bool)(h:s.data.toList.all p=true)
  (hf:∀(c:UInt8) (W:World),p c=true->Calls Tryz.prog g #[.int .u8 c.toNat] W fun e w'=>e= .returned (.bool true)/\w'=W):
  Calls Tryz.prog 312 #[.string s,.func (.func g) #[] #[]] w fun e w'=>e= .returned (.bool true)/\w'=w:=by
 have HB:Hid (∀k (hk:k<s.size),p (s[k]'hk)=true):=af (fun k hk=>bytes_at h hk)
 have HF:=af hf
 clear h hf
 go_enter Tryz.func312,Tryz.ntmps312
 go_wp2
 go_loopw [5,8] (fun _ i wr=>∃k:Nat,k<=s.size/\i= .int .i64 k/\wr=w) (fun _ i _=>s.size - (intOf i).toNat)
 case atStart=>exact⟨0,aN _,rfl,rfl⟩
 case round=>
  obtain⟨k,hk,rfl,hwr⟩:=hrel
  subst hwr
  by_cases hkl:k<s.size
  ·have hkl':(k:Int)<(s.size:Int):=by omega
   have hb:=af (HB.out k hkl)
   obtain⟨x,hx⟩:∃x:UInt8,s[k]'hkl=x:=⟨_,rfl⟩
   rw[hx] at hb
   go_wp2_with (first
    |(refine(HF.out x _ hb.out).mono ?_;rintro e w1 ⟨rfl,hw⟩;subst w1))
   go_roundw
   case rel=>exact⟨k+1,by omega,by go_num,by trivial⟩
   case measure=>simp[intOf];omega
  ·obtain rfl:k=s.size:=by omega
   have x2:¬(s.size:Int)<(s.size:Int):=by omega
   go_wp2_with fail
   go_ret
   exact⟨rfl,rfl⟩
def OO (c:UInt8):Bool:=decide (48<=c.toNat) && decide (c.toNat<=57)
theorem KQ (c:UInt8)(W:World)(h:OO c=true):Calls Tryz.prog 315 #[.int .u8 c.toNat] W fun e w'=>e= .returned (.bool true)/\w'=W:=by
 simp only[OO,dI,dB] at h
 have h1:(48:Int)<=(c.toNat:Int):=by omega
 have h2:(c.toNat:Int)<=57:=by omega
 clear h
 go_enter Tryz.func315,Tryz.ntmps315
 go_wp2
 go_ret
 exact⟨rfl,rfl⟩
def Qj (c:UInt8):Bool:=decide (33<=c.toNat) && decide (c.toNat<=126)
theorem TD (c:UInt8)(W:World)(h:Qj c=true):Calls Tryz.prog 313 #[.int .u8 c.toNat] W fun e w'=>e= .returned (.bool true)/\w'=W:=by
 simp only[Qj,dI,dB] at h
 have h1:(33:Int)<=(c.toNat:Int):=by omega
 have h2:(c.toNat:Int)<=126:=by omega
 clear h
 go_enter Tryz.func313,Tryz.ntmps313
 go_wp2
 go_ret
 exact⟨rfl,rfl⟩
def Jc (c:UInt8):Bool:=decide (32<=c.toNat) && decide (c.toNat<=126)
theorem TF (c:UInt8)(W:World)(h:Jc c=true):Calls Tryz.prog 316 #[.int .u8 c.toNat] W fun e w'=>e= .returned (.bool true)/\w'=W:=by
 simp only[Jc,dI,dB] at h
 have h1:(32:Int)<=(c.toNat:Int):=by omega
 have h2:((c.toNat:Int)==9)=false:=by simp;omega
 have h3:((c.toNat:Int) !=127)=true:=by simp;omega
 clear h
 go_enter Tryz.func316,Tryz.ntmps316
 go_wp2
 go_ret
 exact⟨rfl,rfl⟩
def gX (w:World)(qb:Nat)(m t:ByteArray)(hv:Value)(b:ByteArray)(c:Bool):Prop:=w.heap[qb]? =some (.cells #[.string m,.string t,hv,.string b,.bool c] 73 (0,0))
theorem gX.cells {w:World}{qb:Nat}{m t:ByteArray}{hv:Value}{b:ByteArray}{c:Bool}(h:gX w qb m t hv b c):w.cell? ⟨qb,0,none⟩=some (.string m)/\w.cell? ⟨qb,1,none⟩=some (.string t)/\w.cell? ⟨qb,2,none⟩=some hv/\w.cell? ⟨qb,3,none⟩=some (.string b)/\w.cell? ⟨qb,4,none⟩=some (.bool c)/\(∀i,w.frozen? ⟨qb,i,none⟩=false)/\qb<w.heap.size:=by
 unfold gX at h
 exact⟨by simp[World.cell?,h],by simp[World.cell?,h],by simp[World.cell?,h],by simp[World.cell?,h],by simp[World.cell?,h],fun i=>by simp[World.frozen?,h],(ah.1 h).1⟩
theorem gX.keep {M:Nat->Prop}{w w':World}{qb:Nat}{m t:ByteArray}{hv:Value}{b:ByteArray}{c:Bool}(h:gX w qb m t hv b c)(hk:Keep M w w')(hM:¬M qb):gX w' qb m t hv b c:=(hk.block qb (ah.1 h).1 hM).trans h
abbrev jP (w:World) (v:Value) (hs:List Pr):Prop:=rZ w d9 v hs
def jC (hs:List Pr)(n:ByteArray):List ByteArray:=(hs.filter fun p=>p.1.toList==n.toList).map (·.2)
theorem yt (qb:Nat)(m t:ByteArray)(hv:Value)(b:ByteArray)(c:Bool)(hs:List Pr)(name:ByteArray)(w:World)(h:gX w qb m t hv b c)(hh:jP w hv hs)(hl:hs.length<=1000):
  Calls Tryz.prog 317 #[.pointer (some ⟨qb,0,none⟩),.string name] w fun e w'=>∃v,e= .returned v/\aQ w' d9 w.heap.size 9 1 v (jC hs name).length ((jC hs name).map .string)/\Below w.heap.size w w':=by
 obtain⟨_,_,c2,_,_,_,lq⟩:=h.cells
 obtain⟨ho,hc,rfl,h1,h2,_,_⟩:=aW.form hh
 have HH:=af (ak hh hl)
 clear h hh
 go_enter Tryz.func317,Tryz.ntmps317
 go_wp2
 go_loopw [5,7,13] (fun l _ i wr=>∃(k:Nat),k<=hs.length/\i= .int .i64 k/\aQ wr d9 w.heap.size 9 1 l (jC (hs.take k) name).length ((jC (hs.take k) name).map .string)/\Below w.heap.size w wr) (fun _ _ i _=>hs.length - (intOf i).toNat)
 case atStart=>exact⟨0,aN _,rfl,aQ.nil _ _ _ _ _,aH _ _⟩
 case round=>
  obtain⟨k,hk,rfl,hown,hbel⟩:=hrel
  have hlenf:(jC (hs.take k) name).length<=1000:=by
   unfold jC
   rw[jc]
   exact aG (List.length_filter_le _ _) (by rw[aL];omega)
  generalize hn:(jC (hs.take k) name).length=n at hown hlenf
  have HN:=af hn;clear hn
  obtain⟨lo,lc,rfl,_,_,_,_⟩:=aW.form hown.dL
  by_cases hlt:k<hs.length
  ·obtain⟨g,o,rfl,d1,d2⟩:=HH.out.1.at rfl k hlt
   have d1':=(hbel.cell (p:=⟨g,o+k*2,none⟩) (aD w _ d1)).trans d1
   have d2':=(hbel.cell (p:=⟨g,o+k*2+1,none⟩) (aD w _ d2)).trans d2
   have hbl:=aD wr _ d1'
   have hlt':(k:Int)<(hs.length:Int):=by omega
   have htk:jC (hs.take (k+1)) name=jC (hs.take k) name++jC [hs[k]] name:=by
    unfold jC
    rw[aM hlt,List.filter_append,eP]
   have HTK:=af htk
   have hba:=aC wr (.cells #[.string hs[k].1,.string hs[k].2] 162)
   clear d1 d2 htk
   cases he:(hs[k].1.toList==name.toList) with
   |false=>
    have HE:=af he
    go_wp2_with fail
    go_roundw
    case rel=>
     refine⟨k+1,by omega,by go_num,?_,hbel.trans (hba.mono hbel.size)⟩
     rw[HTK.out,show jC [hs[k]] name=[] by simp[jC,HE.out],fV,HN.out]
     exact hown.below hba
    case measure=>simp[intOf];omega
   |true=>
    have HE:=af he
    have hbb:=aC (wr.alloc (.cells #[.string hs[k].1,.string hs[k].2] 162)) (.cells #[.string hs[k].2] 9)
    have hb2:=hba.trans (hbb.mono hba.size)
    have hz:(wr.alloc (.cells #[.string hs[k].1,.string hs[k].2] 162)).heap.size=wr.heap.size+1:=by simp
    go_wp2_with (at_builtin;go_must ((refine dS rfl (.tmp 21) (.tmp 24) 146 146 rfl d9 w.heap.size 9 1 16 _ iV vB rfl (.slice lo n lc) n _ rfl (hown.below hb2) (.slice (some ⟨wr.heap.size+1,0,none⟩) 1 1) 1 [.string hs[k].2] rfl (iq [.string hs[k].2] 9 1 1 1 hz iV rfl (by intro u hu;simp only[aX,cK,iL] at hu;subst hu;rfl)) (fun g hg=>hg.elim) ?_ ?_ ?_ ?_);(focus (have:=hbel.size;have:=hb2.size;omega));(focus (unfold maxLen;omega));(focus omega);intro ao3 c3 w3 hown3 hk3 hb3 hd3))
    go_roundw
    case rel=>
     refine⟨k+1,by omega,by go_num,?_,(hbel.trans (hb2.mono hbel.size)).trans hb3⟩
     rw[HTK.out,show jC [hs[k]] name=[hs[k].2] by simp[jC,HE.out],ay,HN.out,eP]
     exact hown3
    case measure=>simp[intOf];omega
  ·obtain rfl:k=hs.length:=by omega
   rw[bW] at hown
   have hn:=HN.out
   rw[bW] at hn
   subst hn
   have x1:¬(hs.length:Int)<(hs.length:Int):=by omega
   go_wp2_with fail
   go_ret
   exact⟨_,rfl,hown,hbel⟩
theorem NA (qb:Nat)(m t:ByteArray)(hv:Value)(b:ByteArray)(c:Bool)(hs:List Pr)(w:World)(h:gX w qb m t hv b c)(hh:jP w hv hs)(hl:hs.length<=1000)(hn:jC hs ⟨#[99,111,110,110,101,99,116,105,111,110]⟩=[]):
  Calls Tryz.prog 205 #[.pointer (some ⟨qb,0,none⟩)] w fun e w'=>e= .returned (.bool false)/\Below w.heap.size w w':=by
 have HV:=yt qb m t hv b c hs ⟨#[99,111,110,110,101,99,116,105,111,110]⟩ w h hh hl
 rw[hn] at HV
 have HV:=af HV
 have lq:=h.cells.2.2.2.2.2.2
 clear h hh hn
 go_enter Tryz.func205,Tryz.ntmps205
 go_wp2_with (first
  |(go_at_call 317;go_must (refine HV.out.mono ?_;rintro e w1 ⟨v,rfl,ho,hb1⟩;obtain⟨lo,lc,rfl,_⟩:=aW.form ho.dL;refine Stop.of ?_)))
 refine Stop.on ?_
 clear ho
 go_wp2
 go_loopw [4,6,10,17] (fun _ _ i _ wr=>i= .int .i64 0/\wr=w1) (fun _ _ _ _ _=>0)
 case atStart=>exact⟨rfl,rfl⟩
 case round=>
  obtain⟨rfl,hw⟩:=hrel
  subst hw
  go_wp2_with fail
  go_ret
  exact⟨rfl,hb1⟩
def jZ (w:World):Prop:=∃m,w.cell? ⟨3,0,none⟩=some (.int .i64 m)
theorem jZ.keep {M:Nat->Prop}{w w':World}(h:jZ w)(hk:Keep M w w')(hM:¬M 3):jZ w':=h.imp fun _ h=>(hk.cell (aD w _ h) hM).trans h
theorem jZ.below {w w':World}(h:jZ w)(hb:Below w.heap.size w w'):jZ w':=h.keep (Keep.of_below hb (fun _=>False)) id
theorem JW:(Tryz.prog.info? (fK.t 9)).map (fun i=>(i.zero,i.size,i.bytes))=some (some (.string ByteArray.empty),1,16):=by kernel_rfl
theorem Uw:Builder.Extra Tryz.prog fK where
 sizeBuilder:=by kernel_rfl
 liesBuilder:=by kernel_rfl
 t5:=dx
 a5:=jW
 z5:=jq
 v5:=fO
 infoByte:=by kernel_rfl
 cellsByte:=by kernel_rfl
 sizeByte:=by kernel_rfl
 neB5:=by decide
section
variable (s x:ByteArray) (w:World)
theorem wS (l:List ByteArray)(hm:jZ w)(hs:s.size<4294967281/\1<=x.size)(hc:Lib.countB s x+1=l.length)(hl:Lib.splitB x 0 (Lib.countB s x) s=l):
  Calls Tryz.prog 108 #[.string s,.string x] w fun e w'=>e= .returned (.slice (some ⟨w.heap.size,0,none⟩) l.length l.length)/\w'=w.alloc (.cells (l.map Value.string).toArray 9):=by
 obtain⟨m,hm⟩:=hm
 have h:=Any.strings_Split QB JW s x m w hs.1 hm hs.2
 rw[hc,hl] at h
 exact h
theorem Ow (a b:ByteArray)(hm:jZ w)(hs:s.size<4294967281)(ha:Lib.cut s.data.toList x.data.toList=(a.data.toList,b.data.toList,true)):
  Calls Tryz.prog 253 #[.string s,.string x] w fun e w'=>e= .returned (.tuple #[.string a,.string b,.bool true])/\∃n,w'=w.drewN n:=by
 obtain⟨m,hm⟩:=hm
 have h:=Any.strings_Cut OT s x m w hs hm
 rw[ha] at h
 exact h
theorem Ef (a:ByteArray)(b:Bool)(ha:Lib.trimPrefix s.data.toList x.data.toList=a.data.toList)(hb:Lib.hasPrefix s.data.toList x.data.toList=b):
  Calls Tryz.prog 239 #[.string s,.string x] w fun e w'=>e= .returned (.tuple #[.string a,.bool b])/\w'=w:=by
 have h:=Any.strings_CutPrefix Ru s x w
 rw[ha,hb] at h
 exact h
theorem Ou (b:Bool)(hb:Lib.hasPrefix s.data.toList x.data.toList=b):
  Calls Tryz.prog 167 #[.string s,.string x] w fun e w'=>e= .returned (.bool b)/\w'=w:=by
 have h:=Any.strings_HasPrefix Rk s x w
 rw[hb] at h
 exact h
theorem A8 (a:ByteArray)(hs:s.size<=1000000)(hA:(s.data.toList.all fun b=>decide (b.toNat<128))=true)(ha:Lib.toLowerA s.data.toList=a.data.toList):
  Calls Tryz.prog 192 #[.string s] w fun e w'=>e= .returned (.string a)/\Below w.heap.size w w':=by
 have h:=Any.strings_ToLower_ascii Qt Uw s w (by omega) (fun j b hb=>by have:=BB.1 hA b (tT hb);simpa using this)
 rw[ha] at h
 exact h
theorem Ed (a:ByteArray)(hs:s.size<=1000000)(hx:x.size<=1000000)(hA:(x.data.toList.all fun b=>decide (b.toNat<128))=true)(ha:Lib.trimS s.data.toList x.data.toList=a.data.toList):
  Calls Tryz.prog 194 #[.string s,.string x] w fun e w'=>e= .returned (.string a)/\Below w.heap.size w w':=by
 have h:=Any.strings_Trim_laid Qr F8 s x w (by omega) (by omega) (fun j b hb=>by have:=BB.1 hA b (tT hb);simpa using this)
 rw[ha] at h
 exact h
theorem Md (n:Int)(hl:s.size<=18)(h:Lib.atoi s.data.toList=some n):
  Calls Tryz.prog 265 #[.string s] w fun e w'=>e= .returned (.tuple #[.int .i64 n,.nilIface])/\Below w.heap.size w w':=by
 refine(Any.strconv_Atoi Ry s n hl h w).mono ?_
 rintro e w' ⟨he,t,rfl⟩
 exact⟨he,Go.Joins.below_bytesWorld _ _ _ _ (aA _)⟩
theorem Ov (i:Nat)(a:ByteArray)(hi:i<100)(ha:Lib.decDigits i=a.data.toList):
  Calls Tryz.prog 286 #[.int .i64 i,.int .i64 10] w fun e w'=>e= .returned (.string a)/\w'=w:=by
 have h:=Any.strconv_FormatInt_10_small Ro i hi w
 rw[ha] at h
 exact h
end
def fH:ByteArray:=⟨#[80,85,84]⟩
def mq:ByteArray:=⟨#[47,97]⟩
def Ll:ByteArray:=⟨#[72,84,84,80,47,49,46,49]⟩
def s11:ByteArray:=⟨#[49,46,49]⟩
def QF:ByteArray:=⟨#[80,85,84,32,47,97,32,72,84,84,80,47,49,46,49]⟩
theorem Lb (w:World)(hm:jZ w):Calls Tryz.prog 108 #[.string QF,.string ⟨#[32]⟩] w fun e w'=>e= .returned (.slice (some ⟨w.heap.size,0,none⟩) 3 3)/\w'.heap[w.heap.size]? =some (.cells #[.string fH,.string mq,.string Ll] 9 (0,0))/\Below w.heap.size w w':=by
 refine(wS QF ⟨#[32]⟩ w [fH,mq,Ll] hm ⟨by decide,by decide⟩ (by kernel_rfl) (by kernel_rfl)).mono ?_
 rintro e w' ⟨rfl,rfl⟩
 exact⟨rfl,aF w _,aC w _⟩
theorem Dh {w:World}{b:Nat}{x y z:ByteArray}(h:w.heap[b]? =some (.cells #[.string x,.string y,.string z] 9 (0,0))):w.cell? ⟨b,0,none⟩=some (.string x)/\w.cell? ⟨b,1,none⟩=some (.string y)/\w.cell? ⟨b,2,none⟩=some (.string z)/\b<w.heap.size:=
 ⟨by simp[World.cell?,h],by simp[World.cell?,h],by simp[World.cell?,h],(ah.1 h).1⟩
theorem Qh (rb qb:Nat)(s rest fr bk:ByteArray)(w:World)(h:oJ w rb s 0)(hq:gX w qb ⟨#[]⟩ ⟨#[]⟩ (.slice none 0 0) ⟨#[]⟩ false)(hne:rb≠qb)(hl:rY s 0 16 rest fr bk QF)(hm:jZ w)(hmr:3≠rb):
  Calls Tryz.prog 202 #[.pointer (some ⟨rb,0,none⟩),.pointer (some ⟨qb,0,none⟩)] w fun e w'=>e= .returned (.tuple #[])/\oJ w' rb s 17/\gX w' qb fH mq (.slice none 0 0) ⟨#[]⟩ false/\Keep (fun g=>g=rb\/g=qb) w w':=by
 have HL:=af (KM rb s 0 16 rest fr bk QF 414 400 w h hl)
 have HQ:=af (ak hq (ak hm (ak hmr hne)))
 have e1:QF.toList.isEmpty=false:=by kernel_rfl
 clear h hq hm hl hmr hne
 go_enter Tryz.func202,Tryz.ntmps202
 go_wp2
 go_loopw [4] (fun l wr=>(l= .string ⟨#[]⟩/\wr=w)\/(l= .string QF/\oJ wr rb s 17/\Keep (· =rb) w wr)) (fun l _=>match l with| .string s=>(if s.size=0 then 1 else 0)|_=>0)
 case atStart=>exact .inl ⟨rfl,rfl⟩
 case round=>
  rcases hrel with ⟨rfl,hw⟩|⟨rfl,hR,hk⟩
  ·subst hw
   go_wp2_with (first
    |(go_at_call 310;go_must (refine HL.out.mono ?_;rintro e w1 ⟨rfl,hR,hk⟩;refine Stop.of ?_)))
   refine Stop.on ?_
   go_wp2_with fail
   go_roundw
   case rel=>exact .inr ⟨rfl,hR,hk⟩
   case measure=>decide
  ·have hq1:=HQ.out.1.keep hk (fun e=>HQ.out.2.2.2 e.symm)
   have hm1:=HQ.out.2.1.keep hk HQ.out.2.2.1
   have HA:=af (ak hR (ak hq1 (ak hm1 hk)))
   have HS:=af (Lb wr hm1)
   clear hR hk hq1 hm1
   go_wp2_with (first
    |(go_at_call 108;go_must (refine HS.out.mono ?_;rintro e w2 ⟨rfl,hn2,hb2⟩;refine Stop.of ?_)))
   refine Stop.on ?_
   obtain⟨d0,d1,d2,ld⟩:=Dh hn2
   have HB:=af (ak hn2 hb2)
   obtain⟨pb,hpb⟩:∃pb:Nat,Hid (wr.heap.size=pb):=⟨_,af rfl⟩
   rw[hpb.out] at d0 d1 d2 ld
   clear hn2 hb2
   rw[hpb.out]
   have f1:mq.toList.isEmpty=false:=by kernel_rfl
   have f2:(s11.toList==[49,46,49])=true:=by kernel_rfl
   have f3:s11.size=3:=rfl
   have g0:∀W:World,(Instr.index 9 (.string s11) (.int .i64 0)).run Tryz.prog W= .ok (.int .u8 49) W:=fun _=>by kernel_rfl
   have g1:∀W:World,(Instr.index 9 (.string s11) (.int .i64 1)).run Tryz.prog W= .ok (.int .u8 46) W:=fun _=>by kernel_rfl
   have g2:∀W:World,(Instr.index 9 (.string s11) (.int .i64 2)).run Tryz.prog W= .ok (.int .u8 49) W:=fun _=>by kernel_rfl
   go_wp2_with (first
    |(go_at_call 311;go_must (refine(KH fH _ (by decide) (by kernel_rfl) (by kernel_rfl)).mono ?_;rintro e w3 ⟨rfl,hw⟩;subst w3))
    |(go_at_call 312;go_must (refine(wall 313 mq _ (by decide) (fun _ _=>by kernel_rfl) Qj (by kernel_rfl) TD).mono ?_;rintro e w3 ⟨rfl,hw⟩;subst w3))
    |(go_at_call 239;go_must (refine(Ef Ll ⟨#[72,84,84,80,47]⟩ _ s11 true (by kernel_rfl) (by kernel_rfl)).mono ?_;rintro e w3 ⟨rfl,hw⟩;subst w3))
    |(go_at_call 315;go_must (refine(KQ 49 _ (by decide)).mono ?_;rintro e w3 ⟨rfl,hw⟩;subst w3)))
   have hqw:gX w2 qb ⟨#[]⟩ ⟨#[]⟩ (.slice none 0 0) ⟨#[]⟩ false:=HA.out.2.1.keep (Keep.of_below HB.out.2 (fun _=>False)) id
   obtain⟨q0,q1,q2,q3,q4,qf,lq⟩:=hqw.cells
   have hpq:pb≠qb:=fun e=>by
    have:=HA.out.2.1.cells.2.2.2.2.2.2
    have:=hpb.out
    omega
   have HX:=af (ak hqw (ak hpq ld))
   clear hqw hpq e1 f1 f2 f3 g0 g1 g2
   refine aK (fun W=>Keep (· =qb) w2 W) (fun i=> !([10,13].contains i)) [0,1,2,3,4,5,6,7,8,9,10,11,12,13] rfl (by kernel_rfl) ((Keep.refl (· =qb) w2).as rfl rfl rfl rfl) ?_
   repeat ((refine bq (v:= ?_) rfl rfl (fun _ _ _ h=>h) rfl (fun W hW=> ?_) ?_);rotate_left;(focus ((try dsimp only at hW);have p0:=(hW.cell (p:=⟨pb,0,none⟩) ld HX.out.2.1).trans d0;have p1:=(hW.cell (p:=⟨pb,1,none⟩) ld HX.out.2.1).trans d1;have p2:=ax ld hW.size;have p3:=ax lq hW.size;(go_simp;first|done|with_reducible rfl)));(try simp only[Act.put,aj,av,au]))
   refine bP rfl rfl rfl ?_;intro K hK;go_simp
   have k1:Keep (· =qb) w2 (w2.setCell ⟨qb,0,none⟩ (.string fH)):=(Keep.refl (· =qb) w2).setCell (p:=⟨qb,0,none⟩) (.inr rfl) _
   refine hK.out _ _ (k1.as rfl rfl rfl rfl) ?_
   (try simp only[Act.put,aj,av,au])
   repeat ((refine bq (v:= ?_) rfl rfl (fun _ _ _ h=>h) rfl (fun W hW=> ?_) ?_);rotate_left;(focus ((try dsimp only at hW);have p0:=(hW.cell (p:=⟨pb,0,none⟩) ld HX.out.2.1).trans d0;have p1:=(hW.cell (p:=⟨pb,1,none⟩) ld HX.out.2.1).trans d1;have p2:=ax ld hW.size;have p3:=ax lq hW.size;(go_simp;first|done|with_reducible rfl)));(try simp only[Act.put,aj,av,au]))
   refine bP rfl rfl rfl ?_;intro K hK;go_simp
   refine hK.out _ _ (((k1.setCell (p:=⟨qb,1,none⟩) (.inr rfl) (.string mq))).as rfl rfl rfl rfl) ?_
   refine bF ?_
   go_end0
   have kf:Keep (· =qb) w2 ((w2.setCell ⟨qb,0,none⟩ (.string fH)).setCell ⟨qb,1,none⟩ (.string mq)):=k1.setCell (p:=⟨qb,1,none⟩) (.inr rfl) _
   have hqf:gX ((w2.setCell ⟨qb,0,none⟩ (.string fH)).setCell ⟨qb,1,none⟩ (.string mq)) qb fH mq (.slice none 0 0) ⟨#[]⟩ false:=by
    have:=HX.out.1
    unfold gX at this ⊢
    simp[World.setCell,aJ,this]
   have hk2:Keep (fun g=>g=rb\/g=qb) w w2:=(HA.out.2.2.2.mono fun _ _ e=> .inl e).trans (Keep.of_below HB.out.2 (fun _=>False)) (fun _ _ e=>e.elim)
   have hrf:=(HA.out.1.keep (Keep.of_below HB.out.2 (fun _=>False)) id).keep kf HQ.out.2.2.2
   exact⟨rfl,hrf,hqf,(hk2.trans kf (fun _ _ e=> .inr e)).as rfl rfl rfl rfl⟩
structure Nh (l n v n' v':ByteArray):Prop where
 ls:l.size<=1000
 le:l.toList.isEmpty=false
 cut:Lib.cut l.data.toList [58]=(n.data.toList,v.data.toList,true)
 ns:n.size<=1000
 n0:(n.toList==[])=false
 nt:n.data.toList.all NI=true
 na:(n.data.toList.all fun b=>decide (b.toNat<128))=true
 vs:v.size<=1000
 vt:v.data.toList.all Jc=true
 lw:Lib.toLowerA n.data.toList=n'.data.toList
 tr:Lib.trimS v.data.toList [32,9]=v'.data.toList
theorem Ez:(Tryz.prog.info? 162).map (fun i=>(i.zero,i.size,i.bytes))=some (some (.agg #[.string ⟨#[]⟩,.string ⟨#[]⟩]),2,32):=by kernel_rfl
structure Fe (w0 w:World)(rb qb:Nat)(s m t:ByteArray)(u:Nat)(hv:Value)(hs:List Pr):Prop where
 rd:oJ w rb s u
 rq:gX w qb m t hv ⟨#[]⟩ false
 own:aQ w d9 w0.heap.size 162 2 hv hs.length (bZ hs)
 kp:Keep (fun g=>g=rb\/g=qb) w0 w
theorem Fe.below {w0 w w':World}{rb qb:Nat}{s m t:ByteArray}{u:Nat}{hv:Value}{hs:List Pr}(h:Fe w0 w rb qb s m t u hv hs)(hb:Below w.heap.size w w'):Fe w0 w' rb qb s m t u hv hs:=
 ⟨h.rd.keep (Keep.of_below hb (fun _=>False)) id,h.rq.keep (Keep.of_below hb (fun _=>False)) id,h.own.below hb,h.kp.trans (Keep.of_below hb (fun _=>False)) (fun _ _ e=>e.elim)⟩
theorem KO (rb qb:Nat)(s m t:ByteArray)(N:Nat)(U Z:Nat->Nat)(HS:Nat->List Pr)(rest fr bk:ByteArray)(w:World)(h:oJ w rb s (U 0))(hq:gX w qb m t (.slice none 0 0) ⟨#[]⟩ false)(hne:rb≠qb)(hm:jZ w)(hmr:3≠rb/\3≠qb)
  (h0:HS 0=[]) (hz0:Z 0=0) (hE:rY s (U N) 1 rest fr bk ⟨#[]⟩) (hN:N<=20/\Z N<=4000)
  (hH:∀j,j<N->∃i rest fr bk l n v n' v',rY s (U j) i rest fr bk l/\Nh l n v n' v'/\U (j+1)=U j+i+1/\Z (j+1)=Z j+(l.size+2)/\Z (j+1)<=Z N/\HS (j+1)=HS j++[(n',v')]/\(HS j).length=j) (hlN:(HS N).length=N):
  Calls Tryz.prog 203 #[.pointer (some ⟨rb,0,none⟩),.pointer (some ⟨qb,0,none⟩)] w fun e w'=>e= .returned (.tuple #[])/\∃hv,Fe w w' rb qb s m t (U N+2) hv (HS N):=by
 have HH:=af (ak hH (ak hE (ak hN (ak hm (ak hmr (ak hne hlN))))))
 have hS:Fe w w rb qb s m t (U 0) (.slice none 0 0) (HS 0):=⟨h,hq,by rw[h0];exact aQ.nil _ _ _ _ _,Keep.refl _ _⟩
 have HSt:=af (ak hS hz0)
 clear h hq h0 hz0 hE hN hH hm hmr hne hS hlN
 go_enter Tryz.func203,Tryz.ntmps203
 go_wp2
 go_loopw [4,5,6,7,8] (fun z _ _ _ _ wr=>∃(j:Nat) (hv:Value),j<=N/\z= .int .i64 (Z j)/\Fe w wr rb qb s m t (U j) hv (HS j)) (fun z _ _ _ _ _=>Z N - (intOf z).toNat)
 case atStart=>exact⟨0,_,aN _,by rw[HSt.out.2];rfl,HSt.out.1⟩
 case round=>
  obtain⟨j,hv,hj,rfl,hA⟩:=hrel
  have hmw:jZ wr:=HH.out.2.2.2.1.keep hA.kp (fun e=>e.elim HH.out.2.2.2.2.1.1 HH.out.2.2.2.2.1.2)
  by_cases hlt:j<N
  ·obtain⟨i,rest',fr',bk',l,n,v,n',v',hl,hL,eU,eZ,eZ2,eH,eL⟩:=HH.out.1 j hlt
   have HL:=af (KM rb s (U j) i rest' fr' bk' l 431 400 wr hA.rd hl)
   have HX:=af (ak hA (ak hmw (ak hL (ak eU (ak eZ (ak eZ2 (ak eH eL)))))))
   have e1:=hL.le
   have x0:=HH.out.2.2.1
   have y1:IntKind.i64.wrap ((l.size:Int)+2)=(l.size:Int)+2:=by rw[bJ];have:=hL.ls;omega
   have y2:IntKind.i64.wrap ((Z j:Int)+((l.size:Int)+2))=(Z (j+1):Int):=by rw[bJ];omega
   have y3:¬((4096:Int)<(Z (j+1):Int)):=by omega
   obtain⟨zj,hzj⟩:∃x:Nat,Hid (Z j=x):=⟨_,af rfl⟩
   obtain⟨zk,hzk⟩:∃x:Nat,Hid (Z (j+1)=x):=⟨_,af rfl⟩
   rw[hzj.out,hzk.out] at y2
   rw[hzk.out] at y3
   rw[hzj.out]
   clear hA hmw hl hL eU eZ eZ2 eH eL x0
   go_wp2_with (first
    |(go_at_call 310;go_must (refine HL.out.mono ?_;rintro e w1 ⟨rfl,hR1,hk1⟩;refine Stop.of ?_)))
   refine Stop.on ?_
   have hA1:Fe w w1 rb qb s m t (U (j+1)) hv (HS j):=⟨by rw[HX.out.2.2.2.1];exact hR1,HX.out.1.rq.keep hk1 (fun e=>HH.out.2.2.2.2.2.1 e.symm),HX.out.1.own.keep fun g hg hl' hs'=>⟨hk1.block g hl' (fun e=>by
    have e:g=rb:=e
    subst e
    exact HX.out.1.own.ne (show wr.heap[g]? =_ from HX.out.1.rd) (by decide) hg),hs'⟩,HX.out.1.kp.trans hk1 (fun _ _ e=> .inl e)⟩
   have hm1:=HX.out.2.1.keep hk1 HH.out.2.2.2.2.1.1
   have HA1:=af (ak hA1 hm1)
   obtain⟨_,_,q2,_,_,qf,lq⟩:=hA1.rq.cells
   obtain⟨ho,hc,rfl,_,_,_,_⟩:=aW.form hA1.own.dL
   have y4:((j:Int)==32)=false:=by simp;have:=HH.out.2.2.1;omega
   have eL:=HX.out.2.2.2.2.2.2.2
   rw[eL] at q2 HA1
   clear hR1 hk1 hA1 hm1 eL
   go_wp2_with (first
    |(go_at_call 253;go_must (refine(Ow l ⟨#[58]⟩ _ n v HA1.out.2 (by have:=HX.out.2.2.1.ls;omega) HX.out.2.2.1.cut).mono ?_;rintro e w2 ⟨rfl,nd,rfl⟩;refine Stop.of ?_)))
   refine Stop.on ?_
   go_wp2_with (first
    |(go_at_call 311;go_must (refine(KH n _ (by have:=HX.out.2.2.1.ns;omega) HX.out.2.2.1.n0 HX.out.2.2.1.nt).mono ?_;rintro e w3 ⟨rfl,hw⟩;subst w3))
    |(go_at_call 312;go_must (refine(wall 316 v _ (by have:=HX.out.2.2.1.vs;omega) (fun _ _=>by kernel_rfl) Jc HX.out.2.2.1.vt TF).mono ?_;rintro e w3 ⟨rfl,hw⟩;subst w3)))
   obtain⟨w2,hw2⟩:∃x:World,Hid (w1.drewN nd=x):=⟨_,af rfl⟩
   rw[hw2.out]
   have hA2:=HA1.out.1.below (below_drewN (aH w1.heap.size w1) nd)
   rw[hw2.out] at hA2
   obtain⟨_,_,q2',_,_,qf',lq'⟩:=hA2.rq.cells
   have hown:=hA2.own
   rw[HX.out.2.2.2.2.2.2.2] at hown
   have hbw:=hA2.kp.size
   have HA2:=af (ak hA2 hown)
   clear q2 qf lq hA2 hown
   have keepq:∀W W':World,Below W.heap.size W W'->(W.cell? ⟨qb,2,none⟩=some (.slice ho j hc)/\qb<W.heap.size)->(W'.cell? ⟨qb,2,none⟩=some (.slice ho j hc)/\qb<W'.heap.size):=fun W W' hb h=>⟨(hb.cell (p:=⟨qb,2,none⟩) h.2).trans h.1,ax h.2 hb.size⟩
   refine aK (fun W=>W.cell? ⟨qb,2,none⟩=some (.slice ho j hc)/\qb<W.heap.size) (fun i=> !([6,8,10,11,14].contains i)) [0,1,2,3,4,5,7,6,8,9,10,11,12,13,14] rfl (by kernel_rfl) ⟨q2',lq'⟩ ?_
   repeat ((refine bq (v:= ?_) rfl rfl (fun _ _ _ h=>h) rfl (fun W hW=> ?_) ?_);rotate_left;(focus ((try dsimp only at hW);have p0:=hW.1;have p1:=hW.2;(go_simp;first|done|with_reducible rfl)));(try simp only[Act.put,aj,av,au]))
   refine bP rfl rfl rfl ?_;intro K hK;go_simp
   refine(A8 n _ n' (by have:=HX.out.2.2.1.ns;omega) HX.out.2.2.1.na HX.out.2.2.1.lw).mono ?_;rintro e w3 ⟨rfl,hb3⟩
   have hb3:Below w2.heap.size w2 w3:=(aH w2.heap.size w2).drew.trans hb3
   have hq3:=keepq w2 w3 hb3 ⟨q2',lq'⟩
   refine hK.out _ _ hq3 ?_
   (try simp only[Act.put,aj,av,au])
   repeat ((refine bq (v:= ?_) rfl rfl (fun _ _ _ h=>h) rfl (fun W hW=> ?_) ?_);rotate_left;(focus ((try dsimp only at hW);have p0:=hW.1;have p1:=hW.2;(go_simp;first|done|with_reducible rfl)));(try simp only[Act.put,aj,av,au]))
   refine bP rfl rfl rfl ?_;intro K hK;go_simp
   refine(Ed v ⟨#[32,9]⟩ w3 v' (by have:=HX.out.2.2.1.vs;omega) (by decide) (by decide) HX.out.2.2.1.tr).mono ?_;rintro e w4 ⟨rfl,hb4⟩
   have hq4:=keepq w3 w4 hb4 hq3
   refine hK.out _ _ hq4 ?_
   (try simp only[Act.put,aj,av,au])
   repeat ((refine bq (v:= ?_) rfl rfl (fun _ _ _ h=>h) rfl (fun W hW=> ?_) ?_);rotate_left;(focus ((try dsimp only at hW);have p0:=hW.1;have p1:=hW.2;(go_simp;first|done|with_reducible rfl)));(try simp only[Act.put,aj,av,au]))
   refine bP rfl rfl rfl ?_;intro K hK;go_simp
   have hb5:=aC w4 (.cells #[.string n',.string v'] 162)
   refine hK.out _ _ (keepq _ _ hb5 hq4) ?_
   (try simp only[Act.put,aj,av,au])
   repeat ((refine bq (v:= ?_) rfl rfl (fun _ _ _ h=>h) rfl (fun W hW=> ?_) ?_);rotate_left;(focus ((try dsimp only at hW);have p0:=hW.1;have p1:=hW.2;(go_simp;first|done|with_reducible rfl)));(try simp only[Act.put,aj,av,au]))
   have hb25:=hb3.trans ((hb4.trans (hb5.mono hb4.size)).mono hb3.size)
   refine bP rfl rfl rfl ?_;intro K hK
   refine qP (.tmp 52) (.tmp 58) 71 71 rfl d9 w.heap.size 162 2 32 _ Tryz.underlying71 Ez rfl (.slice ho j hc) j _ rfl (HA2.out.2.below hb25) (.slice (some ⟨w4.heap.size,0,none⟩) 1 1) 1 [.string n',.string v'] rfl (iq (w:=w4) [.string n',.string v'] 162 2 1 1 rfl Tryz.underlying71 rfl (by intro u hu;simp only[aX,cK,iL] at hu;rcases hu with rfl|rfl<;>rfl)) (fun g hg=>hg.elim) (by have:=hb25.size;omega) (by have:=HH.out.2.2.1;unfold maxLen;omega) (by have:=HH.out.2.2.1;omega) ?_
   intro ao6 c6 w6 hown6 hk6 hb6 hd6
   have hrq5:=HA2.out.1.rq.keep (Keep.of_below hb25 (fun _=>False)) id
   have hrd5:=HA2.out.1.rd.keep (Keep.of_below hb25 (fun _=>False)) id
   have own5:=HA2.out.2.below hb25
   have hq5h:=hrq5;have hr5h:=hrd5
   unfold gX at hq5h;unfold oJ at hr5h
   have hrq6:=hrq5.keep hk6 (fun e=>own5.ne hq5h (by decide) e)
   have hrd6:=hrd5.keep hk6 (fun e=>own5.ne hr5h (by decide) e)
   obtain⟨_,_,r2,_,_,rf,rl⟩:=hrq6.cells
   have rf2:=rf 2
   refine hK.out _ _ ⟨r2,rl⟩ ?_
   (try simp only[Act.put,aj,av,au])
   repeat ((refine bq (v:= ?_) rfl rfl (fun _ _ _ h=>h) rfl (fun W hW=> ?_) ?_);rotate_left;(focus ((try dsimp only at hW);have p0:=hW.1;have p1:=hW.2;(go_simp;first|done|with_reducible rfl)));(try simp only[Act.put,aj,av,au]))
   refine jm rfl rfl rfl (by kernel_rfl) ?_;intro K hK;go_simp
   have hkS:Keep (· =qb) w6 (w6.setCell ⟨qb,2,none⟩ (.slice ao6 (j+1) c6)):=(Keep.refl (· =qb) w6).setCell (p:=⟨qb,2,none⟩) (.inr rfl) _
   refine hK.out _ _ (bF ?_)
   have hq6h:=hrq6
   unfold gX at hq6h
   have hfin:Fe w (w6.setCell ⟨qb,2,none⟩ (.slice ao6 (j+1) c6)) rb qb s m t (U (j+1)) (.slice ao6 (j+1) c6) (HS (j+1)):=by
    refine⟨hrd6.keep hkS HH.out.2.2.2.2.2.1,?_,?_,((HA2.out.1.kp.trans (Keep.of_below hb25 (fun _=>False)) (fun _ _ e=>e.elim)).trans (hk6.mono (fun g hl e=>(HA2.out.2.1.lt g e).1):Keep (fun g=>w.heap.size<=g) _ _) (fun g hg e=>absurd hg (aV.2 e))).trans hkS (fun _ _ e=> .inr e)⟩
    ·unfold gX
     simp[World.setCell,aJ,hq6h]
    ·rw[HX.out.2.2.2.2.2.2.1,ay,HX.out.2.2.2.2.2.2.2,lZ]
     exact hown6.keep fun g hg hl' hs'=>⟨hkS.block g hl' (fun e=>hown6.ne hq6h (by decide) (by rw[hg];exact congrArg some e)),hs'⟩
   have HF:=af hfin
   clear hfin
   go_wp2
   go_roundw
   case rel=>exact⟨j+1,_,by omega,by rw[hzk.out],HF.out⟩
   case measure=>simp[intOf];have:=HX.out.2.2.2.2.1;have:=HX.out.2.2.2.2.2.1;have:=hzj.out;have:=hzk.out;omega
  ·obtain rfl:j=N:=by omega
   have HL:=af (KM rb s (U j) 1 rest fr bk ⟨#[]⟩ 431 400 wr hA.rd HH.out.2.1)
   have HA:=af hA
   clear hA hmw
   go_wp2_with (first
    |(go_at_call 310;go_must (refine HL.out.mono ?_;rintro e w1 ⟨rfl,hR1,hk1⟩;refine Stop.of ?_)))
   refine Stop.on ?_
   go_wp2_with fail
   refine eX (results_none rfl _ _ _) rfl ?_
   exact⟨rfl,hv,hR1,HA.out.rq.keep hk1 (fun e=>HH.out.2.2.2.2.2.1 e.symm),HA.out.own.keep fun g hg hl' hs'=>⟨hk1.block g hl' (fun e=>by
    have e:g=rb:=e
    subst e
    exact HA.out.own.ne (show wr.heap[g]? =_ from HA.out.rd) (by decide) hg),hs'⟩,HA.out.kp.trans hk1 (fun _ _ e=> .inl e)⟩
def RI:ByteArray:=⟨#[99,111,110,116,101,110,116,45,108,101,110,103,116,104]⟩
def TL:ByteArray:=⟨#[116,114,97,110,115,102,101,114,45,101,110,99,111,100,105,110,103]⟩
def AQ:ByteArray:=⟨#[104,111,115,116]⟩
theorem RZ (rb qb:Nat)(s m t:ByteArray)(u n:Nat)(hv:Value)(hs:List Pr)(cl p:ByteArray)(w:World)(h:oJ w rb s u)(hq:gX w qb m t hv ⟨#[]⟩ false)(hh:jP w hv hs)(hl:hs.length<=1000)(hne:rb≠qb)
  (hc:jC hs RI=[cl]) (ht:jC hs TL=[]) (hho:(jC hs AQ).length=1) (hcs:cl.size<=18/\cl.toList.isEmpty=false/\cl.data.toList.all OO=true/\Lib.atoi cl.data.toList=some (n:Int)) (hn:n<=8192) (hu:u+n<=s.size) (hss:s.size<=1000000) (hp:s.extract u (u+n)=p):
  Calls Tryz.prog 204 #[.pointer (some ⟨rb,0,none⟩),.pointer (some ⟨qb,0,none⟩)] w fun e w'=>e= .returned (.tuple #[])/\oJ w' rb s (u+n)/\gX w' qb m t hv p false/\Keep (fun g=>g=rb\/g=qb) w w':=by
 have h1:=yt qb m t hv ⟨#[]⟩ false hs RI w hq hh hl
 rw[hc] at h1
 have HV:=af h1
 have HA:=af (ak h (ak hq (ak hh (ak hl (ak hne (ak ht (ak hho (ak hu (ak hss hp)))))))))
 have HC:=af hcs
 have x1:¬((8192:Int)<(n:Int)):=by omega
 unfold RI at HV
 clear h hq hh hl hne hc ht hho hu hss hp h1
 go_enter Tryz.func204,Tryz.ntmps204
 go_wp2_with (first
  |(go_at_call 317;go_must (refine HV.out.mono ?_;rintro e w1 ⟨v1,rfl,ho1,hb1⟩;refine Stop.of ?_)))
 refine Stop.on ?_
 have hq1:=HA.out.2.1.keep (Keep.of_below hb1 (fun _=>False)) id
 have hh1:jP w1 hv hs:=aW.below HA.out.2.2.1 hb1
 have h2:=yt qb m t hv ⟨#[]⟩ false hs TL w1 hq1 hh1 HA.out.2.2.2.1
 rw[HA.out.2.2.2.2.2.1] at h2
 have HV2:=af h2
 unfold TL at HV2
 obtain⟨ao,ac,rfl,_,_,_,_⟩:=aW.form ho1.dL
 have HB1:=af (ak ho1 (ak hb1 (ak hq1 hh1)))
 clear ho1 hb1 hq1 hh1 h2
 go_wp2_with (first
  |(go_at_call 317;go_must (refine HV2.out.mono ?_;rintro e w2 ⟨v2,rfl,ho2,hb2⟩;refine Stop.of ?_)))
 refine Stop.on ?_
 have hq2:=HB1.out.2.2.1.keep (Keep.of_below hb2 (fun _=>False)) id
 have hh2:jP w2 hv hs:=aW.below HB1.out.2.2.2 hb2
 have h3:=yt qb m t hv ⟨#[]⟩ false hs AQ w2 hq2 hh2 HA.out.2.2.2.1
 have HV3:=af h3
 unfold AQ at HV3
 obtain⟨bo,bc,rfl,_,_,_,_⟩:=aW.form ho2.dL
 have HB2:=af (ak hb2 hq2)
 clear ho2 hb2 hq2 hh2 h3
 go_wp2_with (first
  |(go_at_call 317;go_must (refine HV3.out.mono ?_;rintro e w3 ⟨v3,rfl,ho3,hb3⟩;refine Stop.of ?_)))
 refine Stop.on ?_
 obtain⟨co,cc,rfl,_,_,_,_⟩:=aW.form ho3.dL
 have e3:(jC hs ⟨#[104,111,115,116]⟩).length=1:=HA.out.2.2.2.2.2.2.1
 have hb13:=HB2.out.1.trans (hb3.mono HB2.out.1.size)
 obtain⟨ab,ai,rfl,d0⟩:=(HB1.out.1.below hb13).dL.Bz rfl 0 (.string cl) rfl
 have ld:=aD w3 _ d0
 have hbw3:=HB1.out.2.1.trans (hb13.mono HB1.out.2.1.size)
 have hq3:=HB2.out.2.keep (Keep.of_below hb3 (fun _=>False)) id
 have HB3:=af (ak hbw3 hq3)
 obtain⟨c1,c2,c3,c4⟩:=hcs
 have y1:¬((18:Int)<(cl.size:Int)):=by omega
 rw[jw] at d0
 clear ho3 hb3 hb13 hbw3 hq3 c1 c3 c4
 go_wp2_with (first
  |(go_at_call 312;go_must (refine(wall 315 cl _ (by have:=HC.out.1;omega) (fun _ _=>by kernel_rfl) OO HC.out.2.2.1 KQ).mono ?_;rintro e w4 ⟨rfl,hw⟩;subst w4))
  |(go_at_call 265;go_must (refine(Md cl _ n HC.out.1 HC.out.2.2.2).mono ?_;rintro e w4 ⟨rfl,hb4⟩;refine Stop.of ?_)))
 refine Stop.on ?_
 have hbw4:=HB3.out.1.trans (hb4.mono HB3.out.1.size)
 have hq4:=HB3.out.2.keep (Keep.of_below hb4 (fun _=>False)) id
 have hr4:=HA.out.1.keep (Keep.of_below hbw4 (fun _=>False)) id
 have HT:=af (RU rb s u n p w4 hr4 HA.out.2.2.2.2.2.2.2.1 HA.out.2.2.2.2.2.2.2.2.1 HA.out.2.2.2.2.2.2.2.2.2)
 have HB4:=af (ak hbw4 hq4)
 clear hb4 hbw4 hq4 hr4 d0 ld
 go_wp2_with (first
  |(go_at_call 320;go_must (refine HT.out.mono ?_;rintro e w5 ⟨rfl,hR5,hk5⟩;refine Stop.of ?_)))
 refine Stop.on ?_
 have hq5:=HB4.out.2.keep hk5 (fun e=>HA.out.2.2.2.2.1 e.symm)
 obtain⟨_,_,_,q3,_,qf,lq⟩:=hq5.cells
 have qf3:=qf 3
 have hkS:Keep (· =qb) w5 (w5.setCell ⟨qb,3,none⟩ (.string p)):=(Keep.refl (· =qb) w5).setCell (p:=⟨qb,3,none⟩) (.inr rfl) _
 have hqf:gX (w5.setCell ⟨qb,3,none⟩ (.string p)) qb m t hv p false:=by
  unfold gX at hq5 ⊢
  simp[World.setCell,aJ,hq5]
 have hf:=af (ak (hR5.keep hkS HA.out.2.2.2.2.1) (ak hqf (((Keep.of_below HB4.out.1 (fun g=>g=rb\/g=qb)).trans hk5 (fun _ _ e=> .inl e)).trans hkS (fun _ _ e=> .inr e))))
 clear hq5 hkS hqf hR5 hk5 qf
 go_wp2_with fail
 go_end0
 exact⟨rfl,hf.out.1,hf.out.2.1,hf.out.2.2⟩
end Go.Proofs.YtpmbddooibgnaaaGreatDoor
namespace Go.Proofs.YtpmbddooibgnaaaGreatDoor
open Go.RowKit
def kY (w:World)(e k:Nat)(v:Value)(n:Nat)(xs:List Value):Prop:=
 xs.length=n*k/\((v= .slice none 0 0/\n=0)\/∃g off cap cur,v= .slice (some ⟨g,off,none⟩) n cap/\Row w g e cur/\n<=cap/\cap<=maxLen/\off+cap*k<=cur.length/\(cur.drop off).take (n*k)=xs)
theorem kY.nil (w:World)(e k:Nat):kY w e k (.slice none 0 0) 0 []:=⟨by simp,.inl ⟨rfl,rfl⟩⟩
theorem kY.lt {w:World}{e k n:Nat}{v:Value}{xs:List Value}(h:kY w e k v n xs){g:Nat}(hg:v.ownBlock=some g):g<w.heap.size:=by
 rcases h.2 with ⟨rfl,_⟩|⟨g',off,cap,cur,rfl,hr,_⟩
 ·cases hg
 ·cases hg;exact hr.lt
theorem kY.dL {w:World}{S:Nat->Prop}{e k n:Nat}{v:Value}{xs:List Value}(h:kY w e k v n xs)(hS:∀g,v.ownBlock=some g->¬S g):aW w S k v n xs:=by
 obtain⟨hl,hr⟩:=h
 rcases hr with ⟨rfl,rfl⟩|⟨g,off,cap,cur,rfl,hr,h1,h2,h3,h4⟩
 ·have:xs=[]:=bn (by simpa using hl)
  subst this;exact aW.nil _ _ _
 ·have hle:n*k<=cap*k:=bV _ h1
  have:=hr.dL (S:=S) (k:=k) (off:=off) n cap (by omega) (hS g rfl) h1 h2
  rwa [h4] at this
theorem kY.keep {w w':World}{e k n:Nat}{v:Value}{xs:List Value}(h:kY w e k v n xs)(hb:∀g,v.ownBlock=some g->w'.heap[g]? =w.heap[g]?):kY w' e k v n xs:=by
 obtain⟨hl,hr⟩:=h
 rcases hr with ⟨rfl,rfl⟩|⟨g,off,cap,cur,rfl,hr,h1⟩
 ·exact⟨hl,.inl ⟨rfl,rfl⟩⟩
 ·exact⟨hl,.inr ⟨g,off,cap,cur,rfl,(hb g rfl).trans hr,h1⟩⟩
theorem kY.after {w:World}{e k n c:Nat}{ao:Option Addr}{xs:List Value}(h:kY w e k (.slice ao n c) n xs)(i:Nat)(hi:i<=n):
  kY w e k (.slice (if c=i then ao else ao.map fun x=>x.add (i*k)) (n - i) (c - i)) (n - i) (xs.drop (i*k)):=by
 obtain⟨hl,hr⟩:=h
 have hlen:(xs.drop (i*k)).length=(n - i)*k:=by rw[bB,hl,Nat.sub_mul]
 refine⟨hlen,?_⟩
 rcases hr with ⟨hv,rfl⟩|⟨g,off,cap,cur,hv,hr,h1,h2,h3,h4⟩
 ·cases hv
  obtain rfl:i=0:=by omega
  exact .inl ⟨by simp,by omega⟩
 ·cases hv
  have hmul:(n - i)*k<=(c - i)*k:=bV _ (by omega)
  have hmc:(c - i)*k+i*k=c*k:=by rw[<-dU];congr 1;omega
  by_cases hc:c=i
  ·refine .inr ⟨g,off,c - i,cur,by rw[if_pos hc],hr,by omega,by omega,by omega,?_⟩
   have e0:n - i=0:=by omega
   rw[e0,CX,gN]
   exact(bn (by rw[hlen,e0,CX])).symm
  ·refine .inr ⟨g,off+i*k,c - i,cur,by rw[if_neg hc];simp[ig],hr,by omega,by omega,by omega,?_⟩
   rw[<-h4,xU,List.drop_drop,<-Nat.sub_mul]
section
variable {P:Program}
theorem NT (w:World)(t tx ty e:TypeId)(i:TypeInfo)(z:Value)(k bytes:Nat)(ht:P.underlying t=some (.slice e))(hi:P.info? e=some i)(hz:i.zero=some z)
  (hsize:i.size=k) (hby:i.bytes=bytes) (hzs:z.cells.size=k)
  (v:Value) (n:Nat) (xs:List Value) (hown:kY w e k v n xs) (x:Value) (m:Nat) (news:List Value) (hs:Src P k tx x m news w)
  (h63:n+m<=maxLen) (hbytes:(n+m)*bytes<=140737488355328):
  ∃ao c w',(Builtin.append_ #[t,tx] ty #[v,x]).run P w= .ok (.slice ao (n+m) c) w'/\kY w' e k (.slice ao (n+m) c) (n+m) (xs++news)/\Keep (fun g=>v.ownBlock=some g) w w'/\
   ((Value.slice ao (n+m) c).ownBlock=v.ownBlock\/∃g,(Value.slice ao (n+m) c).ownBlock=some g/\w.heap.size<=g):=by
 subst hsize
 subst hby
 have hsmall:n+m<=9223372036854775807:=by simp only[maxLen] at h63;omega
 have hlen:(xs++news).length=(n+m)*i.size:=by rw[ay,hown.1,hs.newsLen,dU]
 have grown:∀(old:Nat),old<n+m->
   kY (w.drew.alloc (.cells ((xs++news).toArray++Builtin.zeroCells z.cells (grownCap w (n+m) old e - (n+m))) e)) e i.size
    (.slice (some ⟨w.heap.size,0,none⟩) (n+m) (grownCap w (n+m) old e)) (n+m) (xs++news)/\
   Keep (fun g=>v.ownBlock=some g) w (w.drew.alloc (.cells ((xs++news).toArray++Builtin.zeroCells z.cells (grownCap w (n+m) old e - (n+m))) e)):=by
  intro old ho
  have hge:=grownCap_ge w (n+m) old e
  have hcm:grownCap w (n+m) old e<=maxLen:=zW w (n+m) old e h63
  have hrow:Row (w.drew.alloc (.cells ((xs++news).toArray++Builtin.zeroCells z.cells (grownCap w (n+m) old e - (n+m))) e)) w.heap.size e ((xs++news)++(Builtin.zeroCells z.cells (grownCap w (n+m) old e - (n+m))).toList):=by
   have:=aF w.drew (.cells ((xs++news).toArray++Builtin.zeroCells z.cells (grownCap w (n+m) old e - (n+m))) e)
   unfold Row
   rw[show (w.heap.size)=w.drew.heap.size from rfl,this]
   congr 2
   apply BF.1
   simp
  refine⟨⟨hlen,.inr ⟨w.heap.size,0,_,_,rfl,hrow,hge,hcm,?_,?_⟩⟩,(Keep.refl _ w).drew.alloc _⟩
  ·rw[ay,hlen,oU,Nl,hzs,iN,<-dU]
   exact fA (congrArg (· *i.size) (by omega))
  ·rw[fE,<-hlen]
   exact gP
 rcases hown.2 with ⟨rfl,rfl⟩|⟨g,off,cap,cur,rfl,hg,hnc,hcm,hcs,htake⟩
 ·have hx:xs=[]:=bn (by simpa using hown.1)
  subst hx
  by_cases hm:m=0
  ·subst hm
   have hn:news=[]:=bn (by simpa using hs.newsLen)
   subst hn
   refine⟨none,0,w,?_,kY.nil w e i.size,Keep.refl _ _,.inl rfl⟩
   rcases hs.kind with ⟨e',hk⟩|hk<;>simp[Builtin.append_,gy ht,gy hk,sizeOf,typeInfo,hi,hs.len,hs.cells]
  ·have hr:=pO (P:=P) w t tx ty e i z ht hi hz none 0 0 [] (run_firstCells_none w.drew i.size 0 0 0) x m news hs (by omega) (by omega) (sj (by omega) hbytes)
   have hgr:=grown 0 (by omega)
   exact⟨_,_,_,hr,hgr.1,hgr.2,.inr ⟨_,rfl,aA _⟩⟩
 ·by_cases hroom:n+m<=cap
  ·have hmul:(n+m)*i.size<=cap*i.size:=bV _ hroom
   have hnm:n*i.size+news.length=(n+m)*i.size:=by rw[hs.newsLen,dU]
   have hfit:(off+n*i.size)+news.length<=cur.length:=by omega
   obtain⟨w',hst,h2,h3⟩:=ql (P:=P) (off:=off+n*i.size) hg news hfit hs.one
   refine⟨some ⟨g,off,none⟩,cap,w',?_,⟨hlen,.inr ⟨g,off,cap,_,rfl,h2,hroom,hcm,?_,?_⟩⟩,h3.mono (fun k' _ hk=>by rw[hk];rfl),.inl rfl⟩
   ·rcases hs.kind with ⟨e',hk⟩|hk<;>simp[Builtin.append_,gy ht,gy hk,sizeOf,typeInfo,hi,hs.len,hroom,hs.cells,ig,hst]
   ·unfold splice
    simp only[ay,aL,bB]
    omega
   ·unfold splice
    rw[mo (by rw[aL];omega),xU,show off+n*i.size - off=n*i.size from by omega,htake,<-hlen,<-bC]
    exact gP
  ·have hold:(Builtin.firstCells i.size n (.slice (some ⟨g,off,none⟩) n cap)).run P w.drew= .ok xs.toArray w.drew:=
    Pf w.drew i.size n ⟨g,off,none⟩ n cap xs hown.1 (fun j u hu=>by
     rw[ig]
     show w.cell? ⟨g,off+j,none⟩=some u
     rw[hg.cell]
     rw[<-htake,gY] at hu
     split at hu
     ·simpa using hu
     ·cases hu)
   have hr:=pO (P:=P) w t tx ty e i z ht hi hz (some ⟨g,off,none⟩) n cap xs hold x m news hs (by omega) (by omega) (sj (by omega) hbytes)
   have hgr:=grown cap (by omega)
   exact⟨_,_,_,hr,hgr.1,hgr.2,.inr ⟨_,rfl,aA _⟩⟩
theorem Qe {o:Oper}{a:Act}{w:World}{K:Act->World->Prop}{Q:Exit->Act->World->Prop}(s y:Operand)(t tx:TypeId)(ho:o.op= .call {callee:= .builtin .append,args:=#[s,y],argTypes:=#[t,tx]})
  (e:TypeId) (k bytes:Nat) (z:Value) (ht:P.underlying t=some (.slice e)) (hinfo:(P.info? e).map (fun i=>(i.zero,i.size,i.bytes))=some (some z,k,bytes)) (hzs:z.cells.size=k)
  (v:Value) (n:Nat) (xs:List Value) (hv:a.eval s=v) (hown:kY w e k v n xs) (x:Value) (m:Nat) (news:List Value) (hx:a.eval y=x) (hs:Src P k tx x m news w)
  (h63:n+m<=maxLen) (hbytes:(n+m)*bytes<=140737488355328)
  (h:∀ao c w',kY w' e k (.slice ao (n+m) c) (n+m) (xs++news)->Keep (fun g=>v.ownBlock=some g) w w'->
   ((Value.slice ao (n+m) c).ownBlock=v.ownBlock\/∃g,(Value.slice ao (n+m) c).ownBlock=some g/\w.heap.size<=g)->K (a.put o.dst (.slice ao (n+m) c)) w'):o.wp P a w K Q:=by
 obtain⟨i,hi,hz,hsize,hby⟩:=zV hinfo
 obtain⟨ao,c,w',hr,h2,h3,h4⟩:=NT (P:=P) w t tx o.type e i z k bytes ht hi hz hsize hby hzs v n xs hown x m news hs h63 hbytes
 unfold Oper.wp execOp
 simp only[ho,resolve,invoke,builtin,kg,yo,gM,sW,dO,og,hv,hx,hr]
 exact h ao c w' h2 h3 h4
end
theorem Row.range {w:World}{g e off n:Nat}{cur cs:List Value}(h:Row w g e cur)(hc:(cur.drop off).take n=cs):w.rangeAt g off cs:=fun j v hv=>by
 rw[h.cell]
 rw[<-hc,gY] at hv
 split at hv
 ·simpa using hv
 ·cases hv
theorem Row.whole {w:World}{g e:Nat}{cs:List Value}(h:Row w g e cs):w.rangeAt g 0 cs:=fun j v hv=>by
 rw[h.cell,iN];exact hv
theorem Row.new (w:World)(cs:List Value)(e:Nat):Row (w.alloc (.cells cs.toArray e)) w.heap.size e cs:=aF w _
section
variable {P:Program} {a:Act} {w:World} {K:Act->World->Prop} {Q:Exit->Act->World->Prop} {o:Oper}
theorem fZ (t:TypeId)(ho:o.op= .alloc t)(cs:List Value)(hz:∀w,(zeroValue t).run P w= .ok (.agg cs.toArray) w)
  (h:K (a.put o.dst (.pointer (some ⟨w.heap.size,0,none⟩))) (w.alloc (.cells cs.toArray t))):o.wp P a w K Q:=by
 unfold Oper.wp execOp
 have hr:(Instr.alloc t true (.tuple #[])).run P w= .ok (.pointer (some ⟨w.heap.size,0,none⟩)) (w.alloc (.cells cs.toArray t)):=by
  simp[Instr.alloc,hz,newVar,newRow,Value.cells]
 simp only[ho,kg,hr,gM]
 exact h
theorem yK (t:TypeId)(x:Operand)(ho:o.op= .box t x)(cs:List Value)(hx:a.eval x= .agg cs.toArray)
  (h:K (a.put o.dst (.pointer (some ⟨w.heap.size,0,none⟩))) (w.alloc (.cells cs.toArray t))):o.wp P a w K Q:=by
 unfold Oper.wp execOp
 have hr:(Instr.box t (.agg cs.toArray)).run P w= .ok (.pointer (some ⟨w.heap.size,0,none⟩)) (w.alloc (.cells cs.toArray t)):=by
  simp[Instr.box,newVar,newRow,Value.cells]
 simp only[ho,hx,kg,hr,gM]
 exact h
theorem uz (t:TypeId)(parts:Array (Nat×Operand))(ho:o.op= .build t parts)(cs:List Value)(hf:P.built t (parts.map fun (i,x)=>(i,a.eval x)).toList=some cs.toArray)
  (h:K (a.put o.dst (.agg cs.toArray)) w):o.wp P a w K Q:=by
 unfold Oper.wp execOp
 simp only[ho,kg,run_build w t _ cs.toArray hf,gM]
 exact h
theorem xY {g off e:Nat}{cur:List Value}(hr:Row w g e cur)(ty:TypeId)(cs:List Value)(hi:(P.info? ty).map (·.size)=some cs.length)(hfit:off+cs.length<=cur.length)(h1:∀v∈cs,v.oneCell'=true):
  ∃w',(Instr.storeAt ty (.pointer (some ⟨g,off,none⟩)) (.agg cs.toArray)).run P w= .ok () w'/\Row w' g e (splice cur off cs)/\Keep (· =g) w w':=by
 obtain⟨w',hst,h2,h3⟩:=ql (P:=P) hr cs hfit h1
 refine⟨w',?_,h2,h3⟩
 cases hq:P.info? ty with
 |none=>simp[hq] at hi
 |some i=>
  have hs:i.size=cs.length:=by simpa [hq] using hi
  simp[Instr.storeAt,Instr.sureAddr,storeVar,sizeOf,typeInfo,hq,Value.cells,hs,hst]
theorem wp_store_row (ty:TypeId)(x y:Operand)(ho:o.op= .store ty x y)(g off e:Nat)(cur cs:List Value)(hx:a.eval x= .pointer (some ⟨g,off,none⟩))(hy:a.eval y= .agg cs.toArray)
  (hr:Row w g e cur) (hi:(P.info? ty).map (·.size)=some cs.length) (hfit:off+cs.length<=cur.length) (h1:∀v∈cs,v.oneCell'=true)
  (h:∀w',Row w' g e (splice cur off cs)->Keep (· =g) w w'->K (a.put o.dst undef) w'):o.wp P a w K Q:=by
 obtain⟨w',hst,h2,h3⟩:=xY (P:=P) hr ty cs hi hfit h1
 unfold Oper.wp execOp
 simp only[ho,hx,hy,kg,hst,gM]
 exact h w' h2 h3
theorem o7 (t e:TypeId)(y:Operand)(ho:o.op= .buildSlice t 1 #[(0,y)])(k:Nat)(cs:List Value)(hy:a.eval y= .agg cs.toArray)(hl:cs.length=k)(hk:0<k)(hk2:k<=16777216)
  (hu:P.underlying t=some (.slice e)) (hi:(P.info? e).map (·.size)=some k) (hz:((P.info? e).bind (·.zero)).isSome=true)
  (h:K (a.put o.dst (.slice (some ⟨w.heap.size,0,none⟩) 1 1)) (w.alloc (.cells cs.toArray e))):o.wp P a w K Q:=by
 cases hie:P.info? e with
 |none=>simp[hie] at hi
 |some ie=>
  simp only[hie,kN,P5,RO] at hi hz
  obtain⟨z,hzz⟩:=Option.isSome_iff_exists.1 hz
  refine wp_buildSlice t e 1 _ ho cs.toArray ie z hu hie hzz (by rw[hi];omega) (by rw[hi];omega) ?_ h
  have:=Great.fill_whole (s:=k) hk [Value.agg cs.toArray] ((Array.range (1*ie.size)).map (z.cells[· %z.cells.size]!)) (by intro v hv;rw[bO.1 hv];simp[Value.cells,hl]) (by simp[hi])
  rw[hi]
  rw[hi] at this
  simpa [hy,Value.cells] using this
theorem jU {W:World}(ty:TypeId)(x:Operand)(ho:o.op= .load ty x)(g off:Nat)(hx:a.eval x= .pointer (some ⟨g,off,none⟩))(cs:List Value)(d:TypeDesc)(hc:W.rangeAt g off cs)
  (hu:P.underlying ty=some d) (hd:d.isRow=true) (hi:(P.info? ty).map (·.size)=some cs.length):(execOp a.eval o).run P W= .ok (.value (.agg cs.toArray)) W:=by
 unfold execOp
 simp only[ho,hx,Instr.loadAt,Instr.sureAddr,kg,yo,gM,run_loadVar_mid W g off ty cs d hc hu hd hi]
end
theorem Gm (p:Nat×List UInt8):∀v∈(Value.int .i64 (p.1:Int)::aB p.2),v.oneCell'=true:=by
 intro v hv
 rcases aX.1 hv with rfl|hv
 ·rfl
 ·exact fq _ v hv
def Rt (x:Int):Int:=if (bits .and .u32 x 1==1)=true then bits .xor .u32 (x/2) 2197175160 else x/2
def MK:Nat->Int->Int
 |0,x=>x
 |k+1,x=>Rt (MK k x)
def yD (x:Int):Int:=MK 8 x
theorem EM (x:Int)(w:World):
  Calls Tryz.prog 349 #[.int .u32 x] w fun e w'=>e= .returned (.int .u32 (yD x))/\w'=w:=by
 go_enter Tryz.func349,Tryz.ntmps349
 go_wp2_with fail
 go_loop [0,4] (fun r i=>∃k:Nat,k<=8/\i= .int .i64 k/\r= .int .u32 (MK k x)) (fun _ i=>8 - (intOf i).toNat)
 case atStart=>exact⟨0,by omega,rfl,rfl⟩
 case round=>
  obtain⟨k,hk,rfl,rfl⟩:=hrel
  by_cases h8:k<8
  ·have h8':(k:Int)<8:=by omega
   obtain⟨y,hy⟩:∃y,y=MK k x:=⟨_,rfl⟩
   have HY:=af hy
   rw[<-hy]
   clear hy
   go_wp2_with fail
   all_goals
    rename_i hb
    have HB:=af hb;clear hb
    go_round
    case rel=>exact⟨k+1,by omega,by go_num,by rw[show MK (k+1) x=Rt y by rw[HY.out];rfl];unfold Rt;rw[HB.out];rfl⟩
    case measure=>simp[intOf];omega
  ·obtain rfl:k=8:=by omega
   go_wp2_with fail
   go_ret
   exact⟨rfl,rfl⟩
theorem yJ (n:Int):0<=IntKind.u32.wrap n/\IntKind.u32.wrap n<4294967296:=by rw[IntKind.wrap_u32];omega
theorem rR (op:BinOp)(x y:Int):0<=bits op .u32 x y/\bits op .u32 x y<4294967296:=by
 unfold bits
 split<;>exact yJ _
theorem Row.setCell {w:World}{g e:Nat}{cur:List Value}(h:Row w g e cur)(j:Nat)(v:Value):Row (w.setCell ⟨g,j,none⟩ v) g e (cur.set j v):=by
 unfold Row at*
 rw[gL w g j _ _ _ h]
 simp
theorem Dq (cur cs:List Value)(off:Nat)(v:Value)(h:off+cs.length<cur.length):(splice cur off cs).set (off+cs.length) v=splice cur off (cs++[v]):=by
 unfold splice
 have hl:(cur.take off).length=off:=by rw[aL];omega
 rw[dm _ _ (by omega),hl,dz,dm _ _ (aA _),jN,ay,dJ,bC]
 congr 2
 rw[dA h,av,<-kV]
 rfl
def yO (i:Nat):Value:= .int .u32 (yD (i:Int))
def jK:List Value:=(List.range 256).map yO
theorem ku:jK.length=256:=by unfold jK;rw[jc,List.length_range]
theorem xE (k:Nat)(hk:k<256):jK[k]? =some (yO k):=by unfold jK;rw[dH,KC hk];rfl
theorem BN (k:Nat)(hk:k<256):jK.take (k+1)=jK.take k++[yO k]:=by
 have h:=xE k hk
 rw[List.take_add_one,h];rfl
theorem ME (b o T:Nat)(cur:List Value)(w:World)(hr:Row w b T cur)(hl:o+260<=cur.length):
  Calls Tryz.prog 237 #[.pointer (some ⟨b,o,none⟩)] w fun e w'=>e= .returned (.tuple #[])/\Row w' b T (splice cur (o+3) jK)/\Keep (· =b) w w':=by
 have HR:=af hr;clear hr
 go_enter Tryz.func237,Tryz.ntmps237
 go_wp2_with fail
 go_loopw [3] (fun i wr=>∃k:Nat,k<=256/\i= .int .i64 k/\Row wr b T (splice cur (o+3) (jK.take k))/\Keep (· =b) w wr) (fun i _=>256 - (intOf i).toNat)
 case atStart=>exact⟨0,by omega,rfl,by rw[gN];unfold splice;simpa using HR.out,Keep.refl _ _⟩
 case round=>
  obtain⟨k,hk,rfl,hrow,hkeep⟩:=hrel
  by_cases h8:k<256
  ·have h8':(k:Int)<256:=by omega
   have hwr:IntKind.u32.wrap (k:Int)=(k:Int):=by rw[IntKind.wrap_u32];omega
   have htl:(jK.take k).length=k:=by rw[aL,ku];omega
   have hfit:o+3+k<(splice cur (o+3) (jK.take k)).length:=by
    unfold splice
    simp only[ay,aL,bB,ku]
    omega
   have hfr:∀j,wr.drew.frozen? ⟨b,j,none⟩=false:=fun j=>hrow.frozen j
   obtain⟨xv,hxv⟩:∃xv,wr.drew.cell? ⟨b,o+3+k,none⟩=some xv:=⟨_,(hrow.cell _).trans (bD hfit)⟩
   have hset:=hrow.setCell (o+3+k) (yO k)
   have hsn:=Dq cur (jK.take k) (o+3) (yO k) (by rw[htl];omega)
   rw[htl,<-BN k h8] at hsn
   rw[hsn] at hset
   have HS:=af hset;have HK:=af hkeep
   clear hset hsn hkeep hrow htl hfit HR
   go_wp2_with fail
   refine aK (fun W=>W=wr.drew) (fun i=> !([4,8].contains i)) [0,1,2,3,5,6,4,7,8] rfl (by kernel_rfl) rfl ?_
   repeat ((refine bq (v:= ?_) rfl rfl (fun _ _ _ h=>h) rfl (fun W hW=> ?_) ?_);rotate_left;(focus ((try dsimp only at hW);subst hW;(go_simp;first|done|with_reducible rfl)));(try simp only[Act.put,aj,av,au]))
   refine bP rfl rfl rfl ?_;intro K hK;go_simp
   refine(EM _ _).mono ?_;rintro e w4 ⟨rfl,hw4⟩;subst w4
   refine hK.out _ _ rfl ?_
   repeat ((refine bq (v:= ?_) rfl rfl (fun _ _ _ h=>h) rfl (fun W hW=> ?_) ?_);rotate_left;(focus ((try dsimp only at hW);subst hW;(go_simp;first|done|with_reducible rfl)));(try simp only[Act.put,aj,av,au]))
   refine jm rfl rfl rfl (by kernel_rfl) ?_;intro K hK;go_simp
   refine hK.out _ _ ?_
   refine bF ?_
   go_wp2_with fail
   go_roundw
   case rel=>exact⟨k+1,by omega,by go_num,HS.out,(HK.out.drew).setCell (.inr rfl) _⟩
   case measure=>simp[intOf];omega
  ·obtain rfl:k=256:=by omega
   have hall:jK.take 256=jK:=aI (fA ku)
   rw[hall] at hrow
   have HRW:=af hrow;have HK:=af hkeep
   clear hrow hkeep hall
   go_wp2_with fail
   go_end0
   exact⟨rfl,HRW.out,HK.out⟩
theorem uQ (w:World):(callFunc 429 #[]).run Tryz.prog w= .ok (.value (.tuple #[])) w:=run_call_mark0 Tryz.func429 (by kernel_rfl) (by kernel_rfl) (by kernel_rfl) .disable (by kernel_rfl) w
theorem xG (w:World):(callFunc 431 #[]).run Tryz.prog w= .ok (.value (.tuple #[])) w:=run_call_mark0 Tryz.func431 (by kernel_rfl) (by kernel_rfl) (by kernel_rfl) .enable (by kernel_rfl) w
theorem Cc (a:Addr)(w:World):(callFunc 432 #[.pointer (some a)]).run Tryz.prog w= .ok (.value (.tuple #[])) w:=run_call_marked Tryz.func432 (by kernel_rfl) (by kernel_rfl) (by kernel_rfl) .acquire (by kernel_rfl) a w
theorem Gi (a:Addr)(w:World):(callFunc 434 #[.pointer (some a)]).run Tryz.prog w= .ok (.value (.tuple #[])) w:=run_call_marked Tryz.func434 (by kernel_rfl) (by kernel_rfl) (by kernel_rfl) .releaseMerge (by kernel_rfl) a w
theorem qH (a:Addr)(x:Value)(u:FrameMode)(w:World)(hc:w.cell? a=some x)(hz:w.frozen? a=false):
  CallsD Tryz.prog 200 #[.pointer (some a),.bool true] u w fun e u' w'=>u'=u/\(e= .returned (.tuple #[])/\w'=w.drew.setCell a (.int .u32 1)):=by
 have hc':w.drew.cell? a=some x:=by go_simp
 have hz':w.drew.frozen? a=false:=by go_simp
 have hst:=run_call_store (P:=Tryz.prog) Tryz.func308 (by kernel_rfl) (by kernel_rfl) (by kernel_rfl) (by kernel_rfl) (k:= .u32) (y:=1) hc' hz'
 go_enter_d Tryz.func200,Tryz.ntmps200
 go_wp2
 go_region_calls
 all_goals (go_end0;exact⟨rfl,rfl⟩)
theorem unlock_deferred (a:Addr)(u:FrameMode)(w:World)(hc:w.cell? a=some (.int .i32 1))(hz:w.frozen? a=false):
  CallsD Tryz.prog 199 #[.pointer (some a)] u w fun e u' w'=>u'=u/\(e= .returned (.tuple #[])/\w'=w.setCell a (.int .i32 0)):=by
 have hd:=uQ
 have he:=xG
 have hr:=Gi
 have hadd:=run_call_add (P:=Tryz.prog) Tryz.func435 (by kernel_rfl) (by kernel_rfl) (by kernel_rfl) .i32 (by kernel_rfl) (y:= -1) (s:=0) hc hz (by simp[go_sem];rfl)
 have hcv:=run_convert_to_unsafe (P:=Tryz.prog) (src:=560) (dst:=333) Tryz.underlying560 nX (by kernel_rfl) hc
 go_enter_d Tryz.func199,Tryz.ntmps199
 go_wp2
 go_end0
 go_wp2
 go_end0
 exact⟨rfl,rfl⟩
theorem lock_free (a:Addr)(w:World)(hc:w.cell? a=some (.int .i32 0))(hz:w.frozen? a=false):
  Calls Tryz.prog 198 #[.pointer (some a)] w fun e w'=>e= .returned (.tuple #[])/\w'=w.setCell a (.int .i32 1):=by
 have hd:=uQ
 have he:=xG
 have ha:=Cc
 have hcas:=run_call_cas_hit (P:=Tryz.prog) Tryz.func430 (by kernel_rfl) (by kernel_rfl) (by kernel_rfl) .i32 (by kernel_rfl) (y:=1) hc hz
 have hc':(w.setCell a (.int .i32 1)).cell? a=some (.int .i32 1):=World.cell?_setCell_same w a _ hc
 have hcv:=run_convert_to_unsafe (P:=Tryz.prog) (src:=560) (dst:=333) Tryz.underlying560 nX (by kernel_rfl) hc'
 go_enter Tryz.func198,Tryz.ntmps198
 go_wp2
 first|go_end0|(simp only[Exit.inBlock,Exit.then];refine eX (results_none rfl _ _ _) rfl ?_)|refine eX (results_none rfl _ _ _) rfl ?_
 go_wp2
 go_end0
 exact⟨rfl,rfl⟩
def yu:List Value:=List.replicate 256 (.int .u32 0)
theorem om:yu.length=256:=by unfold yu;exact List.length_replicate
def Sc (dn:Bool):List Value:=if dn then jK else yu
theorem qR (dn:Bool):(Sc dn).length=256:=by cases dn;exact om;exact ku
def mH (A:List Value)(d s:Value)(R:List Value)(c:Value)(B:List Value):List Value:=A++(d::s:: .int .u32 0::(R++(c::B)))
def iC (A:List Value)(dn:Bool)(c:Int)(B:List Value):List Value:=mH A (.int .u32 (if dn then 1 else 0)) (.int .i32 0) (Sc dn) (.int .i64 c) B
theorem BO (A:List Value)(d s:Value)(R:List Value)(c:Value)(B:List Value):(mH A d s R c B)[A.length]? =some d:=by
 unfold mH;rw[bA (aA _),jN];rfl
theorem K7 (A:List Value)(d s:Value)(R:List Value)(c:Value)(B:List Value):(mH A d s R c B)[A.length+1]? =some s:=by
 unfold mH;rw[bA (by omega),dz];rfl
theorem Qw (A:List Value)(d s:Value)(R:List Value)(c:Value)(B:List Value)(k:Nat)(hk:k<R.length):(mH A d s R c B)[A.length+3+k]? =R[k]? :=by
 unfold mH
 rw[bA (by omega),show A.length+3+k - A.length=k+1+1+1 by omega,bT,bT,bT,fw hk]
theorem Qv (A:List Value)(d s:Value)(R:List Value)(c:Value)(B:List Value)(hR:R.length=256):(mH A d s R c B)[A.length+259]? =some c:=by
 unfold mH
 rw[bA (by omega),show A.length+259 - A.length=256+1+1+1 by omega,bT,bT,bT,bA (by omega),hR]
 rfl
theorem FV (A:List Value)(d s:Value)(R:List Value)(c:Value)(B:List Value)(v:Value):(mH A d s R c B).set A.length v=mH A v s R c B:=by
 unfold mH;rw[dm _ _ (aA _),jN];rfl
theorem yP (A:List Value)(d s:Value)(R:List Value)(c:Value)(B:List Value)(v:Value):(mH A d s R c B).set (A.length+1) v=mH A d v R c B:=by
 unfold mH;rw[dm _ _ (by omega),dz];rfl
theorem FW (A:List Value)(d s:Value)(R:List Value)(c:Value)(B:List Value)(v:Value)(hR:R.length=256):(mH A d s R c B).set (A.length+259) v=mH A d s R v B:=by
 unfold mH
 rw[dm _ _ (by omega),show A.length+259 - A.length=256+1+1+1 by omega,au,au,au,dm _ _ (by omega),hR]
 rfl
theorem Ji (A:List Value)(d s:Value)(R R':List Value)(c:Value)(B:List Value)(h:R.length=R'.length):splice (mH A d s R c B) (A.length+3) R'=mH A d s R' c B:=by
 have e:∀R,mH A d s R c B=(A++[d,s,.int .u32 0])++(R++(c::B)):=fun R=>by unfold mH;simp
 rw[e,e]
 exact sJ _ _ _ _ _ (by simp) h
theorem Dj (A:List Value)(d s:Value)(R:List Value)(c:Value)(B:List Value):(mH A d s R c B).length=A.length+4+R.length+B.length:=by
 unfold mH;simp;omega
theorem Le (A B:List Value)(b o T:Nat)(c:Int)(w:World)(ho:A.length=o)(hr:Row w b T (iC A false c B)):
  Calls Tryz.prog 124 #[.pointer (some ⟨b,o,none⟩),.func (.func 237) #[.pointer (some ⟨b,o,none⟩)] #[]] w fun e w'=>e= .returned (.tuple #[])/\Row w' b T (iC A true c B)/\Keep (· =b) w w':=by
 subst ho
 have hr':Row w b T (mH A (.int .u32 0) (.int .i32 0) yu (.int .i64 c) B):=hr
 have hr1:=hr'.setCell (A.length+1) (.int .i32 1)
 rw[yP] at hr1
 have h0:w.cell? ⟨b,A.length,none⟩=some (.int .u32 0):=(hr'.cell _).trans (BO ..)
 have h1:w.cell? ⟨b,A.length+1,none⟩=some (.int .i32 0):=(hr'.cell _).trans (K7 ..)
 have f0:w.frozen? ⟨b,A.length,none⟩=false:=hr'.frozen _
 have f1:w.frozen? ⟨b,A.length+1,none⟩=false:=hr'.frozen _
 have hl:=qg (P:=Tryz.prog) CW (by kernel_rfl) (by kernel_rfl) (by kernel_rfl) .u32 (by kernel_rfl) (w:=w.setCell ⟨b,A.length+1,none⟩ (.int .i32 1)) (a:=⟨b,A.length,none⟩) (x:=0) ((World.cell?_setCell_other _ ⟨b,A.length+1,none⟩ ⟨b,A.length,none⟩ _ (by simp)).trans h0)
 have hfl:=ME b A.length T _ _ hr1 (by rw[Dj,om];omega)
 rw[Ji _ _ _ _ _ _ _ (by rw[om,ku])] at hfl
 have HFL:=af hfl;clear hfl
 have HK:=af ((Keep.refl (· =b) w).setCell (p:=⟨b,A.length+1,none⟩) (.inr rfl) (.int .i32 1))
 have hnot:∀(x:Bool) (w:World),(Op.unary .not (.bool x)).run Tryz.prog w= .ok (.bool (!x)) w:=fun _ _=>rfl
 clear hr hr' hr1
 go_enter_defers Tryz.func124,Tryz.ntmps124
 go_wp2_with (go_at_call 198;refine(lock_free ⟨b,A.length+1,none⟩ _ (by go_simp) (by go_simp)).mono ?_;rintro e w' ⟨rfl,rfl⟩)
 go_wp2_with (go_at_call 123;go_in)
 refine HFL.out.mono ?_
 rintro e w2 ⟨rfl,hr2,hk2⟩
 have h20:w2.cell? ⟨b,A.length,none⟩=some (.int .u32 0):=(hr2.cell _).trans (BO ..)
 have f20:w2.frozen? ⟨b,A.length,none⟩=false:=hr2.frozen _
 have hr3:Row (w2.drew.setCell ⟨b,A.length,none⟩ (.int .u32 1)) b T (mH A (.int .u32 1) (.int .i32 1) jK (.int .i64 c) B):=by
  have:=Row.setCell (w:=w2.drew) hr2 A.length (.int .u32 1)
  rwa [FV] at this
 have h31:(w2.drew.setCell ⟨b,A.length,none⟩ (.int .u32 1)).cell? ⟨b,A.length+1,none⟩=some (.int .i32 1):=(hr3.cell _).trans (K7 ..)
 have f31:(w2.drew.setCell ⟨b,A.length,none⟩ (.int .u32 1)).frozen? ⟨b,A.length+1,none⟩=false:=hr3.frozen _
 have hr4:=hr3.setCell (A.length+1) (.int .i32 0)
 rw[yP] at hr4
 have HR4:=af hr4
 have HK4:=af ((((Keep.refl (· =b) w2).drew).setCell (p:=⟨b,A.length,none⟩) (.inr rfl) (.int .u32 1)).setCell (p:=⟨b,A.length+1,none⟩) (.inr rfl) (.int .i32 0))
 have HK2:=af hk2
 clear hr2 hr3 hr4 hk2
 go_wp2_with fail
 refine dQ (f:=200) (args:=#[.pointer (some ⟨b,A.length,none⟩),.bool true]) (by simp) (by simp[go_sem]) ?_
 refine(qH ⟨b,A.length,none⟩ (.int .u32 0) .returning _ h20 f20).mono ?_
 rintro e u' w'' ⟨rfl,rfl,rfl⟩
 refine dQ (f:=199) (args:=#[.pointer (some ⟨b,A.length+1,none⟩)]) (by simp[settle]) (by simp[go_sem]) ?_
 refine(unlock_deferred ⟨b,A.length+1,none⟩ _ _ h31 f31).mono ?_
 rintro e u' w'' ⟨rfl,rfl,rfl⟩
 simp[Leaves,settle,results,Tryz.results124]
 exact⟨HR4.out,(HK.out.trans HK2.out (fun _ _ e=>e)).trans HK4.out (fun _ _ e=>e)⟩
theorem Rs (A B:List Value)(b o T:Nat)(dn:Bool)(c:Int)(w:World)(ho:A.length=o)(hr:Row w b T (iC A dn c B)):
  Calls Tryz.prog 68 #[.pointer (some ⟨b,o,none⟩),.func (.func 237) #[.pointer (some ⟨b,o,none⟩)] #[]] w fun e w'=>e= .returned (.tuple #[])/\Row w' b T (iC A true c B)/\Keep (· =b) w w':=by
 subst ho
 have hnot:∀(x:Bool) (w:World),(Op.unary .not (.bool x)).run Tryz.prog w= .ok (.bool (!x)) w:=fun _ _=>rfl
 cases dn with
 |false=>
  have h0:w.cell? ⟨b,A.length,none⟩=some (.int .u32 0):=(hr.cell _).trans (BO ..)
  have hl:=qg (P:=Tryz.prog) CW (by kernel_rfl) (by kernel_rfl) (by kernel_rfl) .u32 (by kernel_rfl) h0
  have HS:=af (Le A B b A.length T c w rfl hr)
  clear hr
  go_enter Tryz.func68,Tryz.ntmps68
  go_wp2_with (first|(go_at_call 124;refine HS.out.mono ?_;rintro e w' ⟨rfl,hr',hk'⟩)|(go_at_call 123;go_in))
  go_end0
  exact⟨rfl,hr',hk'⟩
 |true=>
  have h0:w.cell? ⟨b,A.length,none⟩=some (.int .u32 1):=(hr.cell _).trans (BO ..)
  have hl:=qg (P:=Tryz.prog) CW (by kernel_rfl) (by kernel_rfl) (by kernel_rfl) .u32 (by kernel_rfl) h0
  go_enter Tryz.func68,Tryz.ntmps68
  go_wp2_with (go_at_call 123;go_in)
  go_end0
  exact⟨rfl,hr,Keep.refl _ _⟩
end Go.Proofs.YtpmbddooibgnaaaGreatDoor
