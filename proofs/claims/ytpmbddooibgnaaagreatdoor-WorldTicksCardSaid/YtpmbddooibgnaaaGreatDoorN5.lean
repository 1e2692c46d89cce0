/- parts -/
import Derived.Test.YtpmbddooibgnaaaGreatDoorN1
import Derived.Test.YtpmbddooibgnaaaGreatDoorN2
import Derived.Test.YtpmbddooibgnaaaGreatDoorN3
import Derived.Test.YtpmbddooibgnaaaGreatDoorN4
import Derived.Shelf.Strings.IndexAnyAll
import Derived.Shelf.Unicode.ValidAny
import Derived.Shelf.Small.Wraps
import Derived.Shelf.Small.Utf8
import Derived.Laws.RangeAny
import Derived.Shelf.Strings.Split
import Derived.Shelf.Strings.Cut
import Derived.Shelf.Strings.Prefix
import Derived.Shelf.Strings.OnBuilder
import Derived.Shelf.Strings.SlTrimAscii
import Derived.Shelf.Strconv.Atoi
import Derived.Shelf.Strconv.Itoa3
import Derived.Shelf.Strconv.Itoa4
import Derived.Shelf.Small.Strs
import Derived.Deep.QuietTactic
import Derived.BigQuiet
import Derived.Deep.RegionHeld3
import Derived.Deep.CutRange
import Derived.Deep.CutBlock
import Derived.Recover
import Derived.Defers
import Derived.Deep.Slices
import Derived.Laws.ResultCell
import Derived.Laws.IdiomStrings
import Derived.Lib.IndexBytes
import Derived.Lib.SmallJoins
import Derived.Deep.MidRow
import Derived.Great.BuildSlice
import Derived.Laws.LoneSync
import Derived.RegionCalls
set_option maxRecDepth 100000
set_option maxHeartbeats 8000000
set_option linter.all false
namespace Go.Proofs.YtpmbddooibgnaaaGreatDoor
open Go.RowKit Go.Shelf
noncomputable def gP:Go.Shelf.Ren:=⟨fun x=>match x with|99=>167|103=>239|118=>418|119=>525|120=>502|129=>232|137=>245|138=>243|143=>244|145=>253|146=>108|150=>250|151=>423|152=>458|153=>358|159=>192|160=>194|165=>292|166=>65|167=>248|168=>419|169=>67|171=>66|172=>265|173=>286|195=>352|196=>249|197=>353|204=>294|205=>528|206=>246|210=>350|217=>356|218=>354|219=>355|220=>359|221=>164|224=>455|225=>454|226=>459|227=>297|228=>422|230=>293|231=>295|232=>296|233=>298|234=>299|235=>300|236=>301|240=>121|241=>417|242=>500|243=>122|244=>377|245=>378|246=>196|247=>470|259=>357|260=>453|262=>421|266=>457|267=>456|268=>242|270=>420|271=>424|274=>551|275=>552|276=>195|277=>499|278=>550|279=>471|280=>472|281=>473|282=>474|283=>302|284=>303|285=>304|286=>305|287=>491|313=>501|314=>524|316=>527|317=>425|318=>426|319=>427|320=>428|321=>535|322=>536|337=>503|338=>504|n=>n,fun x=>match x with|0=>0|2=>2|3=>3|4=>4|5=>5|9=>9|12=>12|20=>20|21=>21|24=>222|31=>146|37=>154|46=>232|51=>88|53=>292|59=>402|70=>153|72=>156|75=>158|76=>159|80=>163|85=>585|105=>498|107=>451|116=>454|117=>455|119=>501|124=>458|127=>235|138=>503|139=>504|143=>650|145=>652|146=>618|160=>643|162=>610|164=>333|167=>584|168=>587|171=>459|173=>461|175=>542|203=>608|206=>667|208=>669|210=>622|212=>558|213=>559|232=>646|233=>647|n=>n,fun x=>match x with|1=>3|3=>0|4=>1|13=>4|15=>5|16=>6|17=>2|18=>7|19=>8|n=>n⟩
theorem xk:Lays.n150 Tryz.prog gP where
 mixed:=by kernel_rfl
 f119:=Tryz.func525.trans (congrArg some (by kernel_rfl))
 f137:=Tryz.func245.trans (congrArg some (by kernel_rfl))
 f150:=Tryz.func250.trans (congrArg some (by kernel_rfl))
 f152:=Fh.trans (congrArg some (by kernel_rfl))
 f153:=Tryz.func358.trans (congrArg some (by kernel_rfl))
 f217:=Tryz.func356.trans (congrArg some (by kernel_rfl))
 f224:=Tryz.func455.trans (congrArg some (by kernel_rfl))
 f225:=Tryz.func454.trans (congrArg some (by kernel_rfl))
 f226:=Tryz.func459.trans (congrArg some (by kernel_rfl))
 f227:=Tryz.func297.trans (congrArg some (by kernel_rfl))
 f228:=Tryz.func422.trans (congrArg some (by kernel_rfl))
 f266:=Tryz.func457.trans (congrArg some (by kernel_rfl))
 t0:=gM
 a0:=lS
 z0:=kE
 v0:=iD
 t3:=bV
 a3:=jo
 z3:=iM
 v3:=fH
 t4:=eF
 a4:=kM
 z4:=jB
 v4:=gL
 t5:=dX
 a5:=lQ
 z5:=ku
 v5:=iC
 t9:=bH
 a9:=jO
 z9:=jd
 v9:=fT
 t21:=yX
 a21:=Ub
 z21:=NP
 v21:=AX
 t46:=iW
 a46:=mO
 z46:=lN
 v46:=jm
 t116:=Tryz.underlying454
 a116:=Tryz.isAgg454
 z116:=Tryz.sizeOf454
 t117:=Tryz.underlying455
 a117:=Tryz.isAgg455
 z117:=Tryz.sizeOf455
 v117:=Tryz.zeroValue455
 t124:=Tryz.underlying458
 a124:=Tryz.isAgg458
 z124:=Tryz.sizeOf458
 v124:=Tryz.zeroValue458
theorem Eg:Lays.n196 Tryz.prog gP where
 mixed:=by kernel_rfl
 f196:=Tryz.func249.trans (congrArg some (by kernel_rfl))
 f259:=Tryz.func357.trans (congrArg some (by kernel_rfl))
 t0:=gM
 a0:=lS
 z0:=kE
 v0:=iD
 t3:=bV
 a3:=jo
 z3:=iM
 v3:=fH
 t4:=eF
 a4:=kM
 z4:=jB
 v4:=gL
 t5:=dX
 a5:=lQ
 z5:=ku
 v5:=iC
 t9:=bH
 a9:=jO
 z9:=jd
 v9:=fT
 t12:=Tryz.underlying12
 a12:=Tryz.isAgg12
 z12:=Tryz.sizeOf12
 v12:=Tryz.zeroValue12
 t46:=iW
 a46:=mO
 z46:=lN
 v46:=jm
 t53:=nu
 a53:=NR
 z53:=IW
 v53:=yU
 t119:=IL
 a119:=Tryz.isAgg501
 z119:=Tryz.sizeOf501
 t138:=IK
 a138:=Tryz.isAgg503
 z138:=Tryz.sizeOf503
 v138:=NJ
 t139:=IJ
 a139:=Tryz.isAgg504
 z139:=Tryz.sizeOf504
 v139:=NI
 g3:=by kernel_rfl
 g4:=by kernel_rfl
theorem VL:Lays.n103 Tryz.prog gP where
 mixed:=by kernel_rfl
 f103:=Tryz.func239.trans (congrArg some (by kernel_rfl))
 f206:=Tryz.func246.trans (congrArg some (by kernel_rfl))
 f210:=Tryz.func350.trans (congrArg some (by kernel_rfl))
 t3:=bV
 a3:=jo
 z3:=iM
 v3:=fH
 t4:=eF
 a4:=kM
 z4:=jB
 v4:=gL
 t9:=bH
 a9:=jO
 z9:=jd
 v9:=fT
 t24:=Tryz.underlying222
 a24:=Tryz.isAgg222
 z24:=Tryz.sizeOf222
 v24:=Tryz.zeroValue222
theorem Jy:(Tryz.prog.info? 454).map (fun i=>(i.zero,i.size))=some (some (.agg (Array.replicate 256 (.bool false))),256):=by kernel_rfl
theorem Vu:Lays.n137 Tryz.prog gP where
 mixed:=by kernel_rfl
 f137:=Tryz.func245.trans (congrArg some (by kernel_rfl))
 f217:=Tryz.func356.trans (congrArg some (by kernel_rfl))
 f266:=Tryz.func457.trans (congrArg some (by kernel_rfl))
 t3:=bV
 a3:=jo
 z3:=iM
 v3:=fH
 t5:=dX
 a5:=lQ
 z5:=ku
 v5:=iC
 t9:=bH
 a9:=jO
 z9:=jd
 v9:=fT
theorem UU:Lays.n146 Tryz.prog gP where
 mixed:=by kernel_rfl
 f138:=Tryz.func243.trans (congrArg some (by kernel_rfl))
 f143:=Tryz.func244.trans (congrArg some (by kernel_rfl))
 f146:=Tryz.func108.trans (congrArg some (by kernel_rfl))
 f195:=Tryz.func352.trans (congrArg some (by kernel_rfl))
 f197:=Tryz.func353.trans (congrArg some (by kernel_rfl))
 f217:=Tryz.func356.trans (congrArg some (by kernel_rfl))
 f218:=Tryz.func354.trans (congrArg some (by kernel_rfl))
 f219:=Tryz.func355.trans (congrArg some (by kernel_rfl))
 f221:=Tryz.func164.trans (congrArg some (by kernel_rfl))
 f224:=Tryz.func455.trans (congrArg some (by kernel_rfl))
 f225:=Tryz.func454.trans (congrArg some (by kernel_rfl))
 f260:=Tryz.func453.trans (congrArg some (by kernel_rfl))
 f266:=Tryz.func457.trans (congrArg some (by kernel_rfl))
 f267:=Tryz.func456.trans (congrArg some (by kernel_rfl))
 f268:=Tryz.func242.trans (congrArg some (by kernel_rfl))
 f314:=Tryz.func524.trans (congrArg some (by kernel_rfl))
 t0:=gM
 a0:=lS
 z0:=kE
 v0:=iD
 t3:=bV
 a3:=jo
 z3:=iM
 v3:=fH
 t4:=eF
 a4:=kM
 z4:=jB
 v4:=gL
 t5:=dX
 a5:=lQ
 z5:=ku
 v5:=iC
 t9:=bH
 a9:=jO
 z9:=jd
 v9:=fT
 t21:=yX
 a21:=Ub
 z21:=NP
 v21:=AX
 t31:=iq
 a31:=Tryz.isAgg146
 z31:=Tryz.sizeOf146
 v31:=Tryz.zeroValue146
 t46:=iW
 a46:=mO
 z46:=lN
 v46:=jm
 t51:=ow
 a51:=y9
 z51:=wh
 v51:=pF
 t105:=Tryz.underlying498
 a105:=Tryz.isAgg498
 z105:=Tryz.sizeOf498
 v105:=Tryz.zeroValue498
 t119:=IL
 a119:=Tryz.isAgg501
 z119:=Tryz.sizeOf501
 t138:=IK
 a138:=Tryz.isAgg503
 z138:=Tryz.sizeOf503
 v138:=NJ
 t139:=IJ
 a139:=Tryz.isAgg504
 z139:=Tryz.sizeOf504
 v139:=NI
 t146:=Tryz.underlying618
 a146:=Tryz.isAgg618
 z146:=Tryz.sizeOf618
 v146:=Tryz.zeroValue618
 g1:=by kernel_rfl
 g3:=by kernel_rfl
 g4:=by kernel_rfl
theorem Vw:Lays.n99 Tryz.prog gP where
 mixed:=by kernel_rfl
 f99:=Tryz.func167.trans (congrArg some (by kernel_rfl))
 f206:=Tryz.func246.trans (congrArg some (by kernel_rfl))
 t3:=bV
 a3:=jo
 z3:=iM
 v3:=fH
 t4:=eF
 a4:=kM
 z4:=jB
 v4:=gL
 t9:=bH
 a9:=jO
 z9:=jd
 v9:=fT
theorem SL:Lays.n145 Tryz.prog gP where
 mixed:=by kernel_rfl
 f145:=Tryz.func253.trans (congrArg some (by kernel_rfl))
 f217:=Tryz.func356.trans (congrArg some (by kernel_rfl))
 f219:=Tryz.func355.trans (congrArg some (by kernel_rfl))
 f220:=Tryz.func359.trans (congrArg some (by kernel_rfl))
 f224:=Tryz.func455.trans (congrArg some (by kernel_rfl))
 f225:=Tryz.func454.trans (congrArg some (by kernel_rfl))
 f266:=Tryz.func457.trans (congrArg some (by kernel_rfl))
 f267:=Tryz.func456.trans (congrArg some (by kernel_rfl))
 f314:=Tryz.func524.trans (congrArg some (by kernel_rfl))
 t3:=bV
 a3:=jo
 z3:=iM
 v3:=fH
 t4:=eF
 a4:=kM
 z4:=jB
 v4:=gL
 t5:=dX
 a5:=lQ
 z5:=ku
 v5:=iC
 t9:=bH
 a9:=jO
 z9:=jd
 v9:=fT
 t46:=iW
 a46:=mO
 z46:=lN
 v46:=jm
 t51:=ow
 a51:=y9
 z51:=wh
 v51:=pF
 t59:=Tryz.underlying402
 a59:=Tryz.isAgg402
 z59:=Tryz.sizeOf402
 v59:=Tryz.zeroValue402
 t146:=Tryz.underlying618
 a146:=Tryz.isAgg618
 z146:=Tryz.sizeOf618
 v146:=Tryz.zeroValue618
 g1:=by kernel_rfl
theorem UG:Lays.n159 Tryz.prog gP where
 mixed:=by kernel_rfl
 f118:=Tryz.func418.trans (congrArg some (by kernel_rfl))
 f159:=Tryz.func192.trans (congrArg some (by kernel_rfl))
 f165:=Tryz.func292.trans (congrArg some (by kernel_rfl))
 f166:=Tryz.func65.trans (congrArg some (by kernel_rfl))
 f167:=Tryz.func248.trans (congrArg some (by kernel_rfl))
 f168:=Tryz.func419.trans (congrArg some (by kernel_rfl))
 f169:=Tryz.func67.trans (congrArg some (by kernel_rfl))
 f197:=Tryz.func353.trans (congrArg some (by kernel_rfl))
 f204:=Tryz.func294.trans (congrArg some (by kernel_rfl))
 f230:=Tryz.func293.trans (congrArg some (by kernel_rfl))
 f240:=Tryz.func121.trans (congrArg some (by kernel_rfl))
 f241:=Tryz.func417.trans (congrArg some (by kernel_rfl))
 f242:=Tryz.func500.trans (congrArg some (by kernel_rfl))
 f260:=Tryz.func453.trans (congrArg some (by kernel_rfl))
 f262:=Tryz.func421.trans (congrArg some (by kernel_rfl))
 f270:=Tryz.func420.trans (congrArg some (by kernel_rfl))
 f274:=Tryz.func551.trans (congrArg some (by kernel_rfl))
 f275:=Tryz.func552.trans (congrArg some (by kernel_rfl))
 f276:=Tryz.func195.trans (congrArg some (by kernel_rfl))
 f277:=Tryz.func499.trans (congrArg some (by kernel_rfl))
 f278:=Tryz.func550.trans (congrArg some (by kernel_rfl))
 f313:=Tryz.func501.trans (congrArg some (by kernel_rfl))
 t0:=gM
 a0:=lS
 z0:=kE
 v0:=iD
 t3:=bV
 a3:=jo
 z3:=iM
 v3:=fH
 t4:=eF
 a4:=kM
 z4:=jB
 v4:=gL
 t5:=dX
 a5:=lQ
 z5:=ku
 v5:=iC
 t9:=bH
 a9:=jO
 z9:=jd
 v9:=fT
 t20:=yY
 a20:=Uc
 z20:=NQ
 v20:=AY
 t21:=yX
 a21:=Ub
 z21:=NP
 v21:=AX
 t37:=aU
 a37:=NS
 z37:=IX
 v37:=yV
 t46:=iW
 a46:=mO
 z46:=lN
 v46:=jm
 t51:=ow
 a51:=y9
 z51:=wh
 v51:=pF
 t70:=wM
 a70:=Tryz.isAgg153
 z70:=Tryz.sizeOf153
 v70:=Tryz.zeroValue153
 t72:=Tryz.underlying156
 a72:=Tryz.isAgg156
 z72:=Tryz.sizeOf156
 v72:=Tryz.zeroValue156
 t75:=Tryz.underlying158
 a75:=Tryz.isAgg158
 z75:=Tryz.sizeOf158
 v75:=Tryz.zeroValue158
 t76:=Tryz.underlying159
 a76:=Tryz.isAgg159
 z76:=Tryz.sizeOf159
 v76:=Tryz.zeroValue159
 t105:=Tryz.underlying498
 a105:=Tryz.isAgg498
 z105:=Tryz.sizeOf498
 v105:=Tryz.zeroValue498
 t107:=Tryz.underlying451
 a107:=Tryz.isAgg451
 z107:=Tryz.sizeOf451
 v107:=Tryz.zeroValue451
 t119:=IL
 a119:=Tryz.isAgg501
 z119:=Tryz.sizeOf501
 t127:=Tryz.underlying235
 a127:=Tryz.isAgg235
 z127:=Tryz.sizeOf235
 v127:=Tryz.zeroValue235
 t138:=IK
 a138:=Tryz.isAgg503
 z138:=Tryz.sizeOf503
 v138:=NJ
 t139:=IJ
 a139:=Tryz.isAgg504
 z139:=Tryz.sizeOf504
 v139:=NI
 t160:=Tryz.underlying643
 a160:=Tryz.isAgg643
 z160:=Tryz.sizeOf643
 v160:=Tryz.zeroValue643
 t162:=Tryz.underlying610
 a162:=Tryz.isAgg610
 z162:=Tryz.sizeOf610
 v162:=Tryz.zeroValue610
 t164:=qd
 a164:=Tryz.isAgg333
 z164:=Tryz.sizeOf333
 v164:=Tryz.zeroValue333
 t203:=Tryz.underlying608
 a203:=Tryz.isAgg608
 z203:=Tryz.sizeOf608
 v203:=Tryz.zeroValue608
 t206:=Tryz.underlying667
 a206:=Tryz.isAgg667
 z206:=Tryz.sizeOf667
 v206:=Tryz.zeroValue667
 t208:=Tryz.underlying669
 a208:=Tryz.isAgg669
 z208:=Tryz.sizeOf669
 v208:=Tryz.zeroValue669
 g3:=by kernel_rfl
 g4:=by kernel_rfl
 g13:=by kernel_rfl
theorem UE:Lays.n160 Tryz.prog gP where
 mixed:=by kernel_rfl
 f119:=Tryz.func525.trans (congrArg some (by kernel_rfl))
 f120:=Tryz.func502.trans (congrArg some (by kernel_rfl))
 f137:=Tryz.func245.trans (congrArg some (by kernel_rfl))
 f151:=Tryz.func423.trans (congrArg some (by kernel_rfl))
 f152:=Fh.trans (congrArg some (by kernel_rfl))
 f160:=Tryz.func194.trans (congrArg some (by kernel_rfl))
 f197:=Tryz.func353.trans (congrArg some (by kernel_rfl))
 f217:=Tryz.func356.trans (congrArg some (by kernel_rfl))
 f224:=Tryz.func455.trans (congrArg some (by kernel_rfl))
 f225:=Tryz.func454.trans (congrArg some (by kernel_rfl))
 f227:=Tryz.func297.trans (congrArg some (by kernel_rfl))
 f228:=Tryz.func422.trans (congrArg some (by kernel_rfl))
 f231:=Tryz.func295.trans (congrArg some (by kernel_rfl))
 f232:=Tryz.func296.trans (congrArg some (by kernel_rfl))
 f233:=Tryz.func298.trans (congrArg some (by kernel_rfl))
 f234:=Tryz.func299.trans (congrArg some (by kernel_rfl))
 f235:=Tryz.func300.trans (congrArg some (by kernel_rfl))
 f236:=Tryz.func301.trans (congrArg some (by kernel_rfl))
 f260:=Tryz.func453.trans (congrArg some (by kernel_rfl))
 f266:=Tryz.func457.trans (congrArg some (by kernel_rfl))
 f271:=Tryz.func424.trans (congrArg some (by kernel_rfl))
 t0:=gM
 a0:=lS
 z0:=kE
 v0:=iD
 t3:=bV
 a3:=jo
 z3:=iM
 v3:=fH
 t4:=eF
 a4:=kM
 z4:=jB
 v4:=gL
 t5:=dX
 a5:=lQ
 z5:=ku
 v5:=iC
 t9:=bH
 a9:=jO
 z9:=jd
 v9:=fT
 t21:=yX
 a21:=Ub
 z21:=NP
 v21:=AX
 t46:=iW
 a46:=mO
 z46:=lN
 v46:=jm
 t105:=Tryz.underlying498
 a105:=Tryz.isAgg498
 z105:=Tryz.sizeOf498
 v105:=Tryz.zeroValue498
 t116:=Tryz.underlying454
 a116:=Tryz.isAgg454
 z116:=Tryz.sizeOf454
 t117:=Tryz.underlying455
 a117:=Tryz.isAgg455
 z117:=Tryz.sizeOf455
 v117:=Tryz.zeroValue455
 t119:=IL
 a119:=Tryz.isAgg501
 z119:=Tryz.sizeOf501
 t124:=Tryz.underlying458
 a124:=Tryz.isAgg458
 z124:=Tryz.sizeOf458
 v124:=Tryz.zeroValue458
 t138:=IK
 a138:=Tryz.isAgg503
 z138:=Tryz.sizeOf503
 v138:=NJ
 t139:=IJ
 a139:=Tryz.isAgg504
 z139:=Tryz.sizeOf504
 v139:=NI
 g3:=by kernel_rfl
 g4:=by kernel_rfl
theorem VQ:Lays.n172 Tryz.prog gP where
 mixed:=by kernel_rfl
 f129:=Tryz.func232.trans (congrArg some (by kernel_rfl))
 f171:=Tryz.func66.trans (congrArg some (by kernel_rfl))
 f172:=Tryz.func265.trans (congrArg some (by kernel_rfl))
 f205:=Tryz.func528.trans (congrArg some (by kernel_rfl))
 f243:=Tryz.func122.trans (congrArg some (by kernel_rfl))
 f244:=Tryz.func377.trans (congrArg some (by kernel_rfl))
 f245:=Tryz.func378.trans (congrArg some (by kernel_rfl))
 f246:=Tryz.func196.trans (congrArg some (by kernel_rfl))
 f247:=Tryz.func470.trans (congrArg some (by kernel_rfl))
 f279:=Tryz.func471.trans (congrArg some (by kernel_rfl))
 f280:=Tryz.func472.trans (congrArg some (by kernel_rfl))
 f281:=Tryz.func473.trans (congrArg some (by kernel_rfl))
 f282:=Tryz.func474.trans (congrArg some (by kernel_rfl))
 f283:=Tryz.func302.trans (congrArg some (by kernel_rfl))
 f284:=Tryz.func303.trans (congrArg some (by kernel_rfl))
 f285:=Tryz.func304.trans (congrArg some (by kernel_rfl))
 f286:=Tryz.func305.trans (congrArg some (by kernel_rfl))
 f287:=Tryz.func491.trans (congrArg some (by kernel_rfl))
 f316:=Tryz.func527.trans (congrArg some (by kernel_rfl))
 f317:=Tryz.func425.trans (congrArg some (by kernel_rfl))
 f318:=Tryz.func426.trans (congrArg some (by kernel_rfl))
 f319:=Tryz.func427.trans (congrArg some (by kernel_rfl))
 f320:=Tryz.func428.trans (congrArg some (by kernel_rfl))
 f321:=Tryz.func535.trans (congrArg some (by kernel_rfl))
 f322:=Tryz.func536.trans (congrArg some (by kernel_rfl))
 f337:=Tryz.func503.trans (congrArg some (by kernel_rfl))
 f338:=Tryz.func504.trans (congrArg some (by kernel_rfl))
 t0:=gM
 a0:=lS
 z0:=kE
 v0:=iD
 t2:=Tryz.underlying2
 a2:=Tryz.isAgg2
 z2:=Tryz.sizeOf2
 v2:=Tryz.zeroValue2
 t3:=bV
 a3:=jo
 z3:=iM
 v3:=fH
 t4:=eF
 a4:=kM
 z4:=jB
 v4:=gL
 t5:=dX
 a5:=lQ
 z5:=ku
 v5:=iC
 t9:=bH
 a9:=jO
 z9:=jd
 v9:=fT
 t20:=yY
 a20:=Uc
 z20:=NQ
 v20:=AY
 t21:=yX
 a21:=Ub
 z21:=NP
 v21:=AX
 t37:=aU
 a37:=NS
 z37:=IX
 v37:=yV
 t46:=iW
 a46:=mO
 z46:=lN
 v46:=jm
 t51:=ow
 a51:=y9
 z51:=wh
 v51:=pF
 t53:=nu
 a53:=NR
 z53:=IW
 v53:=yU
 t75:=Tryz.underlying158
 a75:=Tryz.isAgg158
 z75:=Tryz.sizeOf158
 v75:=Tryz.zeroValue158
 t76:=Tryz.underlying159
 a76:=Tryz.isAgg159
 z76:=Tryz.sizeOf159
 v76:=Tryz.zeroValue159
 t85:=Tryz.underlying585
 a85:=Tryz.isAgg585
 z85:=Tryz.sizeOf585
 v85:=Tryz.zeroValue585
 t127:=Tryz.underlying235
 a127:=Tryz.isAgg235
 z127:=Tryz.sizeOf235
 v127:=Tryz.zeroValue235
 t143:=Tryz.underlying650
 a143:=Tryz.isAgg650
 z143:=Tryz.sizeOf650
 v143:=Tryz.zeroValue650
 t145:=Tryz.underlying652
 a145:=Tryz.isAgg652
 z145:=Tryz.sizeOf652
 v145:=Tryz.zeroValue652
 t167:=Tryz.underlying584
 a167:=Tryz.isAgg584
 z167:=Tryz.sizeOf584
 v167:=Tryz.zeroValue584
 t168:=Tryz.underlying587
 a168:=Tryz.isAgg587
 z168:=Tryz.sizeOf587
 v168:=Tryz.zeroValue587
 t171:=Tryz.underlying459
 a171:=Tryz.isAgg459
 z171:=Tryz.sizeOf459
 v171:=Tryz.zeroValue459
 t173:=Tryz.underlying461
 a173:=Tryz.isAgg461
 z173:=Tryz.sizeOf461
 v173:=Tryz.zeroValue461
 t175:=Tryz.underlying542
 a175:=Tryz.isAgg542
 z175:=Tryz.sizeOf542
 v175:=Tryz.zeroValue542
 t210:=Tryz.underlying622
 a210:=Tryz.isAgg622
 z210:=Tryz.sizeOf622
 v210:=Tryz.zeroValue622
 t212:=wK
 a212:=Tryz.isAgg558
 z212:=Tryz.sizeOf558
 v212:=Tryz.zeroValue558
 t213:=Tryz.underlying559
 a213:=Tryz.isAgg559
 z213:=Tryz.sizeOf559
 t232:=Tryz.underlying646
 a232:=Tryz.isAgg646
 z232:=Tryz.sizeOf646
 v232:=Tryz.zeroValue646
 t233:=Tryz.underlying647
 a233:=Tryz.isAgg647
 z233:=Tryz.sizeOf647
 v233:=Tryz.zeroValue647
 g15:=by kernel_rfl
 g16:=by kernel_rfl
 g17:=by kernel_rfl
 g18:=by kernel_rfl
 g19:=by kernel_rfl
theorem Vq:LaysM.n171 Tryz.prog gP where
 mixed:=by kernel_rfl
 f129:=Tryz.func232.trans (congrArg some (by kernel_rfl))
 f171:=Tryz.func66.trans (congrArg some (by kernel_rfl))
 f243:=Tryz.func122.trans (congrArg some (by kernel_rfl))
 f246:=Tryz.func196.trans (congrArg some (by kernel_rfl))
 f283:=Tryz.func302.trans (congrArg some (by kernel_rfl))
 f284:=Tryz.func303.trans (congrArg some (by kernel_rfl))
 f285:=Tryz.func304.trans (congrArg some (by kernel_rfl))
 f286:=Tryz.func305.trans (congrArg some (by kernel_rfl))
 f317:=Tryz.func425.trans (congrArg some (by kernel_rfl))
 f318:=Tryz.func426.trans (congrArg some (by kernel_rfl))
 f319:=Tryz.func427.trans (congrArg some (by kernel_rfl))
 f320:=Tryz.func428.trans (congrArg some (by kernel_rfl))
 f337:=Tryz.func503.trans (congrArg some (by kernel_rfl))
 f338:=Tryz.func504.trans (congrArg some (by kernel_rfl))
 t0:=gM
 a0:=lS
 z0:=kE
 v0:=iD
 t2:=Tryz.underlying2
 a2:=Tryz.isAgg2
 z2:=Tryz.sizeOf2
 v2:=Tryz.zeroValue2
 t3:=bV
 a3:=jo
 z3:=iM
 v3:=fH
 t4:=eF
 a4:=kM
 z4:=jB
 v4:=gL
 t5:=dX
 a5:=lQ
 z5:=ku
 v5:=iC
 t9:=bH
 a9:=jO
 z9:=jd
 v9:=fT
 t20:=yY
 a20:=Uc
 z20:=NQ
 v20:=AY
 t37:=aU
 a37:=NS
 z37:=IX
 v37:=yV
 t46:=iW
 a46:=mO
 z46:=lN
 v46:=jm
 t51:=ow
 a51:=y9
 z51:=wh
 v51:=pF
 t53:=nu
 a53:=NR
 z53:=IW
 v53:=yU
 t171:=Tryz.underlying459
 a171:=Tryz.isAgg459
 z171:=Tryz.sizeOf459
 v171:=Tryz.zeroValue459
 t173:=Tryz.underlying461
 a173:=Tryz.isAgg461
 z173:=Tryz.sizeOf461
 v173:=Tryz.zeroValue461
 t212:=wK
 a212:=Tryz.isAgg558
 z212:=Tryz.sizeOf558
 v212:=Tryz.zeroValue558
 t213:=Tryz.underlying559
 a213:=Tryz.isAgg559
 z213:=Tryz.sizeOf559
 t232:=Tryz.underlying646
 a232:=Tryz.isAgg646
 z232:=Tryz.sizeOf646
 v232:=Tryz.zeroValue646
 t233:=Tryz.underlying647
 a233:=Tryz.isAgg647
 z233:=Tryz.sizeOf647
 v233:=Tryz.zeroValue647
 g17:=by kernel_rfl
 g18:=by kernel_rfl
 g19:=by kernel_rfl
 i0:=by kernel_rfl
 i2:=by kernel_rfl
 i3:=by kernel_rfl
 i4:=by kernel_rfl
 i5:=by kernel_rfl
 i9:=by kernel_rfl
 i20:=by kernel_rfl
 i37:=by kernel_rfl
 i46:=by kernel_rfl
 i51:=by kernel_rfl
 i53:=by kernel_rfl
 i171:=by kernel_rfl
 i173:=by kernel_rfl
 i212:=by kernel_rfl
 i232:=by kernel_rfl
 i233:=by kernel_rfl
 m17:=by kernel_rfl
 m18:=by kernel_rfl
 m19:=by kernel_rfl
theorem VA:Lays.n173 Tryz.prog gP where
 mixed:=by kernel_rfl
 f129:=Tryz.func232.trans (congrArg some (by kernel_rfl))
 f173:=Tryz.func286.trans (congrArg some (by kernel_rfl))
 f246:=Tryz.func196.trans (congrArg some (by kernel_rfl))
 f283:=Tryz.func302.trans (congrArg some (by kernel_rfl))
 f284:=Tryz.func303.trans (congrArg some (by kernel_rfl))
 f285:=Tryz.func304.trans (congrArg some (by kernel_rfl))
 f286:=Tryz.func305.trans (congrArg some (by kernel_rfl))
 f317:=Tryz.func425.trans (congrArg some (by kernel_rfl))
 f318:=Tryz.func426.trans (congrArg some (by kernel_rfl))
 f319:=Tryz.func427.trans (congrArg some (by kernel_rfl))
 f320:=Tryz.func428.trans (congrArg some (by kernel_rfl))
 f337:=Tryz.func503.trans (congrArg some (by kernel_rfl))
 f338:=Tryz.func504.trans (congrArg some (by kernel_rfl))
 t0:=gM
 a0:=lS
 z0:=kE
 v0:=iD
 t2:=Tryz.underlying2
 a2:=Tryz.isAgg2
 z2:=Tryz.sizeOf2
 v2:=Tryz.zeroValue2
 t3:=bV
 a3:=jo
 z3:=iM
 v3:=fH
 t4:=eF
 a4:=kM
 z4:=jB
 v4:=gL
 t5:=dX
 a5:=lQ
 z5:=ku
 v5:=iC
 t9:=bH
 a9:=jO
 z9:=jd
 v9:=fT
 t20:=yY
 a20:=Uc
 z20:=NQ
 v20:=AY
 t37:=aU
 a37:=NS
 z37:=IX
 v37:=yV
 t46:=iW
 a46:=mO
 z46:=lN
 v46:=jm
 t51:=ow
 a51:=y9
 z51:=wh
 v51:=pF
 t53:=nu
 a53:=NR
 z53:=IW
 v53:=yU
 t171:=Tryz.underlying459
 a171:=Tryz.isAgg459
 z171:=Tryz.sizeOf459
 v171:=Tryz.zeroValue459
 t173:=Tryz.underlying461
 a173:=Tryz.isAgg461
 z173:=Tryz.sizeOf461
 v173:=Tryz.zeroValue461
 t212:=wK
 a212:=Tryz.isAgg558
 z212:=Tryz.sizeOf558
 v212:=Tryz.zeroValue558
 t213:=Tryz.underlying559
 a213:=Tryz.isAgg559
 z213:=Tryz.sizeOf559
 t232:=Tryz.underlying646
 a232:=Tryz.isAgg646
 z232:=Tryz.sizeOf646
 v232:=Tryz.zeroValue646
 t233:=Tryz.underlying647
 a233:=Tryz.isAgg647
 z233:=Tryz.sizeOf647
 v233:=Tryz.zeroValue647
 g17:=by kernel_rfl
 g18:=by kernel_rfl
 g19:=by kernel_rfl
def XH (s:ByteArray)(c:Nat):Int:=Lib.indexByte s.data.toList c.toUInt8
theorem EM (s:ByteArray)(c:Nat)(w:World)(a:c<256):Calls Tryz.prog 245 #[.string s,.int .u8 c] w fun e b=>e= .returned (.int .i64 (XH s c))/\b=w:=by
 have h:=Any.strings_IndexByte Vu s c w
 exact h
theorem Keep.as {M:Nat->Prop}{w a w'':World}(h:Keep M w a)(e:w''.heap=a.heap)(b:w''.os=a.os)(f:w''.tape=a.tape)(c:w''.output=a.output):Keep M w w'':=
 ⟨b.trans h.os,f.trans h.tape,c.trans h.output,by rw[e];exact h.size,fun k d g=>by rw[e];exact h.block k d g⟩
def qF (w:World)(rb:Nat)(s:ByteArray)(u:Nat):Prop:=w.heap[rb]? =some (.cells #[.string s,.int .i64 u] 345 (0,0))
theorem qF.cells {w:World}{a:Nat}{s:ByteArray}{u:Nat}(h:qF w a s u):w.cell? ⟨a,0,none⟩=some (.string s)/\w.cell? ⟨a,1,none⟩=some (.int .i64 u)/\w.frozen? ⟨a,1,none⟩=false/\a<w.heap.size:=by
 unfold qF at h
 exact⟨by simp[World.cell?,h],by simp[World.cell?,h],by simp[World.frozen?,h],(aj.1 h).1⟩
theorem qF.set {w:World}{a:Nat}{s:ByteArray}{u:Nat}(h:qF w a s u)(v:Nat):qF (w.setCell ⟨a,1,none⟩ (.int .i64 v)) a s v/\Keep (· =a) w (w.setCell ⟨a,1,none⟩ (.int .i64 v)):=by
 refine⟨?_,(Keep.refl (· =a) w).setCell (p:=⟨a,1,none⟩) (.inr rfl) _⟩
 unfold qF at h ⊢
 simp[World.setCell,aK,h]
theorem qF.keep {M:Nat->Prop}{w w':World}{a:Nat}{s:ByteArray}{u:Nat}(h:qF w a s u)(c:Keep M w w')(b:¬M a):qF w' a s u:=(c.block a (aj.1 h).1 b).trans h
structure vI (s:ByteArray)(u i:Nat)(rest fr bk l:ByteArray):Prop where
 hr:s.extract u s.size=rest
 hf:rest.extract 0 (min rest.size 1026)=fr
 hb:rest.extract 0 i=bk
 hl:rest.extract 0 (i - 1)=l
 hi:XH fr 10=i
 hc:XH bk 13=(i:Int) - 1
 h1:1<=i
 h2:i<rest.size
 hu:u<=s.size
 hs:s.size<=1000000
 hz:rest.size=s.size - u
theorem Od (b:Nat)(s:ByteArray)(u i:Nat)(a f k l:ByteArray)(z y:Int)(w:World)(h:qF w b s u)(A:vI s u i a f k l):
  Calls Tryz.prog 310 #[.pointer (some ⟨b,0,none⟩),.int .i64 z,.int .i64 y] w fun e q=>e= .returned (.string l)/\qF q b s (u+i+1)/\Keep (· =b) w q:=by
 obtain⟨m,r,o,p,E,B,D,F,v,g,c⟩:=A
 obtain⟨P,G,I,N⟩:=h.cells
 have j:=ah (h.set (u+i+1))
 have O:∀W:World,(Instr.slice 9 (.string s) (some (.int .i64 u)) none none).run Tryz.prog W= .ok (.string a) W:=fun W=>by
  rw[run_slice_string_l W _ s bH .i64 u (by omega) (by omega),dz,m]
 have M:∀W:World,(Instr.slice 9 (.string a) none (some (.int .i64 (min (a.size:Int) 1026))) none).run Tryz.prog W= .ok (.string f) W:=fun W=>by
  rw[VY W _ a bH .i64 _ (by omega) (by omega),show (min (a.size:Int) 1026).toNat=min a.size 1026 by omega,r]
 have T:∀W:World,(Instr.slice 9 (.string a) none (some (.int .i64 i)) none).run Tryz.prog W= .ok (.string k) W:=fun W=>by
  rw[VY W _ a bH .i64 i (by omega) (by omega),dz,o]
 have K:∀W:World,(Instr.slice 9 (.string a) none (some (.int .i64 ((i:Int) - 1))) none).run Tryz.prog W= .ok (.string l) W:=fun W=>by
  rw[VY W _ a bH .i64 _ (by omega) (by omega),show ((i:Int) - 1).toNat=i - 1 by omega,p]
 have R:¬((i:Int)<0):=by omega
 have H:((i:Int)==0)=false:=by simp;omega
 have S:¬(i:Int)=0:=by omega
 have Q:IntKind.i64.wrap ((i:Int) - 1)=(i:Int) - 1:=by rw[bX];omega
 have J:IntKind.i64.wrap ((i:Int)+1)=(i:Int)+1:=by rw[bX];omega
 have t:IntKind.i64.wrap ((u:Int)+((i:Int)+1))=((u+i+1:Nat):Int):=by rw[bX];omega
 obtain⟨n,x⟩:∃n:Nat,Hid (u+i+1=n):=⟨_,ah rfl⟩
 rw[x.out] at t j ⊢
 clear h m r o p D F v g c
 go_enter Tryz.func310,Tryz.ntmps310
 go_upto_region 1 with (fail)
 go_quiet (fail)
 go_wp2_with (first
  |(go_at_call 245;go_must (refine(EM f 10 _ (by decide)).mono ?_;rintro e d ⟨rfl,C⟩;subst d;rw[E];refine Stop.of ?_)))
 refine Stop.on ?_
 go_wp2_with (first
  |(go_at_call 245;go_must (refine(EM k 13 _ (by decide)).mono ?_;rintro e d ⟨rfl,C⟩;subst d;rw[B])))
 go_ret
 exact⟨rfl,j.out.1,j.out.2.as rfl rfl rfl rfl⟩
theorem Wj (b:Nat)(s:ByteArray)(u n:Nat)(p:ByteArray)(w:World)(h:qF w b s u)(k:u+n<=s.size)(j:s.size<=1000000)(f:s.extract u (u+n)=p):
  Calls Tryz.prog 320 #[.pointer (some ⟨b,0,none⟩),.int .i64 n] w fun e d=>e= .returned (.string p)/\qF d b s (u+n)/\Keep (· =b) w d:=by
 obtain⟨y,l,q,r⟩:=h.cells
 obtain⟨m,a⟩:∃m:Nat,Hid (u+n=m):=⟨_,ah rfl⟩
 have c:=h.set m
 obtain⟨x,t,_,i⟩:=c.1.cells
 have A:¬((s.size:Int) - (u:Int)<(n:Int)):=by omega
 have o:IntKind.i64.wrap ((s.size:Int) - (u:Int))=(s.size:Int) - (u:Int):=by rw[bX];omega
 have B:IntKind.i64.wrap ((u:Int)+(n:Int))=(m:Int):=by rw[bX];have:=a.out;omega
 have z:IntKind.i64.wrap ((m:Int) - (n:Int))=(u:Int):=by rw[bX];have:=a.out;omega
 have v:∀W:World,(Instr.slice 9 (.string s) (some (.int .i64 u)) (some (.int .i64 m)) none).run Tryz.prog W= .ok (.string p) W:=fun W=>by
  rw[run_slice_string W _ s .i64 .i64 u m bH (by omega) (by have:=a.out;omega) (by have:=a.out;omega),dz,dz,<-a.out,f]
 rw[a.out]
 have g:=ah c
 clear h c k j f
 go_enter Tryz.func320,Tryz.ntmps320
 go_upto_region 1 with (fail)
 go_quiet (fail)
 go_upto_region 4 with (fail)
 go_quiet (fail)
 go_wp2_with fail
 go_ret
 exact⟨rfl,g.out.1,g.out.2.as rfl rfl rfl rfl⟩
def Ro (c:UInt8):Bool:=decide (65<=c.toNat) && decide (c.toNat<=90)||decide (97<=c.toNat) && decide (c.toNat<=122)||decide (c.toNat=45)
theorem UF:∀x:Nat,x<128->(65<=x/\x<=90\/97<=x/\x<=122)->97<=bits .or .u8 (x:Int) 32/\bits .or .u8 (x:Int) 32<=122:=by decide+kernel
theorem SI:XH ⟨#[33,35,36,37,38,39,42,43,45,46,94,95,96,124,126]⟩ 45=8:=by kernel_rfl
theorem bytes_at {s:ByteArray}{p:UInt8->Bool}(h:s.data.toList.all p=true){k:Nat}(a:k<s.size):p (s[k]'a)=true:=
 Ea.1 h _ (wP (Lib.data_getElem? s k a))
theorem NZ (s:ByteArray)(w:World)(A:s.size<=1000000)(n:(s.toList==[])=false)(h:s.data.toList.all Ro=true):
  Calls Tryz.prog 311 #[.string s] w fun e r=>e= .returned (.bool true)/\r=w:=by
 have t:Hid (∀k (c:k<s.size),Ro (s[k]'c)=true):=ah (fun k c=>bytes_at h c)
 have o:s.data.toList.isEmpty=false:=by rw[toList_eq] at n;cases D:s.data.toList<;>simp_all
 clear h
 go_enter Tryz.func311,Tryz.ntmps311
 go_wp2
 go_loopw [3,4,7] (fun _ _ i wr=>∃k:Nat,k<=s.size/\i= .int .i64 k/\wr=w) (fun _ _ i _=>s.size - (intOf i).toNat)
 case atStart=>exact⟨0,aR _,rfl,rfl⟩
 case round=>
  obtain⟨k,c,rfl,f⟩:=hrel
  subst f
  by_cases b:k<s.size
  ·have j:(k:Int)<(s.size:Int):=by omega
   have a:=t.out k b
   obtain⟨x,l⟩:∃x:UInt8,s[k]'b=x:=⟨_,rfl⟩
   rw[l] at a
   simp only[Ro,xH,dA,dU] at a
   have g:IntKind.i64.wrap ((k:Int)+1)=((k+1:Nat):Int):=by rw[bX];omega
   rcases a with a|a
   ·obtain⟨v,q⟩:=UF x.toNat (by omega) a
    obtain⟨y,p⟩:∃y,bits .or .u8 (x.toNat:Int) 32=y:=⟨_,rfl⟩
    rw[p] at v q
    have B:(65:Int)<=(x.toNat:Int):=by omega
    clear a
    go_wp2_with fail
    go_roundw
    case rel=>exact⟨k+1,by omega,by go_num,by trivial⟩
    case measure=>simp[intOf];omega
   ·have d:x=45:=xE.1 a
    subst d
    clear a
    go_wp2_with (first
     |(go_at_call 245;go_must (refine(EM ⟨#[33,35,36,37,38,39,42,43,45,46,94,95,96,124,126]⟩ 45 _ (by decide)).mono ?_;rintro e m ⟨rfl,C⟩;subst m;rw[SI])))
    go_roundw
    case rel=>exact⟨k+1,by omega,by go_num,by trivial⟩
    case measure=>simp[intOf];omega
  ·obtain rfl:k=s.size:=by omega
   have z:¬(s.size:Int)<(s.size:Int):=by omega
   go_wp2_with fail
   go_ret
   exact⟨rfl,rfl⟩
theorem wall (g:Nat)(s:ByteArray)(w:World)(z:s.size<=1000000)(o:∀a w,(callFunc g a).run Tryz.prog w= .ok (.enter g a) w)(p:UInt8->Bool)(h:s.data.toList.all p=true)
  (m:∀(c:UInt8) (W:World),p c=true->Calls Tryz.prog g #[.int .u8 c.toNat] W fun e f=>e= .returned (.bool true)/\f=W):
  Calls Tryz.prog 312 #[.string s,.func (.func g) #[] #[]] w fun e f=>e= .returned (.bool true)/\f=w:=by
 have t:Hid (∀k (d:k<s.size),p (s[k]'d)=true):=ah (fun k d=>bytes_at h d)
 have v:=ah m
 clear h m
 go_enter Tryz.func312,Tryz.ntmps312
 go_wp2
 go_loopw [5,8] (fun _ i wr=>∃k:Nat,k<=s.size/\i= .int .i64 k/\wr=w) (fun _ i _=>s.size - (intOf i).toNat)
 case atStart=>exact⟨0,aR _,rfl,rfl⟩
 case round=>
  obtain⟨k,d,rfl,j⟩:=hrel
  subst j
  by_cases b:k<s.size
  ·have n:(k:Int)<(s.size:Int):=by omega
   have l:=ah (t.out k b)
   obtain⟨x,q⟩:∃x:UInt8,s[k]'b=x:=⟨_,rfl⟩
   rw[q] at l
   go_wp2_with (first
    |(refine(v.out x _ l.out).mono ?_;rintro e r ⟨rfl,A⟩;subst r))
   go_roundw
   case rel=>exact⟨k+1,by omega,by go_num,by trivial⟩
   case measure=>simp[intOf];omega
  ·obtain rfl:k=s.size:=by omega
   have y:¬(s.size:Int)<(s.size:Int):=by omega
   go_wp2_with fail
   go_ret
   exact⟨rfl,rfl⟩
def SH (c:UInt8):Bool:=decide (48<=c.toNat) && decide (c.toNat<=57)
theorem Ol (c:UInt8)(W:World)(h:SH c=true):Calls Tryz.prog 315 #[.int .u8 c.toNat] W fun e a=>e= .returned (.bool true)/\a=W:=by
 simp only[SH,dA,dU] at h
 have b:(48:Int)<=(c.toNat:Int):=by omega
 have d:(c.toNat:Int)<=57:=by omega
 clear h
 go_enter Tryz.func315,Tryz.ntmps315
 go_wp2
 go_ret
 exact⟨rfl,rfl⟩
def Uw (c:UInt8):Bool:=decide (33<=c.toNat) && decide (c.toNat<=126)
theorem XJ (c:UInt8)(W:World)(h:Uw c=true):Calls Tryz.prog 313 #[.int .u8 c.toNat] W fun e a=>e= .returned (.bool true)/\a=W:=by
 simp only[Uw,dA,dU] at h
 have b:(33:Int)<=(c.toNat:Int):=by omega
 have d:(c.toNat:Int)<=126:=by omega
 clear h
 go_enter Tryz.func313,Tryz.ntmps313
 go_wp2
 go_ret
 exact⟨rfl,rfl⟩
def LW (c:UInt8):Bool:=decide (32<=c.toNat) && decide (c.toNat<=126)
theorem XK (c:UInt8)(W:World)(h:LW c=true):Calls Tryz.prog 316 #[.int .u8 c.toNat] W fun e a=>e= .returned (.bool true)/\a=W:=by
 simp only[LW,dA,dU] at h
 have d:(32:Int)<=(c.toNat:Int):=by omega
 have f:((c.toNat:Int)==9)=false:=by simp;omega
 have b:((c.toNat:Int) !=127)=true:=by simp;omega
 clear h
 go_enter Tryz.func316,Tryz.ntmps316
 go_wp2
 go_ret
 exact⟨rfl,rfl⟩
def je (w:World)(qb:Nat)(m t:ByteArray)(hv:Value)(b:ByteArray)(c:Bool):Prop:=w.heap[qb]? =some (.cells #[.string m,.string t,hv,.string b,.bool c] 73 (0,0))
theorem je.cells {w:World}{qb:Nat}{m t:ByteArray}{a:Value}{b:ByteArray}{c:Bool}(h:je w qb m t a b c):w.cell? ⟨qb,0,none⟩=some (.string m)/\w.cell? ⟨qb,1,none⟩=some (.string t)/\w.cell? ⟨qb,2,none⟩=some a/\w.cell? ⟨qb,3,none⟩=some (.string b)/\w.cell? ⟨qb,4,none⟩=some (.bool c)/\(∀i,w.frozen? ⟨qb,i,none⟩=false)/\qb<w.heap.size:=by
 unfold je at h
 exact⟨by simp[World.cell?,h],by simp[World.cell?,h],by simp[World.cell?,h],by simp[World.cell?,h],by simp[World.cell?,h],fun i=>by simp[World.frozen?,h],(aj.1 h).1⟩
theorem je.keep {M:Nat->Prop}{w w':World}{a:Nat}{m t:ByteArray}{d:Value}{b:ByteArray}{c:Bool}(h:je w a m t d b c)(f:Keep M w w')(e:¬M a):je w' a m t d b c:=(f.block a (aj.1 h).1 e).trans h
abbrev lJ (w:World) (v:Value) (hs:List Pr):Prop:=sQ w eG v hs
def kN (hs:List Pr)(n:ByteArray):List ByteArray:=(hs.filter fun p=>p.1.toList==n.toList).map (·.2)
theorem AA (Q:Nat)(m t:ByteArray)(P:Value)(b:ByteArray)(c:Bool)(d:List Pr)(a:ByteArray)(w:World)(h:je w Q m t P b c)(G:lJ w P d)(hl:d.length<=1000):
  Calls Tryz.prog 317 #[.pointer (some ⟨Q,0,none⟩),.string a] w fun e N=>∃v,e= .returned v/\aV N eG w.heap.size 9 1 v (kN d a).length ((kN d a).map .string)/\Below w.heap.size w N:=by
 obtain⟨_,_,c2,_,_,_,lq⟩:=h.cells
 obtain⟨ho,hc,rfl,h1,h2,_,_⟩:=bq.form G
 have Y:=ah (au G hl)
 clear h G
 go_enter Tryz.func317,Tryz.ntmps317
 go_wp2
 go_loopw [5,7,13] (fun l _ i wr=>∃(k:Nat),k<=d.length/\i= .int .i64 k/\aV wr eG w.heap.size 9 1 l (kN (d.take k) a).length ((kN (d.take k) a).map .string)/\Below w.heap.size w wr) (fun _ _ i _=>d.length - (intOf i).toNat)
 case atStart=>exact⟨0,aR _,rfl,aV.nil _ _ _ _ _,aJ _ _⟩
 case round=>
  obtain⟨k,hk,rfl,j,f⟩:=hrel
  have r:(kN (d.take k) a).length<=1000:=by
   unfold kN
   rw[jM]
   exact aI (IZ _ _) (by rw[aQ];omega)
  generalize y:(kN (d.take k) a).length=n at j r
  have H:=ah y;clear y
  obtain⟨W,S,rfl,_,_,_,_⟩:=bq.form j.dM
  by_cases B:k<d.length
  ·obtain⟨g,o,rfl,F,D⟩:=Y.out.1.at rfl k B
   have I:=(f.cell (p:=⟨g,o+k*2,none⟩) (aD w _ F)).trans F
   have T:=(f.cell (p:=⟨g,o+k*2+1,none⟩) (aD w _ D)).trans D
   have R:=aD wr _ I
   have M:(k:Int)<(d.length:Int):=by omega
   have A:kN (d.take (k+1)) a=kN (d.take k) a++kN [d[k]] a:=by
    unfold kN
    rw[aO B,List.filter_append,dF]
   have z:=ah A
   have q:=aG wr (.cells #[.string d[k].1,.string d[k].2] 162)
   clear F D A
   cases K:(d[k].1.toList==a.toList) with
   |false=>
    have C:=ah K
    go_wp2_with fail
    go_roundw
    case rel=>
     refine⟨k+1,by omega,by go_num,?_,f.trans (q.mono f.size)⟩
     rw[z.out,show kN [d[k]] a=[] by simp[kN,C.out],dV,H.out]
     exact j.below q
    case measure=>simp[intOf];omega
   |true=>
    have C:=ah K
    have J:=aG (wr.alloc (.cells #[.string d[k].1,.string d[k].2] 162)) (.cells #[.string d[k].2] 9)
    have s:=q.trans (J.mono q.size)
    have hz:(wr.alloc (.cells #[.string d[k].1,.string d[k].2] 162)).heap.size=wr.heap.size+1:=by simp
    go_wp2_with (at_builtin;go_must ((refine dQ rfl (.tmp 21) (.tmp 24) 146 146 rfl eG w.heap.size 9 1 16 _ iq uV rfl (.slice W n S) n _ rfl (j.below s) (.slice (some ⟨wr.heap.size+1,0,none⟩) 1 1) 1 [.string d[k].2] rfl (iB [.string d[k].2] 9 1 1 1 hz iq rfl (by intro u O;simp only[aW,bQ,fJ] at O;subst O;rfl)) (fun g Z=>Z.elim) ?_ ?_ ?_ ?_);(focus (have:=f.size;have:=s.size;omega));(focus (unfold maxLen;omega));(focus omega);intro V c3 w3 x X E pV))
    go_roundw
    case rel=>
     refine⟨k+1,by omega,by go_num,?_,(f.trans (s.mono f.size)).trans E⟩
     rw[z.out,show kN [d[k]] a=[d[k].2] by simp[kN,C.out],aB,H.out,dF]
     exact x
    case measure=>simp[intOf];omega
  ·obtain rfl:k=d.length:=by omega
   rw[bL] at j
   have y:=H.out
   rw[bL] at y
   subst y
   have x1:¬(d.length:Int)<(d.length:Int):=by omega
   go_wp2_with fail
   go_ret
   exact⟨_,rfl,j,f⟩
theorem Rh (j:Nat)(m t:ByteArray)(g:Value)(b:ByteArray)(c:Bool)(a:List Pr)(w:World)(h:je w j m t g b c)(n:lJ w g a)(q:a.length<=1000)(k:kN a ⟨#[99,111,110,110,101,99,116,105,111,110]⟩=[]):
  Calls Tryz.prog 205 #[.pointer (some ⟨j,0,none⟩)] w fun e p=>e= .returned (.bool false)/\Below w.heap.size w p:=by
 have d:=AA j m t g b c a ⟨#[99,111,110,110,101,99,116,105,111,110]⟩ w h n q
 rw[k] at d
 have d:=ah d
 have y:=h.cells.2.2.2.2.2.2
 clear h n k
 go_enter Tryz.func205,Tryz.ntmps205
 go_wp2_with (first
  |(go_at_call 317;go_must (refine d.out.mono ?_;rintro e o ⟨v,rfl,l,f⟩;obtain⟨x,s,rfl,_⟩:=bq.form l.dM;refine Stop.of ?_)))
 refine Stop.on ?_
 clear l
 go_wp2
 go_loopw [4,6,10,17] (fun _ _ i _ wr=>i= .int .i64 0/\wr=o) (fun _ _ _ _ _=>0)
 case atStart=>exact⟨rfl,rfl⟩
 case round=>
  obtain⟨rfl,r⟩:=hrel
  subst r
  go_wp2_with fail
  go_ret
  exact⟨rfl,f⟩
def jV (w:World):Prop:=∃m,w.cell? ⟨3,0,none⟩=some (.int .i64 m)
theorem jV.keep {M:Nat->Prop}{w w':World}(h:jV w)(a:Keep M w w')(b:¬M 3):jV w':=h.imp fun _ h=>(a.cell (aD w _ h) b).trans h
theorem jV.below {w w':World}(h:jV w)(a:Below w.heap.size w w'):jV w':=h.keep (Keep.of_below a (fun _=>False)) id
theorem M4:(Tryz.prog.info? (gP.t 9)).map (fun i=>(i.zero,i.size,i.bytes))=some (some (.string ByteArray.empty),1,16):=by kernel_rfl
theorem Yu:Builder.Extra Tryz.prog gP where
 sizeBuilder:=by kernel_rfl
 liesBuilder:=by kernel_rfl
 t5:=dX
 a5:=lQ
 z5:=ku
 v5:=iC
 infoByte:=by kernel_rfl
 cellsByte:=by kernel_rfl
 sizeByte:=by kernel_rfl
 neB5:=by decide
section
variable (s x:ByteArray) (w:World)
theorem zC (l:List ByteArray)(a:jV w)(b:s.size<4294967281/\1<=x.size)(c:Lib.countB s x+1=l.length)(f:Lib.splitB x 0 (Lib.countB s x) s=l):
  Calls Tryz.prog 108 #[.string s,.string x] w fun e d=>e= .returned (.slice (some ⟨w.heap.size,0,none⟩) l.length l.length)/\d=w.alloc (.cells (l.map Value.string).toArray 9):=by
 obtain⟨m,a⟩:=a
 have h:=Any.strings_Split UU M4 s x m w b.1 a b.2
 rw[c,f] at h
 exact h
theorem Sb (a b:ByteArray)(c:jV w)(g:s.size<4294967281)(d:Lib.cut s.data.toList x.data.toList=(a.data.toList,b.data.toList,true)):
  Calls Tryz.prog 253 #[.string s,.string x] w fun e f=>e= .returned (.tuple #[.string a,.string b,.bool true])/\∃n,f=w.drewN n:=by
 obtain⟨m,c⟩:=c
 have h:=Any.strings_Cut SL s x m w g c
 rw[d] at h
 exact h
theorem Gu (a:ByteArray)(b:Bool)(c:Lib.trimPrefix s.data.toList x.data.toList=a.data.toList)(d:Lib.hasPrefix s.data.toList x.data.toList=b):
  Calls Tryz.prog 239 #[.string s,.string x] w fun e f=>e= .returned (.tuple #[.string a,.bool b])/\f=w:=by
 have h:=Any.strings_CutPrefix VL s x w
 rw[c,d] at h
 exact h
theorem R8 (b:Bool)(a:Lib.hasPrefix s.data.toList x.data.toList=b):
  Calls Tryz.prog 167 #[.string s,.string x] w fun e c=>e= .returned (.bool b)/\c=w:=by
 have h:=Any.strings_HasPrefix Vw s x w
 rw[a] at h
 exact h
theorem Dx (a:ByteArray)(g:s.size<=1000000)(hA:(s.data.toList.all fun b=>decide (b.toNat<128))=true)(c:Lib.toLowerA s.data.toList=a.data.toList):
  Calls Tryz.prog 192 #[.string s] w fun e f=>e= .returned (.string a)/\Below w.heap.size w f:=by
 have h:=Any.strings_ToLower_ascii UG Yu s w (by omega) (fun j b d=>by have:=Ea.1 hA b (wP d);simpa using this)
 rw[c] at h
 exact h
theorem Gt (a:ByteArray)(i:s.size<=1000000)(g:x.size<=1000000)(hA:(x.data.toList.all fun b=>decide (b.toNat<128))=true)(c:Lib.trimS s.data.toList x.data.toList=a.data.toList):
  Calls Tryz.prog 194 #[.string s,.string x] w fun e f=>e= .returned (.string a)/\Below w.heap.size w f:=by
 have h:=Any.strings_Trim_laid UE Jy s x w (by omega) (by omega) (fun j b d=>by have:=Ea.1 hA b (wP d);simpa using this)
 rw[c] at h
 exact h
theorem PV (n:Int)(c:s.size<=18)(h:Lib.atoi s.data.toList=some n):
  Calls Tryz.prog 265 #[.string s] w fun e a=>e= .returned (.tuple #[.int .i64 n,.nilIface])/\Below w.heap.size w a:=by
 refine(Any.strconv_Atoi VQ s n c h w).mono ?_
 rintro e a ⟨b,t,rfl⟩
 exact⟨b,Go.Joins.below_bytesWorld _ _ _ _ (aC _)⟩
theorem R9 (i:Nat)(a:ByteArray)(d:i<100)(b:Lib.decDigits i=a.data.toList):
  Calls Tryz.prog 286 #[.int .i64 i,.int .i64 10] w fun e c=>e= .returned (.string a)/\c=w:=by
 have h:=Any.strconv_FormatInt_10_small VA i d w
 rw[b] at h
 exact h
end
def iQ:ByteArray:=⟨#[80,85,84]⟩
def pE:ByteArray:=⟨#[47,97]⟩
def OZ:ByteArray:=⟨#[72,84,84,80,47,49,46,49]⟩
def s11:ByteArray:=⟨#[49,46,49]⟩
def UX:ByteArray:=⟨#[80,85,84,32,47,97,32,72,84,84,80,47,49,46,49]⟩
theorem OM (w:World)(b:jV w):Calls Tryz.prog 108 #[.string UX,.string ⟨#[32]⟩] w fun e a=>e= .returned (.slice (some ⟨w.heap.size,0,none⟩) 3 3)/\a.heap[w.heap.size]? =some (.cells #[.string iQ,.string pE,.string OZ] 9 (0,0))/\Below w.heap.size w a:=by
 refine(zC UX ⟨#[32]⟩ w [iQ,pE,OZ] b ⟨by decide,by decide⟩ (by kernel_rfl) (by kernel_rfl)).mono ?_
 rintro e a ⟨rfl,rfl⟩
 exact⟨rfl,aH w _,aG w _⟩
theorem FJ {w:World}{b:Nat}{x y z:ByteArray}(h:w.heap[b]? =some (.cells #[.string x,.string y,.string z] 9 (0,0))):w.cell? ⟨b,0,none⟩=some (.string x)/\w.cell? ⟨b,1,none⟩=some (.string y)/\w.cell? ⟨b,2,none⟩=some (.string z)/\b<w.heap.size:=
 ⟨by simp[World.cell?,h],by simp[World.cell?,h],by simp[World.cell?,h],(aj.1 h).1⟩
theorem Uu (d a:Nat)(s j S Z:ByteArray)(w:World)(h:qF w d s 0)(hq:je w a ⟨#[]⟩ ⟨#[]⟩ (.slice none 0 0) ⟨#[]⟩ false)(A:d≠a)(T:vI s 0 16 j S Z UX)(X:jV w)(z:3≠d):
  Calls Tryz.prog 202 #[.pointer (some ⟨d,0,none⟩),.pointer (some ⟨a,0,none⟩)] w fun e J=>e= .returned (.tuple #[])/\qF J d s 17/\je J a iQ pE (.slice none 0 0) ⟨#[]⟩ false/\Keep (fun g=>g=d\/g=a) w J:=by
 have HL:=ah (Od d s 0 16 j S Z UX 414 400 w h T)
 have E:=ah (au hq (au X (au z A)))
 have e1:UX.toList.isEmpty=false:=by kernel_rfl
 clear h hq X T z A
 go_enter Tryz.func202,Tryz.ntmps202
 go_wp2
 go_loopw [4] (fun l wr=>(l= .string ⟨#[]⟩/\wr=w)\/(l= .string UX/\qF wr d s 17/\Keep (· =d) w wr)) (fun l _=>match l with| .string s=>(if s.size=0 then 1 else 0)|_=>0)
 case atStart=>exact .inl ⟨rfl,rfl⟩
 case round=>
  rcases hrel with ⟨rfl,B⟩|⟨rfl,F,t⟩
  ·subst B
   go_wp2_with (first
    |(go_at_call 310;go_must (refine HL.out.mono ?_;rintro e w1 ⟨rfl,F,t⟩;refine Stop.of ?_)))
   refine Stop.on ?_
   go_wp2_with fail
   go_roundw
   case rel=>exact .inr ⟨rfl,F,t⟩
   case measure=>decide
  ·have D:=E.out.1.keep t (fun e=>E.out.2.2.2 e.symm)
   have m:=E.out.2.1.keep t E.out.2.2.1
   have G:=ah (au F (au D (au m t)))
   have HS:=ah (OM wr m)
   clear F t D m
   go_wp2_with (first
    |(go_at_call 108;go_must (refine HS.out.mono ?_;rintro e c ⟨rfl,o,C⟩;refine Stop.of ?_)))
   refine Stop.on ?_
   obtain⟨P,M,d2,f⟩:=FJ o
   have O:=ah (au o C)
   obtain⟨k,n⟩:∃k:Nat,Hid (wr.heap.size=k):=⟨_,ah rfl⟩
   rw[n.out] at P M d2 f
   clear o C
   rw[n.out]
   have f1:pE.toList.isEmpty=false:=by kernel_rfl
   have f2:(s11.toList==[49,46,49])=true:=by kernel_rfl
   have f3:s11.size=3:=rfl
   have g0:∀W:World,(Instr.index 9 (.string s11) (.int .i64 0)).run Tryz.prog W= .ok (.int .u8 49) W:=fun _=>by kernel_rfl
   have g1:∀W:World,(Instr.index 9 (.string s11) (.int .i64 1)).run Tryz.prog W= .ok (.int .u8 46) W:=fun _=>by kernel_rfl
   have g2:∀W:World,(Instr.index 9 (.string s11) (.int .i64 2)).run Tryz.prog W= .ok (.int .u8 49) W:=fun _=>by kernel_rfl
   go_wp2_with (first
    |(go_at_call 311;go_must (refine(NZ iQ _ (by decide) (by kernel_rfl) (by kernel_rfl)).mono ?_;rintro e r ⟨rfl,B⟩;subst r))
    |(go_at_call 312;go_must (refine(wall 313 pE _ (by decide) (fun _ _=>by kernel_rfl) Uw (by kernel_rfl) XJ).mono ?_;rintro e r ⟨rfl,B⟩;subst r))
    |(go_at_call 239;go_must (refine(Gu OZ ⟨#[72,84,84,80,47]⟩ _ s11 true (by kernel_rfl) (by kernel_rfl)).mono ?_;rintro e r ⟨rfl,B⟩;subst r))
    |(go_at_call 315;go_must (refine(Ol 49 _ (by decide)).mono ?_;rintro e r ⟨rfl,B⟩;subst r)))
   have q:je c a ⟨#[]⟩ ⟨#[]⟩ (.slice none 0 0) ⟨#[]⟩ false:=G.out.2.1.keep (Keep.of_below O.out.2 (fun _=>False)) id
   obtain⟨q0,q1,q2,q3,q4,qf,Y⟩:=q.cells
   have x:k≠a:=fun e=>by
    have:=G.out.2.1.cells.2.2.2.2.2.2
    have:=n.out
    omega
   have y:=ah (au q (au x f))
   clear q x e1 f1 f2 f3 g0 g1 g2
   refine aP (fun W=>Keep (· =a) c W) (fun i=> !([10,13].contains i)) [0,1,2,3,4,5,6,7,8,9,10,11,12,13] rfl (by kernel_rfl) ((Keep.refl (· =a) c).as rfl rfl rfl rfl) ?_
   repeat ((refine bE (v:= ?_) rfl rfl (fun _ _ _ h=>h) rfl (fun W b=> ?_) ?_);rotate_left;(focus ((try dsimp only at b);have p0:=(b.cell (p:=⟨k,0,none⟩) f y.out.2.1).trans P;have p1:=(b.cell (p:=⟨k,1,none⟩) f y.out.2.1).trans M;have p2:=aA f b.size;have p3:=aA Y b.size;(go_simp;first|done|with_reducible rfl)));(try simp only[Act.put,ak,ay,ax]))
   refine bT rfl rfl rfl ?_;intro K R;go_simp
   have I:Keep (· =a) c (c.setCell ⟨a,0,none⟩ (.string iQ)):=(Keep.refl (· =a) c).setCell (p:=⟨a,0,none⟩) (.inr rfl) _
   refine R.out _ _ (I.as rfl rfl rfl rfl) ?_
   (try simp only[Act.put,ak,ay,ax])
   repeat ((refine bE (v:= ?_) rfl rfl (fun _ _ _ h=>h) rfl (fun W b=> ?_) ?_);rotate_left;(focus ((try dsimp only at b);have p0:=(b.cell (p:=⟨k,0,none⟩) f y.out.2.1).trans P;have p1:=(b.cell (p:=⟨k,1,none⟩) f y.out.2.1).trans M;have p2:=aA f b.size;have p3:=aA Y b.size;(go_simp;first|done|with_reducible rfl)));(try simp only[Act.put,ak,ay,ax]))
   refine bT rfl rfl rfl ?_;intro K R;go_simp
   refine R.out _ _ (((I.setCell (p:=⟨a,1,none⟩) (.inr rfl) (.string pE))).as rfl rfl rfl rfl) ?_
   refine bN ?_
   go_end0
   have V:Keep (· =a) c ((c.setCell ⟨a,0,none⟩ (.string iQ)).setCell ⟨a,1,none⟩ (.string pE)):=I.setCell (p:=⟨a,1,none⟩) (.inr rfl) _
   have H:je ((c.setCell ⟨a,0,none⟩ (.string iQ)).setCell ⟨a,1,none⟩ (.string pE)) a iQ pE (.slice none 0 0) ⟨#[]⟩ false:=by
    have:=y.out.1
    unfold je at this ⊢
    simp[World.setCell,aK,this]
   have Q:Keep (fun g=>g=d\/g=a) w c:=(G.out.2.2.2.mono fun _ _ e=> .inl e).trans (Keep.of_below O.out.2 (fun _=>False)) (fun _ _ e=>e.elim)
   have N:=(G.out.1.keep (Keep.of_below O.out.2 (fun _=>False)) id).keep V E.out.2.2.2
   exact⟨rfl,N,H,(Q.trans V (fun _ _ e=> .inr e)).as rfl rfl rfl rfl⟩
structure QT (l n v n' v':ByteArray):Prop where
 ls:l.size<=1000
 le:l.toList.isEmpty=false
 cut:Lib.cut l.data.toList [58]=(n.data.toList,v.data.toList,true)
 ns:n.size<=1000
 n0:(n.toList==[])=false
 nt:n.data.toList.all Ro=true
 na:(n.data.toList.all fun b=>decide (b.toNat<128))=true
 vs:v.size<=1000
 vt:v.data.toList.all LW=true
 lw:Lib.toLowerA n.data.toList=n'.data.toList
 tr:Lib.trimS v.data.toList [32,9]=v'.data.toList
theorem GQ:(Tryz.prog.info? 162).map (fun i=>(i.zero,i.size,i.bytes))=some (some (.agg #[.string ⟨#[]⟩,.string ⟨#[]⟩]),2,32):=by kernel_rfl
structure IB (w0 w:World)(rb qb:Nat)(s m t:ByteArray)(u:Nat)(hv:Value)(hs:List Pr):Prop where
 rd:qF w rb s u
 rq:je w qb m t hv ⟨#[]⟩ false
 own:aV w eG w0.heap.size 162 2 hv hs.length (dG hs)
 kp:Keep (fun g=>g=rb\/g=qb) w0 w
theorem IB.below {c w w':World}{d f:Nat}{s m t:ByteArray}{u:Nat}{b:Value}{g:List Pr}(h:IB c w d f s m t u b g)(a:Below w.heap.size w w'):IB c w' d f s m t u b g:=
 ⟨h.rd.keep (Keep.of_below a (fun _=>False)) id,h.rq.keep (Keep.of_below a (fun _=>False)) id,h.own.below a,h.kp.trans (Keep.of_below a (fun _=>False)) (fun _ _ e=>e.elim)⟩
theorem Og (r b:Nat)(s m t:ByteArray)(N:Nat)(U Z:Nat->Nat)(H:Nat->List Pr)(o fr bk:ByteArray)(w:World)(h:qF w r s (U 0))(hq:je w b m t (.slice none 0 0) ⟨#[]⟩ false)(fo:r≠b)(hm:jV w)(jb:3≠r/\3≠b)
  (h0:H 0=[]) (af:Z 0=0) (hE:vI s (U N) 1 o fr bk ⟨#[]⟩) (hN:N<=20/\Z N<=4000)
  (hH:∀j,j<N->∃i o fr bk l n v n' v',vI s (U j) i o fr bk l/\QT l n v n' v'/\U (j+1)=U j+i+1/\Z (j+1)=Z j+(l.size+2)/\Z (j+1)<=Z N/\H (j+1)=H j++[(n',v')]/\(H j).length=j) (iO:(H N).length=N):
  Calls Tryz.prog 203 #[.pointer (some ⟨r,0,none⟩),.pointer (some ⟨b,0,none⟩)] w fun e w'=>e= .returned (.tuple #[])/\∃hv,IB w w' r b s m t (U N+2) hv (H N):=by
 have y:=ah (au hH (au hE (au hN (au hm (au jb (au fo iO))))))
 have hS:IB w w r b s m t (U 0) (.slice none 0 0) (H 0):=⟨h,hq,by rw[h0];exact aV.nil _ _ _ _ _,Keep.refl _ _⟩
 have ai:=ah (au hS af)
 clear h hq h0 af hE hN hH hm jb fo hS iO
 go_enter Tryz.func203,Tryz.ntmps203
 go_wp2
 go_loopw [4,5,6,7,8] (fun z _ _ _ _ wr=>∃(j:Nat) (hv:Value),j<=N/\z= .int .i64 (Z j)/\IB w wr r b s m t (U j) hv (H j)) (fun z _ _ _ _ _=>Z N - (intOf z).toNat)
 case atStart=>exact⟨0,_,aR _,by rw[ai.out.2];rfl,ai.out.1⟩
 case round=>
  obtain⟨j,hv,hj,rfl,hA⟩:=hrel
  have qo:jV wr:=y.out.2.2.2.1.keep hA.kp (fun e=>e.elim y.out.2.2.2.2.1.1 y.out.2.2.2.2.1.2)
  by_cases j3:j<N
  ·obtain⟨i,qy,jv,j4,l,n,v,n',v',hl,hL,eU,eZ,di,eH,eL⟩:=y.out.1 j j3
   have HL:=ah (Od r s (U j) i qy jv j4 l 431 400 wr hA.rd hl)
   have a:=ah (au hA (au qo (au hL (au eU (au eZ (au di (au eH eL)))))))
   have e1:=hL.le
   have x0:=y.out.2.2.1
   have y1:IntKind.i64.wrap ((l.size:Int)+2)=(l.size:Int)+2:=by rw[bX];have:=hL.ls;omega
   have y2:IntKind.i64.wrap ((Z j:Int)+((l.size:Int)+2))=(Z (j+1):Int):=by rw[bX];omega
   have y3:¬((4096:Int)<(Z (j+1):Int)):=by omega
   obtain⟨zj,qm⟩:∃x:Nat,Hid (Z j=x):=⟨_,ah rfl⟩
   obtain⟨zk,J⟩:∃x:Nat,Hid (Z (j+1)=x):=⟨_,ah rfl⟩
   rw[qm.out,J.out] at y2
   rw[J.out] at y3
   rw[qm.out]
   clear hA qo hl hL eU eZ di eH eL x0
   go_wp2_with (first
    |(go_at_call 310;go_must (refine HL.out.mono ?_;rintro e w1 ⟨rfl,I,f⟩;refine Stop.of ?_)))
   refine Stop.on ?_
   have O:IB w w1 r b s m t (U (j+1)) hv (H j):=⟨by rw[a.out.2.2.2.1];exact I,a.out.1.rq.keep f (fun e=>y.out.2.2.2.2.2.1 e.symm),a.out.1.own.keep fun g M G F=>⟨f.block g G (fun e=>by
    have e:g=r:=e
    subst e
    exact a.out.1.own.ne (show wr.heap[g]? =_ from a.out.1.rd) (by decide) M),F⟩,a.out.1.kp.trans f (fun _ _ e=> .inl e)⟩
   have av:=a.out.2.1.keep f y.out.2.2.2.2.1.1
   have p9:=ah (au O av)
   obtain⟨_,_,q2,_,_,qf,lq⟩:=O.rq.cells
   obtain⟨ho,hc,rfl,_,_,_,_⟩:=bq.form O.own.dM
   have y4:((j:Int)==32)=false:=by simp;have:=y.out.2.2.1;omega
   have eL:=a.out.2.2.2.2.2.2.2
   rw[eL] at q2 p9
   clear I f O av eL
   go_wp2_with (first
    |(go_at_call 253;go_must (refine(Sb l ⟨#[58]⟩ _ n v p9.out.2 (by have:=a.out.2.2.1.ls;omega) a.out.2.2.1.cut).mono ?_;rintro e w2 ⟨rfl,nd,rfl⟩;refine Stop.of ?_)))
   refine Stop.on ?_
   go_wp2_with (first
    |(go_at_call 311;go_must (refine(NZ n _ (by have:=a.out.2.2.1.ns;omega) a.out.2.2.1.n0 a.out.2.2.1.nt).mono ?_;rintro e S ⟨rfl,hw⟩;subst S))
    |(go_at_call 312;go_must (refine(wall 316 v _ (by have:=a.out.2.2.1.vs;omega) (fun _ _=>by kernel_rfl) LW a.out.2.2.1.vt XK).mono ?_;rintro e S ⟨rfl,hw⟩;subst S)))
   obtain⟨w2,bg⟩:∃x:World,Hid (w1.drewN nd=x):=⟨_,ah rfl⟩
   rw[bg.out]
   have q:=p9.out.1.below (below_drewN (aJ w1.heap.size w1) nd)
   rw[bg.out] at q
   obtain⟨_,_,q8,_,_,kC,q9⟩:=q.rq.cells
   have E:=q.own
   rw[a.out.2.2.2.2.2.2.2] at E
   have ko:=q.kp.size
   have A:=ah (au q E)
   clear q2 qf lq q E
   have k:∀W W':World,Below W.heap.size W W'->(W.cell? ⟨b,2,none⟩=some (.slice ho j hc)/\b<W.heap.size)->(W'.cell? ⟨b,2,none⟩=some (.slice ho j hc)/\b<W'.heap.size):=fun W W' hb h=>⟨(hb.cell (p:=⟨b,2,none⟩) h.2).trans h.1,aA h.2 hb.size⟩
   refine aP (fun W=>W.cell? ⟨b,2,none⟩=some (.slice ho j hc)/\b<W.heap.size) (fun i=> !([6,8,10,11,14].contains i)) [0,1,2,3,4,5,7,6,8,9,10,11,12,13,14] rfl (by kernel_rfl) ⟨q8,q9⟩ ?_
   repeat ((refine bE (v:= ?_) rfl rfl (fun _ _ _ h=>h) rfl (fun W d=> ?_) ?_);rotate_left;(focus ((try dsimp only at d);have p0:=d.1;have p1:=d.2;(go_simp;first|done|with_reducible rfl)));(try simp only[Act.put,ak,ay,ax]))
   refine bT rfl rfl rfl ?_;intro K P;go_simp
   refine(Dx n _ n' (by have:=a.out.2.2.1.ns;omega) a.out.2.2.1.na a.out.2.2.1.lw).mono ?_;rintro e S ⟨rfl,B⟩
   have B:Below w2.heap.size w2 S:=(aJ w2.heap.size w2).drew.trans B
   have dM:=k w2 S B ⟨q8,q9⟩
   refine P.out _ _ dM ?_
   (try simp only[Act.put,ak,ay,ax])
   repeat ((refine bE (v:= ?_) rfl rfl (fun _ _ _ h=>h) rfl (fun W d=> ?_) ?_);rotate_left;(focus ((try dsimp only at d);have p0:=d.1;have p1:=d.2;(go_simp;first|done|with_reducible rfl)));(try simp only[Act.put,ak,ay,ax]))
   refine bT rfl rfl rfl ?_;intro K P;go_simp
   refine(Gt v ⟨#[32,9]⟩ S v' (by have:=a.out.2.2.1.vs;omega) (by decide) (by decide) a.out.2.2.1.tr).mono ?_;rintro e w4 ⟨rfl,qC⟩
   have d9:=k S w4 qC dM
   refine P.out _ _ d9 ?_
   (try simp only[Act.put,ak,ay,ax])
   repeat ((refine bE (v:= ?_) rfl rfl (fun _ _ _ h=>h) rfl (fun W d=> ?_) ?_);rotate_left;(focus ((try dsimp only at d);have p0:=d.1;have p1:=d.2;(go_simp;first|done|with_reducible rfl)));(try simp only[Act.put,ak,ay,ax]))
   refine bT rfl rfl rfl ?_;intro K P;go_simp
   have bf:=aG w4 (.cells #[.string n',.string v'] 162)
   refine P.out _ _ (k _ _ bf d9) ?_
   (try simp only[Act.put,ak,ay,ax])
   repeat ((refine bE (v:= ?_) rfl rfl (fun _ _ _ h=>h) rfl (fun W d=> ?_) ?_);rotate_left;(focus ((try dsimp only at d);have p0:=d.1;have p1:=d.2;(go_simp;first|done|with_reducible rfl)));(try simp only[Act.put,ak,ay,ax]))
   have c:=B.trans ((qC.trans (bf.mono qC.size)).mono B.size)
   refine bT rfl rfl rfl ?_;intro K P
   refine uI (.tmp 52) (.tmp 58) 71 71 rfl eG w.heap.size 162 2 32 _ Tryz.underlying71 GQ rfl (.slice ho j hc) j _ rfl (A.out.2.below c) (.slice (some ⟨w4.heap.size,0,none⟩) 1 1) 1 [.string n',.string v'] rfl (iB (w:=w4) [.string n',.string v'] 162 2 1 1 rfl Tryz.underlying71 rfl (by intro u hu;simp only[aW,bQ,fJ] at hu;rcases hu with rfl|rfl<;>rfl)) (fun g M=>M.elim) (by have:=c.size;omega) (by have:=y.out.2.2.1;unfold maxLen;omega) (by have:=y.out.2.2.1;omega) ?_
   intro ql c6 w6 D qO kz j6
   have R:=A.out.1.rq.keep (Keep.of_below c (fun _=>False)) id
   have V:=A.out.1.rd.keep (Keep.of_below c (fun _=>False)) id
   have T:=A.out.2.below c
   have pV:=R;have X:=V
   unfold je at pV;unfold qF at X
   have Y:=R.keep qO (fun e=>T.ne pV (by decide) e)
   have dn:=V.keep qO (fun e=>T.ne X (by decide) e)
   obtain⟨_,_,r2,_,_,rf,rl⟩:=Y.cells
   have j5:=rf 2
   refine P.out _ _ ⟨r2,rl⟩ ?_
   (try simp only[Act.put,ak,ay,ax])
   repeat ((refine bE (v:= ?_) rfl rfl (fun _ _ _ h=>h) rfl (fun W d=> ?_) ?_);rotate_left;(focus ((try dsimp only at d);have p0:=d.1;have p1:=d.2;(go_simp;first|done|with_reducible rfl)));(try simp only[Act.put,ak,ay,ax]))
   refine jR rfl rfl rfl (by kernel_rfl) ?_;intro K P;go_simp
   have qc:Keep (· =b) w6 (w6.setCell ⟨b,2,none⟩ (.slice ql (j+1) c6)):=(Keep.refl (· =b) w6).setCell (p:=⟨b,2,none⟩) (.inr rfl) _
   refine P.out _ _ (bN ?_)
   have C:=Y
   unfold je at C
   have Q:IB w (w6.setCell ⟨b,2,none⟩ (.slice ql (j+1) c6)) r b s m t (U (j+1)) (.slice ql (j+1) c6) (H (j+1)):=by
    refine⟨dn.keep qc y.out.2.2.2.2.2.1,?_,?_,((A.out.1.kp.trans (Keep.of_below c (fun _=>False)) (fun _ _ e=>e.elim)).trans (qO.mono (fun g hl e=>(A.out.2.1.lt g e).1):Keep (fun g=>w.heap.size<=g) _ _) (fun g M e=>absurd M (aX.2 e))).trans qc (fun _ _ e=> .inr e)⟩
    ·unfold je
     simp[World.setCell,aK,C]
    ·rw[a.out.2.2.2.2.2.2.1,aB,a.out.2.2.2.2.2.2.2,nW]
     exact D.keep fun g M G F=>⟨qc.block g G (fun e=>D.ne C (by decide) (by rw[M];exact congrArg some e)),F⟩
   have HF:=ah Q
   clear Q
   go_wp2
   go_roundw
   case rel=>exact⟨j+1,_,by omega,by rw[J.out],HF.out⟩
   case measure=>simp[intOf];have:=a.out.2.2.2.2.1;have:=a.out.2.2.2.2.2.1;have:=qm.out;have:=J.out;omega
  ·obtain rfl:j=N:=by omega
   have HL:=ah (Od r s (U j) 1 o fr bk ⟨#[]⟩ 431 400 wr hA.rd y.out.2.1)
   have HA:=ah hA
   clear hA qo
   go_wp2_with (first
    |(go_at_call 310;go_must (refine HL.out.mono ?_;rintro e w1 ⟨rfl,I,f⟩;refine Stop.of ?_)))
   refine Stop.on ?_
   go_wp2_with fail
   refine dJ (results_none rfl _ _ _) rfl ?_
   exact⟨rfl,hv,I,HA.out.rq.keep f (fun e=>y.out.2.2.2.2.2.1 e.symm),HA.out.own.keep fun g M G F=>⟨f.block g G (fun e=>by
    have e:g=r:=e
    subst e
    exact HA.out.own.ne (show wr.heap[g]? =_ from HA.out.rd) (by decide) M),F⟩,HA.out.kp.trans f (fun _ _ e=> .inl e)⟩
def V3:ByteArray:=⟨#[99,111,110,116,101,110,116,45,108,101,110,103,116,104]⟩
def XV:ByteArray:=⟨#[116,114,97,110,115,102,101,114,45,101,110,99,111,100,105,110,103]⟩
def Dn:ByteArray:=⟨#[104,111,115,116]⟩
theorem Wq (E a:Nat)(s m t:ByteArray)(u n:Nat)(q:Value)(c:List Pr)(k p:ByteArray)(w:World)(h:qF w E s u)(hq:je w a m t q ⟨#[]⟩ false)(hh:lJ w q c)(hl:c.length<=1000)(Q:E≠a)
  (hc:kN c V3=[k]) (ht:kN c XV=[]) (S:(kN c Dn).length=1) (T:k.size<=18/\k.toList.isEmpty=false/\k.data.toList.all SH=true/\Lib.atoi k.data.toList=some (n:Int)) (hn:n<=8192) (hu:u+n<=s.size) (R:s.size<=1000000) (hp:s.extract u (u+n)=p):
  Calls Tryz.prog 204 #[.pointer (some ⟨E,0,none⟩),.pointer (some ⟨a,0,none⟩)] w fun e w'=>e= .returned (.tuple #[])/\qF w' E s (u+n)/\je w' a m t q p false/\Keep (fun g=>g=E\/g=a) w w':=by
 have h1:=AA a m t q ⟨#[]⟩ false c V3 w hq hh hl
 rw[hc] at h1
 have HV:=ah h1
 have b:=ah (au h (au hq (au hh (au hl (au Q (au ht (au S (au hu (au R hp)))))))))
 have Z:=ah T
 have x1:¬((8192:Int)<(n:Int)):=by omega
 unfold V3 at HV
 clear h hq hh hl Q hc ht S hu R hp h1
 go_enter Tryz.func204,Tryz.ntmps204
 go_wp2_with (first
  |(go_at_call 317;go_must (refine HV.out.mono ?_;rintro e w1 ⟨v1,rfl,B,j⟩;refine Stop.of ?_)))
 refine Stop.on ?_
 have G:=b.out.2.1.keep (Keep.of_below j (fun _=>False)) id
 have z:lJ w1 q c:=bq.below b.out.2.2.1 j
 have h2:=AA a m t q ⟨#[]⟩ false c XV w1 G z b.out.2.2.2.1
 rw[b.out.2.2.2.2.2.1] at h2
 have W:=ah h2
 unfold XV at W
 obtain⟨ao,ac,rfl,_,_,_,_⟩:=bq.form B.dM
 have i:=ah (au B (au j (au G z)))
 clear B j G z h2
 go_wp2_with (first
  |(go_at_call 317;go_must (refine W.out.mono ?_;rintro e w2 ⟨v2,rfl,V,o⟩;refine Stop.of ?_)))
 refine Stop.on ?_
 have y:=i.out.2.2.1.keep (Keep.of_below o (fun _=>False)) id
 have K:lJ w2 q c:=bq.below i.out.2.2.2 o
 have h3:=AA a m t q ⟨#[]⟩ false c Dn w2 y K b.out.2.2.2.1
 have X:=ah h3
 unfold Dn at X
 obtain⟨bo,bc,rfl,_,_,_,_⟩:=bq.form V.dM
 have D:=ah (au o y)
 clear V o y K h3
 go_wp2_with (first
  |(go_at_call 317;go_must (refine X.out.mono ?_;rintro e w3 ⟨v3,rfl,H,v⟩;refine Stop.of ?_)))
 refine Stop.on ?_
 obtain⟨co,cc,rfl,_,_,_,_⟩:=bq.form H.dM
 have e3:(kN c ⟨#[104,111,115,116]⟩).length=1:=b.out.2.2.2.2.2.2.1
 have f:=D.out.1.trans (v.mono D.out.1.size)
 obtain⟨ab,ai,rfl,d0⟩:=(i.out.1.below f).dM.Cq rfl 0 (.string k) rfl
 have ld:=aD w3 _ d0
 have r:=i.out.2.1.trans (f.mono i.out.2.1.size)
 have N:=D.out.2.keep (Keep.of_below v (fun _=>False)) id
 have A:=ah (au r N)
 obtain⟨c1,c2,c3,c4⟩:=T
 have y1:¬((18:Int)<(k.size:Int)):=by omega
 rw[jD] at d0
 clear H v f r N c1 c3 c4
 go_wp2_with (first
  |(go_at_call 312;go_must (refine(wall 315 k _ (by have:=Z.out.1;omega) (fun _ _=>by kernel_rfl) SH Z.out.2.2.1 Ol).mono ?_;rintro e w4 ⟨rfl,hw⟩;subst w4))
  |(go_at_call 265;go_must (refine(PV k _ n Z.out.1 Z.out.2.2.2).mono ?_;rintro e w4 ⟨rfl,F⟩;refine Stop.of ?_)))
 refine Stop.on ?_
 have d:=A.out.1.trans (F.mono A.out.1.size)
 have P:=A.out.2.keep (Keep.of_below F (fun _=>False)) id
 have I:=b.out.1.keep (Keep.of_below d (fun _=>False)) id
 have HT:=ah (Wj E s u n p w4 I b.out.2.2.2.2.2.2.2.1 b.out.2.2.2.2.2.2.2.2.1 b.out.2.2.2.2.2.2.2.2.2)
 have M:=ah (au d P)
 clear F d P I d0 ld
 go_wp2_with (first
  |(go_at_call 320;go_must (refine HT.out.mono ?_;rintro e Y ⟨rfl,J,C⟩;refine Stop.of ?_)))
 refine Stop.on ?_
 have l:=M.out.2.keep C (fun e=>b.out.2.2.2.2.1 e.symm)
 obtain⟨_,_,_,q3,_,qf,lq⟩:=l.cells
 have pV:=qf 3
 have x:Keep (· =a) Y (Y.setCell ⟨a,3,none⟩ (.string p)):=(Keep.refl (· =a) Y).setCell (p:=⟨a,3,none⟩) (.inr rfl) _
 have O:je (Y.setCell ⟨a,3,none⟩ (.string p)) a m t q p false:=by
  unfold je at l ⊢
  simp[World.setCell,aK,l]
 have hf:=ah (au (J.keep x b.out.2.2.2.2.1) (au O (((Keep.of_below M.out.1 (fun g=>g=E\/g=a)).trans C (fun _ _ e=> .inl e)).trans x (fun _ _ e=> .inr e))))
 clear l x O J C qf
 go_wp2_with fail
 go_end0
 exact⟨rfl,hf.out.1,hf.out.2.1,hf.out.2.2⟩
end Go.Proofs.YtpmbddooibgnaaaGreatDoor
namespace Go.Proofs.YtpmbddooibgnaaaGreatDoor
open Go.RowKit
def lI (w:World)(e k:Nat)(v:Value)(n:Nat)(xs:List Value):Prop:=
 xs.length=n*k/\((v= .slice none 0 0/\n=0)\/∃g off cap cur,v= .slice (some ⟨g,off,none⟩) n cap/\Row w g e cur/\n<=cap/\cap<=maxLen/\off+cap*k<=cur.length/\(cur.drop off).take (n*k)=xs)
theorem lI.nil (w:World)(e k:Nat):lI w e k (.slice none 0 0) 0 []:=⟨by simp,.inl ⟨rfl,rfl⟩⟩
theorem lI.lt {w:World}{e k n:Nat}{v:Value}{d:List Value}(h:lI w e k v n d){g:Nat}(a:v.ownBlock=some g):g<w.heap.size:=by
 rcases h.2 with ⟨rfl,_⟩|⟨j,b,f,c,rfl,i,_⟩
 ·cases a
 ·cases a;exact i.lt
theorem lI.dM {w:World}{S:Nat->Prop}{e k n:Nat}{v:Value}{b:List Value}(h:lI w e k v n b)(j:∀g,v.ownBlock=some g->¬S g):bq w S k v n b:=by
 obtain⟨o,c⟩:=h
 rcases c with ⟨rfl,rfl⟩|⟨g,off,a,f,rfl,c,d,i,p,m⟩
 ·have:b=[]:=bK (by simpa using o)
  subst this;exact bq.nil _ _ _
 ·have l:n*k<=a*k:=dw _ d
  have:=c.dM (S:=S) (k:=k) (off:=off) n a (by omega) (j g rfl) d i
  rwa [m] at this
theorem lI.keep {w w':World}{e k n:Nat}{v:Value}{f:List Value}(h:lI w e k v n f)(j:∀g,v.ownBlock=some g->w'.heap[g]? =w.heap[g]?):lI w' e k v n f:=by
 obtain⟨i,d⟩:=h
 rcases d with ⟨rfl,rfl⟩|⟨g,a,c,b,rfl,d,l⟩
 ·exact⟨i,.inl ⟨rfl,rfl⟩⟩
 ·exact⟨i,.inr ⟨g,a,c,b,rfl,(j g rfl).trans d,l⟩⟩
theorem lI.after {w:World}{e k n c:Nat}{m:Option Addr}{j:List Value}(h:lI w e k (.slice m n c) n j)(i:Nat)(A:i<=n):
  lI w e k (.slice (if c=i then m else m.map fun x=>x.add (i*k)) (n - i) (c - i)) (n - i) (j.drop (i*k)):=by
 obtain⟨t,f⟩:=h
 have a:(j.drop (i*k)).length=(n - i)*k:=by rw[bG,t,Nat.sub_mul]
 refine⟨a,?_⟩
 rcases f with ⟨l,rfl⟩|⟨g,d,v,b,l,f,z,y,B,s⟩
 ·cases l
  obtain rfl:i=0:=by omega
  exact .inl ⟨by simp,by omega⟩
 ·cases l
  have o:(n - i)*k<=(c - i)*k:=dw _ (by omega)
  have r:(c - i)*k+i*k=c*k:=by rw[<-fB];congr 1;omega
  by_cases p:c=i
  ·refine .inr ⟨g,d,c - i,b,by rw[if_pos p],f,by omega,by omega,by omega,?_⟩
   have q:n - i=0:=by omega
   rw[q,Fj,gT]
   exact(bK (by rw[a,q,Fj])).symm
  ·refine .inr ⟨g,d+i*k,c - i,b,by rw[if_neg p];simp[iA],f,by omega,by omega,by omega,?_⟩
   rw[<-s,nQ,nR,<-Nat.sub_mul]
section
variable {P:Program}
theorem Ry (w:World)(t M W e:TypeId)(i:TypeInfo)(z:Value)(k A:Nat)(O:P.underlying t=some (.slice e))(N:P.info? e=some i)(hz:i.zero=some z)
  (E:i.size=k) (S:i.bytes=A) (Z:z.cells.size=k)
  (v:Value) (n:Nat) (q:List Value) (p:lI w e k v n q) (x:Value) (m:Nat) (a:List Value) (r:Src P k M x m a w)
  (F:n+m<=maxLen) (o:(n+m)*A<=140737488355328):
  ∃K c I,(Builtin.append_ #[t,M] W #[v,x]).run P w= .ok (.slice K (n+m) c) I/\lI I e k (.slice K (n+m) c) (n+m) (q++a)/\Keep (fun g=>v.ownBlock=some g) w I/\
   ((Value.slice K (n+m) c).ownBlock=v.ownBlock\/∃g,(Value.slice K (n+m) c).ownBlock=some g/\w.heap.size<=g):=by
 subst E
 subst S
 have R:n+m<=9223372036854775807:=by simp only[maxLen] at F;omega
 have d:(q++a).length=(n+m)*i.size:=by rw[aB,p.1,r.newsLen,fB]
 have s:∀(b:Nat),b<n+m->
   lI (w.drew.alloc (.cells ((q++a).toArray++Builtin.zeroCells z.cells (grownCap w (n+m) b e - (n+m))) e)) e i.size
    (.slice (some ⟨w.heap.size,0,none⟩) (n+m) (grownCap w (n+m) b e)) (n+m) (q++a)/\
   Keep (fun g=>v.ownBlock=some g) w (w.drew.alloc (.cells ((q++a).toArray++Builtin.zeroCells z.cells (grownCap w (n+m) b e - (n+m))) e)):=by
  intro b ho
  have V:=QZ w (n+m) b e
  have C:grownCap w (n+m) b e<=maxLen:=tT w (n+m) b e F
  have J:Row (w.drew.alloc (.cells ((q++a).toArray++Builtin.zeroCells z.cells (grownCap w (n+m) b e - (n+m))) e)) w.heap.size e ((q++a)++(Builtin.zeroCells z.cells (grownCap w (n+m) b e - (n+m))).toList):=by
   have:=aH w.drew (.cells ((q++a).toArray++Builtin.zeroCells z.cells (grownCap w (n+m) b e - (n+m))) e)
   unfold Row
   rw[show (w.heap.size)=w.drew.heap.size from rfl,this]
   congr 2
   apply Ec.1
   simp
  refine⟨⟨d,.inr ⟨w.heap.size,0,_,_,rfl,J,V,C,?_,?_⟩⟩,(Keep.refl _ w).drew.alloc _⟩
  ·rw[aB,d,qN,QY,Z,fZ,<-fB]
   exact eO (congrArg (· *i.size) (by omega))
  ·rw[dY,<-d]
   exact jc
 rcases p.2 with ⟨rfl,rfl⟩|⟨g,off,f,T,rfl,hg,p9,C,qc,B⟩
 ·have hx:q=[]:=bK (by simpa using p.1)
  subst hx
  by_cases hm:m=0
  ·subst hm
   have hn:a=[]:=bK (by simpa using r.newsLen)
   subst hn
   refine⟨none,0,w,?_,lI.nil w e i.size,Keep.refl _ _,.inl rfl⟩
   rcases r.kind with ⟨e',D⟩|D<;>simp[Builtin.append_,gX O,gX D,sizeOf,typeInfo,N,r.len,r.cells]
  ·have X:=rT (P:=P) w t M W e i z O N hz none 0 0 [] (run_firstCells_none w.drew i.size 0 0 0) x m a r (by omega) (by omega) (vL (by omega) o)
   have y:=s 0 (by omega)
   exact⟨_,_,_,X,y.1,y.2,.inr ⟨_,rfl,aC _⟩⟩
 ·by_cases l:n+m<=f
  ·have pV:(n+m)*i.size<=f*i.size:=dw _ l
   have qb:n*i.size+a.length=(n+m)*i.size:=by rw[r.newsLen,fB]
   have G:(off+n*i.size)+a.length<=T.length:=by omega
   obtain⟨I,Y,h2,h3⟩:=sZ (P:=P) (off:=off+n*i.size) hg a G r.one
   refine⟨some ⟨g,off,none⟩,f,I,?_,⟨d,.inr ⟨g,off,f,_,rfl,h2,l,C,?_,?_⟩⟩,h3.mono (fun k' _ D=>by rw[D];rfl),.inl rfl⟩
   ·rcases r.kind with ⟨e',D⟩|D<;>simp[Builtin.append_,gX O,gX D,sizeOf,typeInfo,N,r.len,l,r.cells,iA,Y]
   ·unfold splice
    simp only[aB,aQ,bG]
    omega
   ·unfold splice
    rw[ou (by rw[aQ];omega),nQ,show off+n*i.size - off=n*i.size from by omega,B,<-d,<-bA]
    exact jc
  ·have H:(Builtin.firstCells i.size n (.slice (some ⟨g,off,none⟩) n f)).run P w.drew= .ok q.toArray w.drew:=
    Tt w.drew i.size n ⟨g,off,none⟩ n f q p.1 (fun j u Q=>by
     rw[iA]
     show w.cell? ⟨g,off+j,none⟩=some u
     rw[hg.cell]
     rw[<-B,jf] at Q
     split at Q
     ·simpa using Q
     ·cases Q)
   have X:=rT (P:=P) w t M W e i z O N hz (some ⟨g,off,none⟩) n f q H x m a r (by omega) (by omega) (vL (by omega) o)
   have y:=s f (by omega)
   exact⟨_,_,_,X,y.1,y.2,.inr ⟨_,rfl,aC _⟩⟩
theorem Oa {o:Oper}{a:Act}{w:World}{K:Act->World->Prop}{Q:Exit->Act->World->Prop}(s y:Operand)(t C:TypeId)(I:o.op= .call {callee:= .builtin .append,args:=#[s,y],argTypes:=#[t,C]})
  (e:TypeId) (k b:Nat) (z:Value) (N:P.underlying t=some (.slice e)) (j:(P.info? e).map (fun i=>(i.zero,i.size,i.bytes))=some (some z,k,b)) (E:z.cells.size=k)
  (v:Value) (n:Nat) (D:List Value) (S:a.eval s=v) (r:lI w e k v n D) (x:Value) (m:Nat) (d:List Value) (F:a.eval y=x) (H:Src P k C x m d w)
  (B:n+m<=maxLen) (f:(n+m)*b<=140737488355328)
  (h:∀p c q,lI q e k (.slice p (n+m) c) (n+m) (D++d)->Keep (fun g=>v.ownBlock=some g) w q->
   ((Value.slice p (n+m) c).ownBlock=v.ownBlock\/∃g,(Value.slice p (n+m) c).ownBlock=some g/\w.heap.size<=g)->K (a.put o.dst (.slice p (n+m) c)) q):o.wp P a w K Q:=by
 obtain⟨i,M,R,l,A⟩:=xC j
 obtain⟨p,c,q,O,G,T,J⟩:=Ry (P:=P) w t C o.type e i z k b N M R l A E v n D r x m d H B f
 unfold Oper.wp execOp
 simp only[I,resolve,invoke,builtin,lU,Az,ja,wm,eP,oz,S,F,O]
 exact h p c q G T J
theorem I8 {q:Array Oper}{j:List Oper}{o:Oper}{a:Act}{w:World}{Q:Exit->Act->World->Prop}(C:o.guard=none)(s y:Operand)(t D:TypeId)(J:o.op= .call {callee:= .builtin .append,args:=#[s,y],argTypes:=#[t,D]})
  (e:TypeId) (k b:Nat) (z:Value) (M:P.underlying t=some (.slice e)) (l:(P.info? e).map (fun i=>(i.zero,i.size,i.bytes))=some (some z,k,b)) (F:z.cells.size=k)
  (v:Value) (n:Nat) (E:List Value) (O:a.eval s=v) (A:lI w e k v n E) (x:Value) (m:Nat) (d:List Value) (G:a.eval y=x) (I:Src P k D x m d w)
  (B:n+m<=maxLen) (f:(n+m)*b<=140737488355328)
  (h:∀p c r,lI r e k (.slice p (n+m) c) (n+m) (E++d)->Keep (fun g=>v.ownBlock=some g) w r->
   ((Value.slice p (n+m) c).ownBlock=v.ownBlock\/∃g,(Value.slice p (n+m) c).ownBlock=some g/\w.heap.size<=g)->wpList P q Q j (a.put o.dst (.slice p (n+m) c)) r):wpList P q Q (o::j) a w:=
 wpList_plain C fun _ N=>Oa s y t D J e k b z M l F v n E O A x m d G I B f fun p c r H R K=>N _ _ (h p c r H R K)
end
theorem Row.range {w:World}{g e off n:Nat}{a c:List Value}(h:Row w g e a)(d:(a.drop off).take n=c):w.rangeAt g off c:=fun j v b=>by
 rw[h.cell]
 rw[<-d,jf] at b
 split at b
 ·simpa using b
 ·cases b
theorem Row.whole {w:World}{g e:Nat}{a:List Value}(h:Row w g e a):w.rangeAt g 0 a:=fun j v b=>by
 rw[h.cell,fZ];exact b
theorem Row.new (w:World)(a:List Value)(e:Nat):Row (w.alloc (.cells a.toArray e)) w.heap.size e a:=aH w _
section
variable {P:Program} {a:Act} {w:World} {K:Act->World->Prop} {Q:Exit->Act->World->Prop} {o:Oper}
theorem gZ (t:TypeId)(e:o.op= .alloc t)(b:List Value)(c:∀w,(zeroValue t).run P w= .ok (.agg b.toArray) w)
  (h:K (a.put o.dst (.pointer (some ⟨w.heap.size,0,none⟩))) (w.alloc (.cells b.toArray t))):o.wp P a w K Q:=by
 unfold Oper.wp execOp
 have d:(Instr.alloc t true (.tuple #[])).run P w= .ok (.pointer (some ⟨w.heap.size,0,none⟩)) (w.alloc (.cells b.toArray t)):=by
  simp[Instr.alloc,c,newVar,newRow,Value.cells]
 simp only[e,lU,d,ja]
 exact h
theorem A9 (t:TypeId)(x:Operand)(e:o.op= .box t x)(b:List Value)(d:a.eval x= .agg b.toArray)
  (h:K (a.put o.dst (.pointer (some ⟨w.heap.size,0,none⟩))) (w.alloc (.cells b.toArray t))):o.wp P a w K Q:=by
 unfold Oper.wp execOp
 have c:(Instr.box t (.agg b.toArray)).run P w= .ok (.pointer (some ⟨w.heap.size,0,none⟩)) (w.alloc (.cells b.toArray t)):=by
  simp[Instr.box,newVar,newRow,Value.cells]
 simp only[e,d,lU,c,ja]
 exact h
theorem xI (t:TypeId)(b:Array (Nat×Operand))(d:o.op= .build t b)(c:List Value)(e:P.built t (b.map fun (i,x)=>(i,a.eval x)).toList=some c.toArray)
  (h:K (a.put o.dst (.agg c.toArray)) w):o.wp P a w K Q:=by
 unfold Oper.wp execOp
 simp only[d,lU,run_build w t _ c.toArray e,ja]
 exact h
theorem Ar {g c e:Nat}{a:List Value}(o:Row w g e a)(j:TypeId)(b:List Value)(m:(P.info? j).map (·.size)=some b.length)(d:c+b.length<=a.length)(q:∀v∈b,v.oneCell'=true):
  ∃f,(Instr.storeAt j (.pointer (some ⟨g,c,none⟩)) (.agg b.toArray)).run P w= .ok () f/\Row f g e (splice a c b)/\Keep (· =g) w f:=by
 obtain⟨f,l,r,p⟩:=sZ (P:=P) o b d q
 refine⟨f,?_,r,p⟩
 cases k:P.info? j with
 |none=>simp[k] at m
 |some i=>
  have n:i.size=b.length:=by simpa [k] using m
  simp[Instr.storeAt,Instr.sureAddr,storeVar,sizeOf,typeInfo,k,Value.cells,n,l]
theorem wp_store_row (j:TypeId)(x y:Operand)(n:o.op= .store j x y)(g c e:Nat)(b d:List Value)(l:a.eval x= .pointer (some ⟨g,c,none⟩))(q:a.eval y= .agg d.toArray)
  (s:Row w g e b) (r:(P.info? j).map (·.size)=some d.length) (f:c+d.length<=b.length) (p:∀v∈d,v.oneCell'=true)
  (h:∀i,Row i g e (splice b c d)->Keep (· =g) w i->K (a.put o.dst undef) i):o.wp P a w K Q:=by
 obtain⟨i,k,m,t⟩:=Ar (P:=P) s j d r f p
 unfold Oper.wp execOp
 simp only[n,l,q,lU,k,ja]
 exact h i m t
theorem qW (t e:TypeId)(y:Operand)(j:o.op= .buildSlice t 1 #[(0,y)])(k:Nat)(d:List Value)(l:a.eval y= .agg d.toArray)(m:d.length=k)(q:0<k)(p:k<=16777216)
  (n:P.underlying t=some (.slice e)) (b:(P.info? e).map (·.size)=some k) (i:((P.info? e).bind (·.zero)).isSome=true)
  (h:K (a.put o.dst (.slice (some ⟨w.heap.size,0,none⟩) 1 1)) (w.alloc (.cells d.toArray e))):o.wp P a w K Q:=by
 cases c:P.info? e with
 |none=>simp[c] at b
 |some g=>
  simp only[c,jJ,Ue,V9] at b i
  obtain⟨z,f⟩:=Option.isSome_iff_exists.1 i
  refine wp_buildSlice t e 1 _ j d.toArray g z n c f (by rw[b];omega) (by rw[b];omega) ?_ h
  have:=Great.fill_whole (s:=k) q [Value.agg d.toArray] ((Array.range (1*g.size)).map (z.cells[· %z.cells.size]!)) (by intro v r;rw[cu.1 r];simp[Value.cells,m]) (by simp[b])
  rw[b]
  rw[b] at this
  simpa [l,Value.cells] using this
theorem jA {W:World}(c:TypeId)(x:Operand)(l:o.op= .load c x)(g b:Nat)(k:a.eval x= .pointer (some ⟨g,b,none⟩))(e:List Value)(d:TypeDesc)(i:W.rangeAt g b e)
  (f:P.underlying c=some d) (j:d.isRow=true) (m:(P.info? c).map (·.size)=some e.length):(execOp a.eval o).run P W= .ok (.value (.agg e.toArray)) W:=by
 unfold execOp
 simp only[l,k,Instr.loadAt,Instr.sureAddr,lU,Az,ja,run_loadVar_mid W g b c e d i f j m]
end
theorem EA (p:Nat×List UInt8):∀v∈(Value.int .i64 (p.1:Int)::aF p.2),v.oneCell'=true:=by
 intro v a
 rcases aW.1 a with rfl|a
 ·rfl
 ·exact fO _ v a
def VK (x:Int):Int:=if (bits .and .u32 x 1==1)=true then bits .xor .u32 (x/2) 2197175160 else x/2
def Qq:Nat->Int->Int
 |0,x=>x
 |k+1,x=>VK (Qq k x)
def AU (x:Int):Int:=Qq 8 x
theorem G9 (x:Int)(w:World):
  Calls Tryz.prog 349 #[.int .u32 x] w fun e g=>e= .returned (.int .u32 (AU x))/\g=w:=by
 go_enter Tryz.func349,Tryz.ntmps349
 go_wp2_with fail
 go_loop [0,4] (fun r i=>∃k:Nat,k<=8/\i= .int .i64 k/\r= .int .u32 (Qq k x)) (fun _ i=>8 - (intOf i).toNat)
 case atStart=>exact⟨0,by omega,rfl,rfl⟩
 case round=>
  obtain⟨k,l,rfl,rfl⟩:=hrel
  by_cases j:k<8
  ·have d:(k:Int)<8:=by omega
   obtain⟨y,a⟩:∃y,y=Qq k x:=⟨_,rfl⟩
   have c:=ah a
   rw[<-a]
   clear a
   go_wp2_with fail
   all_goals
    rename_i b
    have f:=ah b;clear b
    go_round
    case rel=>exact⟨k+1,by omega,by go_num,by rw[show Qq (k+1) x=VK y by rw[c.out];rfl];unfold VK;rw[f.out];rfl⟩
    case measure=>simp[intOf];omega
  ·obtain rfl:k=8:=by omega
   go_wp2_with fail
   go_ret
   exact⟨rfl,rfl⟩
theorem A8 (n:Int):0<=IntKind.u32.wrap n/\IntKind.u32.wrap n<4294967296:=by rw[IntKind.wrap_u32];omega
theorem vF (a:BinOp)(x y:Int):0<=bits a .u32 x y/\bits a .u32 x y<4294967296:=by
 unfold bits
 split<;>exact A8 _
theorem Row.setCell {w:World}{g e:Nat}{a:List Value}(h:Row w g e a)(j:Nat)(v:Value):Row (w.setCell ⟨g,j,none⟩ v) g e (a.set j v):=by
 unfold Row at*
 rw[gF w g j _ _ _ h]
 simp
theorem FO (b c:List Value)(a:Nat)(v:Value)(h:a+c.length<b.length):(splice b a c).set (a+c.length) v=splice b a (c++[v]):=by
 unfold splice
 have d:(b.take a).length=a:=by rw[aQ];omega
 rw[dO _ _ (by omega),d,dD,dO _ _ (aC _),kF,aB,dP,bA]
 congr 2
 rw[dB h,ay,<-mR]
 rfl
def Be (i:Nat):Value:= .int .u32 (AU (i:Int))
def kY:List Value:=(List.range 256).map Be
theorem lY:kY.length=256:=by unfold kY;rw[jM,List.length_range]
theorem zW (k:Nat)(a:k<256):kY[k]? =some (Be k):=by unfold kY;rw[dL,NT a];rfl
theorem El (k:Nat)(a:k<256):kY.take (k+1)=kY.take k++[Be k]:=by
 have h:=zW k a
 rw[List.take_add_one,h];rfl
theorem Qk (b o T:Nat)(d:List Value)(w:World)(y:Row w b T d)(I:o+260<=d.length):
  Calls Tryz.prog 237 #[.pointer (some ⟨b,o,none⟩)] w fun e t=>e= .returned (.tuple #[])/\Row t b T (splice d (o+3) kY)/\Keep (· =b) w t:=by
 have z:=ah y;clear y
 go_enter Tryz.func237,Tryz.ntmps237
 go_wp2_with fail
 go_loopw [3] (fun i wr=>∃k:Nat,k<=256/\i= .int .i64 k/\Row wr b T (splice d (o+3) (kY.take k))/\Keep (· =b) w wr) (fun i _=>256 - (intOf i).toNat)
 case atStart=>exact⟨0,by omega,rfl,by rw[gT];unfold splice;simpa using z.out,Keep.refl _ _⟩
 case round=>
  obtain⟨k,J,rfl,a,c⟩:=hrel
  by_cases A:k<256
  ·have C:(k:Int)<256:=by omega
   have G:IntKind.u32.wrap (k:Int)=(k:Int):=by rw[IntKind.wrap_u32];omega
   have m:(kY.take k).length=k:=by rw[aQ,lY];omega
   have l:o+3+k<(splice d (o+3) (kY.take k)).length:=by
    unfold splice
    simp only[aB,aQ,bG,lY]
    omega
   have H:∀j,wr.drew.frozen? ⟨b,j,none⟩=false:=fun j=>a.frozen j
   obtain⟨x,D⟩:∃x,wr.drew.cell? ⟨b,o+3+k,none⟩=some x:=⟨_,(a.cell _).trans (bB l)⟩
   have f:=a.setCell (o+3+k) (Be k)
   have n:=FO d (kY.take k) (o+3) (Be k) (by rw[m];omega)
   rw[m,<-El k A] at n
   rw[n] at f
   have E:=ah f;have q:=ah c
   clear f n c a m l z
   go_wp2_with fail
   refine aP (fun W=>W=wr.drew) (fun i=> !([4,8].contains i)) [0,1,2,3,5,6,4,7,8] rfl (by kernel_rfl) rfl ?_
   repeat ((refine bE (v:= ?_) rfl rfl (fun _ _ _ h=>h) rfl (fun W p=> ?_) ?_);rotate_left;(focus ((try dsimp only at p);subst p;(go_simp;first|done|with_reducible rfl)));(try simp only[Act.put,ak,ay,ax]))
   refine bT rfl rfl rfl ?_;intro K s;go_simp
   refine(G9 _ _).mono ?_;rintro e B ⟨rfl,F⟩;subst B
   refine s.out _ _ rfl ?_
   repeat ((refine bE (v:= ?_) rfl rfl (fun _ _ _ h=>h) rfl (fun W p=> ?_) ?_);rotate_left;(focus ((try dsimp only at p);subst p;(go_simp;first|done|with_reducible rfl)));(try simp only[Act.put,ak,ay,ax]))
   refine jR rfl rfl rfl (by kernel_rfl) ?_;intro K s;go_simp
   refine s.out _ _ ?_
   refine bN ?_
   go_wp2_with fail
   go_roundw
   case rel=>exact⟨k+1,by omega,by go_num,E.out,(q.out.drew).setCell (.inr rfl) _⟩
   case measure=>simp[intOf];omega
  ·obtain rfl:k=256:=by omega
   have g:kY.take 256=kY:=aL (eO lY)
   rw[g] at a
   have r:=ah a;have q:=ah c
   clear a c g
   go_wp2_with fail
   go_end0
   exact⟨rfl,r.out,q.out⟩
theorem xW (w:World):(callFunc 429 #[]).run Tryz.prog w= .ok (.value (.tuple #[])) w:=run_call_mark0 Tryz.func429 (by kernel_rfl) (by kernel_rfl) (by kernel_rfl) .disable (by kernel_rfl) w
theorem zX (w:World):(callFunc 431 #[]).run Tryz.prog w= .ok (.value (.tuple #[])) w:=run_call_mark0 Tryz.func431 (by kernel_rfl) (by kernel_rfl) (by kernel_rfl) .enable (by kernel_rfl) w
theorem Ev (a:Addr)(w:World):(callFunc 432 #[.pointer (some a)]).run Tryz.prog w= .ok (.value (.tuple #[])) w:=run_call_marked Tryz.func432 (by kernel_rfl) (by kernel_rfl) (by kernel_rfl) .acquire (by kernel_rfl) a w
theorem JI (a:Addr)(w:World):(callFunc 434 #[.pointer (some a)]).run Tryz.prog w= .ok (.value (.tuple #[])) w:=run_call_marked Tryz.func434 (by kernel_rfl) (by kernel_rfl) (by kernel_rfl) .releaseMerge (by kernel_rfl) a w
theorem ug (a:Addr)(x:Value)(u:FrameMode)(w:World)(j:w.cell? a=some x)(i:w.frozen? a=false):
  CallsD Tryz.prog 200 #[.pointer (some a),.bool true] u w fun e f g=>f=u/\(e= .returned (.tuple #[])/\g=w.drew.setCell a (.int .u32 1)):=by
 have b:w.drew.cell? a=some x:=by go_simp
 have c:w.drew.frozen? a=false:=by go_simp
 have d:=run_call_store (P:=Tryz.prog) Tryz.func308 (by kernel_rfl) (by kernel_rfl) (by kernel_rfl) (by kernel_rfl) (k:= .u32) (y:=1) b c
 go_enter_d Tryz.func200,Tryz.ntmps200
 go_wp2
 go_region_calls
 all_goals (go_end0;exact⟨rfl,rfl⟩)
theorem unlock_deferred (a:Addr)(u:FrameMode)(w:World)(b:w.cell? a=some (.int .i32 1))(d:w.frozen? a=false):
  CallsD Tryz.prog 199 #[.pointer (some a)] u w fun e f g=>f=u/\(e= .returned (.tuple #[])/\g=w.setCell a (.int .i32 0)):=by
 have j:=xW
 have k:=zX
 have l:=JI
 have c:=run_call_add (P:=Tryz.prog) Tryz.func435 (by kernel_rfl) (by kernel_rfl) (by kernel_rfl) .i32 (by kernel_rfl) (y:= -1) (s:=0) b d (by simp[go_sem];rfl)
 have i:=run_convert_to_unsafe (P:=Tryz.prog) (src:=560) (dst:=333) Tryz.underlying560 qd (by kernel_rfl) b
 go_enter_d Tryz.func199,Tryz.ntmps199
 go_wp2
 go_end0
 go_wp2
 go_end0
 exact⟨rfl,rfl⟩
theorem lock_free (a:Addr)(w:World)(c:w.cell? a=some (.int .i32 0))(f:w.frozen? a=false):
  Calls Tryz.prog 198 #[.pointer (some a)] w fun e g=>e= .returned (.tuple #[])/\g=w.setCell a (.int .i32 1):=by
 have k:=xW
 have l:=zX
 have j:=Ev
 have d:=run_call_cas_hit (P:=Tryz.prog) Tryz.func430 (by kernel_rfl) (by kernel_rfl) (by kernel_rfl) .i32 (by kernel_rfl) (y:=1) c f
 have b:(w.setCell a (.int .i32 1)).cell? a=some (.int .i32 1):=World.cell?_setCell_same w a _ c
 have i:=run_convert_to_unsafe (P:=Tryz.prog) (src:=560) (dst:=333) Tryz.underlying560 qd (by kernel_rfl) b
 go_enter Tryz.func198,Tryz.ntmps198
 go_wp2
 first|go_end0|(simp only[Exit.inBlock,Exit.then];refine dJ (results_none rfl _ _ _) rfl ?_)|refine dJ (results_none rfl _ _ _) rfl ?_
 go_wp2
 go_end0
 exact⟨rfl,rfl⟩
def AB:List Value:=List.replicate 256 (.int .u32 0)
theorem qj:AB.length=256:=by unfold AB;exact List.length_replicate
def WE (dn:Bool):List Value:=if dn then kY else AB
theorem uK (a:Bool):(WE a).length=256:=by cases a;exact qj;exact lY
def oH (A:List Value)(d s:Value)(R:List Value)(c:Value)(B:List Value):List Value:=A++(d::s:: .int .u32 0::(R++(c::B)))
def gH (A:List Value)(dn:Bool)(c:Int)(B:List Value):List Value:=oH A (.int .u32 (if dn then 1 else 0)) (.int .i32 0) (WE dn) (.int .i64 c) B
theorem Em (A:List Value)(d s:Value)(R:List Value)(c:Value)(B:List Value):(oH A d s R c B)[A.length]? =some d:=by
 unfold oH;rw[bP (aC _),kF];rfl
theorem OH (A:List Value)(d s:Value)(R:List Value)(c:Value)(B:List Value):(oH A d s R c B)[A.length+1]? =some s:=by
 unfold oH;rw[bP (by omega),dD];rfl
theorem UJ (A:List Value)(d s:Value)(R:List Value)(c:Value)(B:List Value)(k:Nat)(a:k<R.length):(oH A d s R c B)[A.length+3+k]? =R[k]? :=by
 unfold oH
 rw[bP (by omega),show A.length+3+k - A.length=k+1+1+1 by omega,dm,dm,dm,fI a]
theorem UI (A:List Value)(d s:Value)(R:List Value)(c:Value)(B:List Value)(a:R.length=256):(oH A d s R c B)[A.length+259]? =some c:=by
 unfold oH
 rw[bP (by omega),show A.length+259 - A.length=256+1+1+1 by omega,dm,dm,dm,bP (by omega),a]
 rfl
theorem Jp (A:List Value)(d s:Value)(R:List Value)(c:Value)(B:List Value)(v:Value):(oH A d s R c B).set A.length v=oH A v s R c B:=by
 unfold oH;rw[dO _ _ (aC _),kF];rfl
theorem Bf (A:List Value)(d s:Value)(R:List Value)(c:Value)(B:List Value)(v:Value):(oH A d s R c B).set (A.length+1) v=oH A d v R c B:=by
 unfold oH;rw[dO _ _ (by omega),dD];rfl
theorem Jq (A:List Value)(d s:Value)(R:List Value)(c:Value)(B:List Value)(v:Value)(a:R.length=256):(oH A d s R c B).set (A.length+259) v=oH A d s R v B:=by
 unfold oH
 rw[dO _ _ (by omega),show A.length+259 - A.length=256+1+1+1 by omega,ax,ax,ax,dO _ _ (by omega),a]
 rfl
theorem Ma (A:List Value)(d s:Value)(R a:List Value)(c:Value)(B:List Value)(h:R.length=a.length):splice (oH A d s R c B) (A.length+3) a=oH A d s a c B:=by
 have e:∀R,oH A d s R c B=(A++[d,s,.int .u32 0])++(R++(c::B)):=fun R=>by unfold oH;simp
 rw[e,e]
 exact vQ _ _ _ _ _ (by simp) h
theorem FL (A:List Value)(d s:Value)(R:List Value)(c:Value)(B:List Value):(oH A d s R c B).length=A.length+4+R.length+B.length:=by
 unfold oH;simp;omega
theorem OT (A B:List Value)(b o T:Nat)(c:Int)(w:World)(J:A.length=o)(F:Row w b T (gH A false c B)):
  Calls Tryz.prog 124 #[.pointer (some ⟨b,o,none⟩),.func (.func 237) #[.pointer (some ⟨b,o,none⟩)] #[]] w fun e v=>e= .returned (.tuple #[])/\Row v b T (gH A true c B)/\Keep (· =b) w v:=by
 subst J
 have d:Row w b T (oH A (.int .u32 0) (.int .i32 0) AB (.int .i64 c) B):=F
 have m:=d.setCell (A.length+1) (.int .i32 1)
 rw[Bf] at m
 have I:w.cell? ⟨b,A.length,none⟩=some (.int .u32 0):=(d.cell _).trans (Em ..)
 have N:w.cell? ⟨b,A.length+1,none⟩=some (.int .i32 0):=(d.cell _).trans (OH ..)
 have Q:w.frozen? ⟨b,A.length,none⟩=false:=d.frozen _
 have M:w.frozen? ⟨b,A.length+1,none⟩=false:=d.frozen _
 have O:=Ff (P:=Tryz.prog) Ud (by kernel_rfl) (by kernel_rfl) (by kernel_rfl) .u32 (by kernel_rfl) (w:=w.setCell ⟨b,A.length+1,none⟩ (.int .i32 1)) (a:=⟨b,A.length,none⟩) (x:=0) ((World.cell?_setCell_other _ ⟨b,A.length+1,none⟩ ⟨b,A.length,none⟩ _ (by simp)).trans I)
 have k:=Qk b A.length T _ _ m (by rw[FL,qj];omega)
 rw[Ma _ _ _ _ _ _ _ (by rw[qj,lY])] at k
 have y:=ah k;clear k
 have H:=ah ((Keep.refl (· =b) w).setCell (p:=⟨b,A.length+1,none⟩) (.inr rfl) (.int .i32 1))
 have G:∀(x:Bool) (w:World),(Op.unary .not (.bool x)).run Tryz.prog w= .ok (.bool (!x)) w:=fun _ _=>rfl
 clear F d m
 go_enter_defers Tryz.func124,Tryz.ntmps124
 go_wp2_with (go_at_call 198;refine(lock_free ⟨b,A.length+1,none⟩ _ (by go_simp) (by go_simp)).mono ?_;rintro e v ⟨rfl,rfl⟩)
 go_wp2_with (go_at_call 123;go_in)
 refine y.out.mono ?_
 rintro e j ⟨rfl,g,n⟩
 have r:j.cell? ⟨b,A.length,none⟩=some (.int .u32 0):=(g.cell _).trans (Em ..)
 have C:j.frozen? ⟨b,A.length,none⟩=false:=g.frozen _
 have i:Row (j.drew.setCell ⟨b,A.length,none⟩ (.int .u32 1)) b T (oH A (.int .u32 1) (.int .i32 1) kY (.int .i64 c) B):=by
  have:=Row.setCell (w:=j.drew) g A.length (.int .u32 1)
  rwa [Jp] at this
 have D:(j.drew.setCell ⟨b,A.length,none⟩ (.int .u32 1)).cell? ⟨b,A.length+1,none⟩=some (.int .i32 1):=(i.cell _).trans (OH ..)
 have z:(j.drew.setCell ⟨b,A.length,none⟩ (.int .u32 1)).frozen? ⟨b,A.length+1,none⟩=false:=i.frozen _
 have l:=i.setCell (A.length+1) (.int .i32 0)
 rw[Bf] at l
 have t:=ah l
 have q:=ah ((((Keep.refl (· =b) j).drew).setCell (p:=⟨b,A.length,none⟩) (.inr rfl) (.int .u32 1)).setCell (p:=⟨b,A.length+1,none⟩) (.inr rfl) (.int .i32 0))
 have s:=ah n
 clear g i l n
 go_wp2_with fail
 refine fe (f:=200) (args:=#[.pointer (some ⟨b,A.length,none⟩),.bool true]) (by simp) (by simp[go_sem]) ?_
 refine(ug ⟨b,A.length,none⟩ (.int .u32 0) .returning _ r C).mono ?_
 rintro e K E ⟨rfl,rfl,rfl⟩
 refine fe (f:=199) (args:=#[.pointer (some ⟨b,A.length+1,none⟩)]) (by simp[settle]) (by simp[go_sem]) ?_
 refine(unlock_deferred ⟨b,A.length+1,none⟩ _ _ D z).mono ?_
 rintro e K E ⟨rfl,rfl,rfl⟩
 simp[Leaves,settle,results,Tryz.results124]
 exact⟨t.out,(H.out.trans s.out (fun _ _ e=>e)).trans q.out (fun _ _ e=>e)⟩
theorem VH (A B:List Value)(b o T:Nat)(j:Bool)(c:Int)(w:World)(l:A.length=o)(a:Row w b T (gH A j c B)):
  Calls Tryz.prog 68 #[.pointer (some ⟨b,o,none⟩),.func (.func 237) #[.pointer (some ⟨b,o,none⟩)] #[]] w fun e i=>e= .returned (.tuple #[])/\Row i b T (gH A true c B)/\Keep (· =b) w i:=by
 subst l
 have k:∀(x:Bool) (w:World),(Op.unary .not (.bool x)).run Tryz.prog w= .ok (.bool (!x)) w:=fun _ _=>rfl
 cases j with
 |false=>
  have f:w.cell? ⟨b,A.length,none⟩=some (.int .u32 0):=(a.cell _).trans (Em ..)
  have m:=Ff (P:=Tryz.prog) Ud (by kernel_rfl) (by kernel_rfl) (by kernel_rfl) .u32 (by kernel_rfl) f
  have n:=ah (OT A B b A.length T c w rfl a)
  clear a
  go_enter Tryz.func68,Tryz.ntmps68
  go_wp2_with (first|(go_at_call 124;refine n.out.mono ?_;rintro e i ⟨rfl,g,d⟩)|(go_at_call 123;go_in))
  go_end0
  exact⟨rfl,g,d⟩
 |true=>
  have f:w.cell? ⟨b,A.length,none⟩=some (.int .u32 1):=(a.cell _).trans (Em ..)
  have m:=Ff (P:=Tryz.prog) Ud (by kernel_rfl) (by kernel_rfl) (by kernel_rfl) .u32 (by kernel_rfl) f
  go_enter Tryz.func68,Tryz.ntmps68
  go_wp2_with (go_at_call 123;go_in)
  go_end0
  exact⟨rfl,a,Keep.refl _ _⟩
end Go.Proofs.YtpmbddooibgnaaaGreatDoor
