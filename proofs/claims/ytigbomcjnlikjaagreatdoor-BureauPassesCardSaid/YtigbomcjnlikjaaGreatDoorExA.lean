import Derived.Test.YtigbomcjnlikjaaGreatDoorBuA
import Derived.Shelf.Strings.OnBuilder
import Derived.Shelf.Strconv.Itoa3
import Derived.Shelf.Strings.Cut
import Derived.Shelf.Strings.Split
import Derived.Shelf.Strings.Prefix
import Derived.Shelf.Sort.Plain
import Derived.Lib.AppendIntMem
set_option linter.unusedVariables false
set_option linter.unusedSimpArgs false
set_option maxRecDepth 100000
set_option maxHeartbeats 9000000
section
namespace Go.Av
namespace Bu
open Go.Proofs
variable{G:Glob}
theorem CV:zO tP 178 1 25=true:=nR
theorem Qr:zS tP 173 false 1=true:=nR
variable{d:Nat}
theorem sP(s:Hs.Sut)(hS:Hs.SuP s)(b:BS)(hd:d<b.maps.length)(hin:Hs.inB (d:Int) 0 (s.days-1)=true):ACall tP G 67 [.ptr (eBu s b),ei d] (.tup [.agg (Ct.eMp (mpD s b.maps[d])),ei 0]):=by
 have hm:(b.maps.map fun l=>Ct.eMp (mpD s l)).length=b.maps.length:=sI;refine aC Tryz.func67 ?_;refine Z2 ?_;refine zm Y (zE Y Y uM Y Y) (Z7 ?_);refine yc (f94 s b) ?_;refine Z2 ?_;refine nC ?_ ?_<;>intro h0
 ·skip;exfalso;simp at h0
 ·skip;refine Z7 ?_;refine yc (hin▸f190 s hS b d) ?_;refine Z3 ?_;refine nC ?_ ?_<;>intro h1
  ·skip;exfalso;simp at h1
  ·skip;refine Z6 ?_;refine zb (zf Y Y CV) (zb (zl Y Y Y Qr) ?_);refine Z ?_;refine zb (zc Y Y Y mO oM (by exact Hs.mp_at (e:=fun l=>Ct.eMp (mpD s l)) hd) (Hs.mp_len fun _=>rfl)) ?_;refine zb (qk Y Y fL bL) ?_;refine zm Y (zp Y Y Y Y Y Y cEx fL rF bL) (Z4 ?_);exact⟨.inr Y,⟨_,Y,⟨_,_,Y,(zQ Y Y Y Y fL Y (vwR (vwR (vwR (vwR Y))))),⟨_,_,Y,AVle.refl _,Y⟩⟩⟩⟩
theorem DT(s:Hs.Sut)(hS:Hs.SuP s)(b:BS)(hd:d<b.maps.length)(hin:Hs.inB (d:Int) 0 (s.days-1)=true){F:Ct.Fld}{e:Int}(h75:ACall tP G 75 [.agg (Ct.eMp (mpD s b.maps[d]))] (.tup [.agg (Ct.eFld F),ei e])):ACall tP G 21 [.ptr (eBu s b),ei d] (.tup [.agg (Ct.eFld F),ei e]):=by
 refine aC Tryz.func21 ?_;refine Z2 ?_;refine zm Y (zE Y Y IC Y Y) (Z7 ?_);refine yc (sP s hS b hd hin) ?_;refine Z3 ?_;refine zI Y Y Y Y Y Y Y uM fL Y rF (zF Y) Y (Z10 ?_);refine nC ?_ ?_<;>intro h0
 ·skip;exfalso;simp at h0
 ·skip;refine Z4 ?_;refine zb (qk Y Y fL bL) ?_;refine yc h75 ?_;refine Z2 ?_;refine zm Y (zp Y Y Y Y Y Y cEx tw rF bL) (Z4 ?_);exact⟨.inr Y,⟨_,Y,⟨_,_,Y,(zQ Y Y Y Y tw Y (vwR (vwR Y))),⟨_,_,Y,AVle.refl _,Y⟩⟩⟩⟩
theorem OT(s:Hs.Sut)(hS:Hs.SuP s)(b:BS)(hd:d<b.maps.length)(hin:Hs.inB (d:Int) 0 (s.days-1)=true){p l W e:Int}(hq:ACall tP G 68 [.agg (Ct.eMp (mpD s b.maps[d])),ei p,ei l] (.tup [ei W,ei e])):ACall tP G 18 [.ptr (eBu s b),ei d,ei p,ei l] (.tup [ei W,ei e]):=by
 refine aC Tryz.func18 ?_;refine Z10 ?_;refine yc (sP s hS b hd hin) ?_;refine Z3 ?_;refine zI Y Y Y Y Y Y Y uM fL Y rF (zF Y) Y (Z10 ?_);refine nC ?_ ?_<;>intro h0
 ·skip;exfalso;simp at h0
 ·skip;refine Z4 ?_;refine zb (qk Y Y fL bL) (Z2 ?_);refine yc hq ?_;refine Z7 ?_;exact⟨.inr Y,⟨_,Y,⟨_,_,Y,AVle.refl _,⟨_,_,Y,AVle.refl _,Y⟩⟩⟩⟩
abbrev wB(s:Hs.Sut)(b:BS):Hs.Wt:=wR s b.reps
def seA(w:Hs.Wt):Int:=if Hs.okWtB w then(Hs.firO w (Hs.lowsW w)).getD 0 else 0
def seZ(w:Hs.Wt):Int:=if Hs.okWtB w then(if(Hs.firO w (Hs.lowsW w)).isSome then(Hs.firO w (Hs.highsW w)).getD (-1)else 0)else 0
def seE(w:Hs.Wt):Int:=if Hs.okWtB w then(if(Hs.firO w (Hs.lowsW w)).isSome then 0 else 5)else 2
def upW(w:Hs.Wt)(i t:Int):Int:=if Hs.upOk w i t then Hs.upV w i t else 0
def upE(w:Hs.Wt)(i t:Int):Int:=if Hs.upOk w i t then 0 else 2
theorem q27(s:Hs.Sut)(b:BS):ACall tP G 27 [.ptr (eBu s b)] (.tup [ei (seA (wB s b)),ei (seZ (wB s b)),ei (seE (wB s b))]):=by
 refine aC Tryz.func27 ?_;refine Z11 ?_;refine yc (f94 s b) ?_;refine Z2 ?_;refine nC ?_ ?_<;>intro h0
 ·skip;exfalso;simp at h0
 ·skip;refine Z6 ?_;refine zb (zf Y Y lC) (zb (zf Y Y vG) (zb (qk Y Y IU bL) ?_));refine yc (Hs.f63 (wB s b)) ?_;refine Z9 ?_;exact⟨.inr Y,⟨_,Y,⟨_,_,Y,AVle.refl _,⟨_,_,Y,AVle.refl _,⟨_,_,Y,AVle.refl _,Y⟩⟩⟩⟩⟩
theorem q29(s:Hs.Sut)(b:BS)(i t:Int):ACall tP G 29 [.ptr (eBu s b),ei i,ei t] (.tup [ei (upW (wB s b) i t),ei (upE (wB s b) i t)]):=by
 refine aC Tryz.func29 ?_;refine Z10 ?_;refine yc (f94 s b) ?_;refine Z2 ?_;refine nC ?_ ?_<;>intro h0
 ·skip;exfalso;simp at h0
 ·skip;refine Z6 ?_;refine zb (zf Y Y lC) (zb (zf Y Y vG) (zb (qk Y Y IU bL) ?_));refine Z2 ?_;refine yc (Hs.f66 (wB s b) i t) ?_;refine Z7 ?_;exact⟨.inr Y,⟨_,Y,⟨_,_,Y,AVle.refl _,⟨_,_,Y,AVle.refl _,Y⟩⟩⟩⟩
end Bu
end Go.Av
namespace Go.Proofs
open Go.Shelf
def Tryz.lays156_ren:Go.Shelf.Ren:=⟨fun|156=>224|165=>289|166=>114|169=>116|240=>223|241=>345|276=>288|277=>372|n=>n,fun|31=>108|9=>9|3=>3|4=>4|0=>0|20=>20|72=>215|76=>220|70=>212|37=>213|75=>219|127=>322|164=>380|5=>5|80=>223|n=>n,fun|n=>n⟩
theorem Tryz.lays156:Go.Proofs.Lays.n156 tP Tryz.lays156_ren:={
 mixed:=nR
 f156:=Tryz.func224.trans (zLz some nR)
 f165:=Tryz.func289.trans (zLz some nR)
 f166:=Tryz.func114.trans (zLz some nR)
 f169:=Tryz.func116.trans (zLz some nR)
 f240:=Tryz.func223.trans (zLz some nR)
 f241:=Tryz.func345.trans (zLz some nR)
 f276:=Tryz.func288.trans (zLz some nR)
 f277:=Tryz.func372.trans (zLz some nR)
 t0:=Tryz.underlying0
 a0:=Tryz.isAgg0
 z0:=Tryz.sizeOf0
 v0:=Tryz.zeroValue0
 t3:=Tryz.underlying3
 a3:=Tryz.isAgg3
 z3:=Tryz.sizeOf3
 v3:=Tryz.zeroValue3
 t4:=Tryz.underlying4
 a4:=Tryz.isAgg4
 z4:=Tryz.sizeOf4
 v4:=Tryz.zeroValue4
 t9:=Tryz.underlying9
 a9:=Tryz.isAgg9
 z9:=Tryz.sizeOf9
 v9:=Tryz.zeroValue9
 t20:=Tryz.underlying20
 a20:=Tryz.isAgg20
 z20:=Tryz.sizeOf20
 v20:=Tryz.zeroValue20
 t31:=Tryz.underlying108
 a31:=Tryz.isAgg108
 z31:=Tryz.sizeOf108
 v31:=Tryz.zeroValue108
 t37:=Tryz.underlying213
 a37:=Tryz.isAgg213
 z37:=Tryz.sizeOf213
 v37:=Tryz.zeroValue213
 t70:=Tryz.underlying212
 a70:=Tryz.isAgg212
 z70:=Tryz.sizeOf212
 v70:=Tryz.zeroValue212
 t72:=Tryz.underlying215
 a72:=Tryz.isAgg215
 z72:=Tryz.sizeOf215
 v72:=Tryz.zeroValue215
 t75:=Tryz.underlying219
 a75:=Tryz.isAgg219
 z75:=Tryz.sizeOf219
 v75:=Tryz.zeroValue219
 t76:=Tryz.underlying220
 a76:=Tryz.isAgg220
 z76:=Tryz.sizeOf220
 v76:=Tryz.zeroValue220
 t127:=Tryz.underlying322
 a127:=Tryz.isAgg322
 z127:=Tryz.sizeOf322
 v127:=Tryz.zeroValue322
 t164:=Tryz.underlying380
 a164:=Tryz.isAgg380
 z164:=Tryz.sizeOf380
 v164:=Tryz.zeroValue380}
theorem Tryz.Builder_Extra_156:Builder.Extra tP Tryz.lays156_ren:={
 sizeBuilder:=nR
 liesBuilder:=nR
 t5:=Tryz.underlying5
 a5:=Tryz.isAgg5
 z5:=Tryz.sizeOf5
 v5:=Tryz.zeroValue5
 infoByte:=nR
 cellsByte:=nR
 sizeByte:=nR
 neB5:=by decide}
open Go.RowKit in
theorem Tryz.strings_Join_none(a:Option Addr)(c:Nat)(sep:ByteArray)(w:World):
  Calls tP 224 #[.slice a 0 c,.string sep] w fun e w'=>e=.returned (.string ⟨#[]⟩)/\w'=w:=Any.strings_Join_none Tryz.lays156 Tryz.Builder_Extra_156 a c sep w
open Go.RowKit in
theorem Tryz.strings_Join(bk o c:Nat)(xs:List ByteArray)(sep:ByteArray)(w:World)(hcells:∀(j:Nat) x,xs[j]?=some x->w.cell? ⟨bk,o+j,none⟩=some (.string x))(hbk:bk<w.heap.size)(hN:xs.length<=140737488355328)(hcap:xs.length<=c)(hlen:(Lib.join (xs.map (·.data.toList)) sep.data.toList).length<=140737488355328):
  Calls tP 224 #[.slice (some ⟨bk,o,none⟩) xs.length c,.string sep] w fun e w'=>e=.returned (.string ⟨(Lib.join (xs.map (·.data.toList)) sep.data.toList).toArray⟩)/\Below w.heap.size w w':=Any.strings_Join Tryz.lays156 Tryz.Builder_Extra_156 bk o c xs sep w hcells hbk hN hcap hlen
def Tryz.laysM171_ren:Go.Shelf.Ren:=⟨fun|171=>142|243=>238|246=>311|283=>355|284=>356|285=>357|286=>358|129=>287|317=>381|318=>382|319=>383|320=>384|337=>394|338=>395|n=>n,fun|3=>3|9=>9|2=>2|4=>4|171=>412|0=>0|53=>379|37=>213|5=>5|173=>414|212=>434|51=>377|20=>20|213=>435|46=>319|232=>447|233=>448|n=>n,fun|17=>1|18=>4|19=>5|n=>n⟩
theorem Tryz.laysM171:Go.Proofs.LaysM.n171 tP Tryz.laysM171_ren:={
 mixed:=nR
 f129:=Tryz.func287.trans (zLz some nR)
 f171:=Tryz.func142.trans (zLz some nR)
 f243:=Tryz.func238.trans (zLz some nR)
 f246:=Tryz.func311.trans (zLz some nR)
 f283:=Tryz.func355.trans (zLz some nR)
 f284:=Tryz.func356.trans (zLz some nR)
 f285:=Tryz.func357.trans (zLz some nR)
 f286:=Tryz.func358.trans (zLz some nR)
 f317:=Tryz.func381.trans (zLz some nR)
 f318:=Tryz.func382.trans (zLz some nR)
 f319:=Tryz.func383.trans (zLz some nR)
 f320:=Tryz.func384.trans (zLz some nR)
 f337:=Tryz.func394.trans (zLz some nR)
 f338:=Tryz.func395.trans (zLz some nR)
 t0:=Tryz.underlying0
 a0:=Tryz.isAgg0
 z0:=Tryz.sizeOf0
 v0:=Tryz.zeroValue0
 t2:=Tryz.underlying2
 a2:=Tryz.isAgg2
 z2:=Tryz.sizeOf2
 v2:=Tryz.zeroValue2
 t3:=Tryz.underlying3
 a3:=Tryz.isAgg3
 z3:=Tryz.sizeOf3
 v3:=Tryz.zeroValue3
 t4:=Tryz.underlying4
 a4:=Tryz.isAgg4
 z4:=Tryz.sizeOf4
 v4:=Tryz.zeroValue4
 t5:=Tryz.underlying5
 a5:=Tryz.isAgg5
 z5:=Tryz.sizeOf5
 v5:=Tryz.zeroValue5
 t9:=Tryz.underlying9
 a9:=Tryz.isAgg9
 z9:=Tryz.sizeOf9
 v9:=Tryz.zeroValue9
 t20:=Tryz.underlying20
 a20:=Tryz.isAgg20
 z20:=Tryz.sizeOf20
 v20:=Tryz.zeroValue20
 t37:=Tryz.underlying213
 a37:=Tryz.isAgg213
 z37:=Tryz.sizeOf213
 v37:=Tryz.zeroValue213
 t46:=Tryz.underlying319
 a46:=Tryz.isAgg319
 z46:=Tryz.sizeOf319
 v46:=Tryz.zeroValue319
 t51:=Tryz.underlying377
 a51:=Tryz.isAgg377
 z51:=Tryz.sizeOf377
 v51:=Tryz.zeroValue377
 t53:=Tryz.underlying379
 a53:=Tryz.isAgg379
 z53:=Tryz.sizeOf379
 v53:=Tryz.zeroValue379
 t171:=Tryz.underlying412
 a171:=Tryz.isAgg412
 z171:=Tryz.sizeOf412
 v171:=Tryz.zeroValue412
 t173:=Tryz.underlying414
 a173:=Tryz.isAgg414
 z173:=Tryz.sizeOf414
 v173:=Tryz.zeroValue414
 t212:=Tryz.underlying434
 a212:=Tryz.isAgg434
 z212:=Tryz.sizeOf434
 v212:=Tryz.zeroValue434
 t213:=Tryz.underlying435
 a213:=Tryz.isAgg435
 z213:=Tryz.sizeOf435
 t232:=Tryz.underlying447
 a232:=Tryz.isAgg447
 z232:=Tryz.sizeOf447
 v232:=Tryz.zeroValue447
 t233:=Tryz.underlying448
 a233:=Tryz.isAgg448
 z233:=Tryz.sizeOf448
 v233:=Tryz.zeroValue448
 g17:=nR
 g18:=nR
 g19:=nR
 i0:=nR
 i2:=nR
 i3:=nR
 i4:=nR
 i5:=nR
 i9:=nR
 i20:=nR
 i37:=nR
 i46:=nR
 i51:=nR
 i53:=nR
 i171:=nR
 i173:=nR
 i212:=nR
 i232:=nR
 i233:=nR
 m17:=nR
 m18:=nR
 m19:=by kernel_rfl}
open Go.RowKit Go.Sort Go.Lib in
theorem Tryz.strconv_Itoa(n:Int)(h0:-9223372036854775808<=n)(h1:n<=9223372036854775807)(w:World)(htab:Lib.TabIs tP w "internal/strconv.uint64pow10" .u64 Lib.pow10Tab):
  Calls tP 142 #[.int .i64 n] w fun e w'=>e=.returned (.string ⟨(Lib.itoa n).toArray⟩)/\∃k os,w'=grow (w.drewN k) os:=Any.strconv_Itoa Tryz.laysM171 n h0 h1 w htab
def Tryz.lays145_ren:Go.Shelf.Ren:=⟨fun|145=>232|220=>292|219=>349|217=>373|225=>374|224=>375|267=>376|266=>391|314=>392|n=>n,fun|9=>9|4=>4|59=>329|3=>3|5=>5|46=>319|146=>440|51=>377|n=>n,fun|1=>0|n=>n⟩
theorem Tryz.lays145:Go.Proofs.Lays.n145 tP Tryz.lays145_ren:={
 mixed:=nR
 f145:=Tryz.func232.trans (zLz some nR)
 f217:=Tryz.func373.trans (zLz some nR)
 f219:=Tryz.func349.trans (zLz some nR)
 f220:=Tryz.func292.trans (zLz some nR)
 f224:=Tryz.func375.trans (zLz some nR)
 f225:=Tryz.func374.trans (zLz some nR)
 f266:=Tryz.func391.trans (zLz some nR)
 f267:=Tryz.func376.trans (zLz some nR)
 f314:=Tryz.func392.trans (zLz some nR)
 t3:=Tryz.underlying3
 a3:=Tryz.isAgg3
 z3:=Tryz.sizeOf3
 v3:=Tryz.zeroValue3
 t4:=Tryz.underlying4
 a4:=Tryz.isAgg4
 z4:=Tryz.sizeOf4
 v4:=Tryz.zeroValue4
 t5:=Tryz.underlying5
 a5:=Tryz.isAgg5
 z5:=Tryz.sizeOf5
 v5:=Tryz.zeroValue5
 t9:=Tryz.underlying9
 a9:=Tryz.isAgg9
 z9:=Tryz.sizeOf9
 v9:=Tryz.zeroValue9
 t46:=Tryz.underlying319
 a46:=Tryz.isAgg319
 z46:=Tryz.sizeOf319
 v46:=Tryz.zeroValue319
 t51:=Tryz.underlying377
 a51:=Tryz.isAgg377
 z51:=Tryz.sizeOf377
 v51:=Tryz.zeroValue377
 t59:=Tryz.underlying329
 a59:=Tryz.isAgg329
 z59:=Tryz.sizeOf329
 v59:=Tryz.zeroValue329
 t146:=Tryz.underlying440
 a146:=Tryz.isAgg440
 z146:=Tryz.sizeOf440
 v146:=Tryz.zeroValue440
 g1:=by kernel_rfl}
open Go.RowKit Go.Lib in
theorem Tryz.strings_Cut(s sep:ByteArray)(m:Int)(w:World)(hs:s.size<4294967281)(hm:w.cell? ⟨0,0,none⟩=some (.int .i64 m)):
  Calls tP 232 #[.string s,.string sep] w fun e w'=>e=.returned (.tuple #[.string ⟨(Lib.cut s.data.toList sep.data.toList).1.toArray⟩,.string ⟨(Lib.cut s.data.toList sep.data.toList).2.1.toArray⟩,.bool (Lib.cut s.data.toList sep.data.toList).2.2])/\∃n,w'=w.drewN n:=Any.strings_Cut Tryz.lays145 s sep m w hs hm
def Tryz.lays189_ren:Go.Shelf.Ren:=⟨fun|189=>113|125=>222|257=>221|128=>286|129=>287|294=>277|295=>278|296=>279|297=>280|298=>281|299=>282|216=>283|300=>284|301=>285|328=>339|329=>340|330=>341|331=>342|332=>343|215=>344|343=>371|n=>n,fun|28=>24|3=>3|46=>319|0=>0|51=>377|53=>379|4=>4|183=>371|182=>370|131=>60|5=>5|9=>9|218=>403|222=>407|228=>426|229=>366|n=>n,fun|n=>n⟩
theorem Tryz.lays189:Go.Proofs.Lays.n189 tP Tryz.lays189_ren:={
 mixed:=nR
 f125:=Tryz.func222.trans (zLz some nR)
 f128:=Tryz.func286.trans (zLz some nR)
 f129:=Tryz.func287.trans (zLz some nR)
 f189:=Tryz.func113.trans (zLz some nR)
 f215:=Tryz.func344.trans (zLz some nR)
 f216:=Tryz.func283.trans (zLz some nR)
 f257:=Tryz.func221.trans (zLz some nR)
 f294:=Tryz.func277.trans (zLz some nR)
 f295:=Tryz.func278.trans (zLz some nR)
 f296:=Tryz.func279.trans (zLz some nR)
 f297:=Tryz.func280.trans (zLz some nR)
 f298:=Tryz.func281.trans (zLz some nR)
 f299:=Tryz.func282.trans (zLz some nR)
 f300:=Tryz.func284.trans (zLz some nR)
 f301:=Tryz.func285.trans (zLz some nR)
 f328:=Tryz.func339.trans (zLz some nR)
 f329:=Tryz.func340.trans (zLz some nR)
 f330:=Tryz.func341.trans (zLz some nR)
 f331:=Tryz.func342.trans (zLz some nR)
 f332:=Tryz.func343.trans (zLz some nR)
 f343:=Tryz.func371.trans (zLz some nR)
 t0:=Tryz.underlying0
 a0:=Tryz.isAgg0
 z0:=Tryz.sizeOf0
 v0:=Tryz.zeroValue0
 t3:=Tryz.underlying3
 a3:=Tryz.isAgg3
 z3:=Tryz.sizeOf3
 v3:=Tryz.zeroValue3
 t4:=Tryz.underlying4
 a4:=Tryz.isAgg4
 z4:=Tryz.sizeOf4
 v4:=Tryz.zeroValue4
 t5:=Tryz.underlying5
 a5:=Tryz.isAgg5
 z5:=Tryz.sizeOf5
 v5:=Tryz.zeroValue5
 t9:=Tryz.underlying9
 a9:=Tryz.isAgg9
 z9:=Tryz.sizeOf9
 v9:=Tryz.zeroValue9
 t28:=Tryz.underlying24
 a28:=Tryz.isAgg24
 z28:=Tryz.sizeOf24
 v28:=Tryz.zeroValue24
 t46:=Tryz.underlying319
 a46:=Tryz.isAgg319
 z46:=Tryz.sizeOf319
 v46:=Tryz.zeroValue319
 t51:=Tryz.underlying377
 a51:=Tryz.isAgg377
 z51:=Tryz.sizeOf377
 v51:=Tryz.zeroValue377
 t53:=Tryz.underlying379
 a53:=Tryz.isAgg379
 z53:=Tryz.sizeOf379
 v53:=Tryz.zeroValue379
 t131:=Tryz.underlying60
 a131:=Tryz.isAgg60
 z131:=Tryz.sizeOf60
 v131:=Tryz.zeroValue60
 t182:=Tryz.underlying370
 a182:=Tryz.isAgg370
 z182:=Tryz.sizeOf370
 v182:=Tryz.zeroValue370
 t183:=Tryz.underlying371
 a183:=Tryz.isAgg371
 z183:=Tryz.sizeOf371
 v183:=Tryz.zeroValue371
 t218:=Tryz.underlying403
 a218:=Tryz.isAgg403
 z218:=Tryz.sizeOf403
 v218:=Tryz.zeroValue403
 t222:=Tryz.underlying407
 a222:=Tryz.isAgg407
 z222:=Tryz.sizeOf407
 v222:=Tryz.zeroValue407
 t228:=Tryz.underlying426
 a228:=Tryz.isAgg426
 z228:=Tryz.sizeOf426
 v228:=Tryz.zeroValue426
 t229:=Tryz.underlying366
 a229:=Tryz.isAgg366
 z229:=Tryz.sizeOf366
 v229:=Tryz.zeroValue366}
open Go.Sort Go.RowKit in
theorem Tryz.slices_Sort_int(blk off cap:Nat)(zs:List Int)(w:World)(hH:Holds (Value.int .i64) w blk off zs.toArray)(hblk:blk<w.heap.size)(hsz:zs.length<4611686018427387904):
  Calls tP 113 #[.slice (some ⟨blk,off,none⟩) zs.length cap] w fun e w'=>
   e=.returned (.tuple #[])/\∃n os,w'=grow (putRow (Value.int .i64) (Sort.ahead w n) blk off (zs.mergeSort fun x y=>decide (x<=y)).toArray) os:=Any.slices_Sort_int Tryz.lays189 blk off cap zs w hH hblk hsz
def Tryz.lays101_ren:Go.Shelf.Ren:=⟨fun|101=>309|208=>354|206=>380|n=>n,fun|9=>9|4=>4|3=>3|n=>n,fun|n=>n⟩
theorem Tryz.lays101:Go.Proofs.Lays.n101 tP Tryz.lays101_ren:={
 mixed:=nR
 f101:=Tryz.func309.trans (zLz some nR)
 f206:=Tryz.func380.trans (zLz some nR)
 f208:=Tryz.func354.trans (zLz some nR)
 t3:=Tryz.underlying3
 a3:=Tryz.isAgg3
 z3:=Tryz.sizeOf3
 v3:=Tryz.zeroValue3
 t4:=Tryz.underlying4
 a4:=Tryz.isAgg4
 z4:=Tryz.sizeOf4
 v4:=Tryz.zeroValue4
 t9:=Tryz.underlying9
 a9:=Tryz.isAgg9
 z9:=Tryz.sizeOf9
 v9:=Tryz.zeroValue9}
open Go.RowKit Go.Lib in
theorem Tryz.strings_TrimPrefix(s p:ByteArray)(w:World):
  Calls tP 309 #[.string s,.string p] w fun e w'=>e=.returned (.string ⟨(Lib.trimPrefix s.data.toList p.data.toList).toArray⟩)/\w'=w:=Any.strings_TrimPrefix Tryz.lays101 s p w
def Tryz.lays146_ren:Go.Shelf.Ren:=⟨fun|146=>234|221=>293|268=>350|138=>351|143=>352|195=>377|197=>378|218=>379|219=>349|260=>393|217=>373|225=>374|224=>375|267=>376|266=>391|314=>392|n=>n,fun|9=>9|31=>108|3=>3|4=>4|0=>0|105=>430|21=>21|5=>5|46=>319|119=>443|139=>446|138=>445|146=>440|51=>377|n=>n,fun|1=>0|3=>2|4=>3|n=>n⟩
theorem Tryz.lays146:Go.Proofs.Lays.n146 tP Tryz.lays146_ren:={
 mixed:=nR
 f138:=Tryz.func351.trans (zLz some nR)
 f143:=Tryz.func352.trans (zLz some nR)
 f146:=Tryz.func234.trans (zLz some nR)
 f195:=Tryz.func377.trans (zLz some nR)
 f197:=Tryz.func378.trans (zLz some nR)
 f217:=Tryz.func373.trans (zLz some nR)
 f218:=Tryz.func379.trans (zLz some nR)
 f219:=Tryz.func349.trans (zLz some nR)
 f221:=Tryz.func293.trans (zLz some nR)
 f224:=Tryz.func375.trans (zLz some nR)
 f225:=Tryz.func374.trans (zLz some nR)
 f260:=Tryz.func393.trans (zLz some nR)
 f266:=Tryz.func391.trans (zLz some nR)
 f267:=Tryz.func376.trans (zLz some nR)
 f268:=Tryz.func350.trans (zLz some nR)
 f314:=Tryz.func392.trans (zLz some nR)
 t0:=Tryz.underlying0
 a0:=Tryz.isAgg0
 z0:=Tryz.sizeOf0
 v0:=Tryz.zeroValue0
 t3:=Tryz.underlying3
 a3:=Tryz.isAgg3
 z3:=Tryz.sizeOf3
 v3:=Tryz.zeroValue3
 t4:=Tryz.underlying4
 a4:=Tryz.isAgg4
 z4:=Tryz.sizeOf4
 v4:=Tryz.zeroValue4
 t5:=Tryz.underlying5
 a5:=Tryz.isAgg5
 z5:=Tryz.sizeOf5
 v5:=Tryz.zeroValue5
 t9:=Tryz.underlying9
 a9:=Tryz.isAgg9
 z9:=Tryz.sizeOf9
 v9:=Tryz.zeroValue9
 t21:=Tryz.underlying21
 a21:=Tryz.isAgg21
 z21:=Tryz.sizeOf21
 v21:=Tryz.zeroValue21
 t31:=Tryz.underlying108
 a31:=Tryz.isAgg108
 z31:=Tryz.sizeOf108
 v31:=Tryz.zeroValue108
 t46:=Tryz.underlying319
 a46:=Tryz.isAgg319
 z46:=Tryz.sizeOf319
 v46:=Tryz.zeroValue319
 t51:=Tryz.underlying377
 a51:=Tryz.isAgg377
 z51:=Tryz.sizeOf377
 v51:=Tryz.zeroValue377
 t105:=Tryz.underlying430
 a105:=Tryz.isAgg430
 z105:=Tryz.sizeOf430
 v105:=Tryz.zeroValue430
 t119:=Tryz.underlying443
 a119:=Tryz.isAgg443
 z119:=Tryz.sizeOf443
 t138:=Tryz.underlying445
 a138:=Tryz.isAgg445
 z138:=Tryz.sizeOf445
 v138:=Tryz.zeroValue445
 t139:=Tryz.underlying446
 a139:=Tryz.isAgg446
 z139:=Tryz.sizeOf446
 v139:=Tryz.zeroValue446
 t146:=Tryz.underlying440
 a146:=Tryz.isAgg440
 z146:=Tryz.sizeOf440
 v146:=Tryz.zeroValue440
 g1:=nR
 g3:=nR
 g4:=by kernel_rfl}
open Go.RowKit Go.Lib in
theorem Tryz.strings_Split(s sep:ByteArray)(m:Int)(w:World)(hs:s.size<4294967281)(hm:w.cell? ⟨0,0,none⟩=some (.int .i64 m))(h1:1<=sep.size):
  Calls tP 234 #[.string s,.string sep] w fun e w'=>
   e=.returned (.slice (some ⟨w.heap.size,0,none⟩) (Lib.countB s sep+1) (Lib.countB s sep+1))/\w'=w.alloc (.cells ((Lib.splitB sep 0 (Lib.countB s sep) s).map Value.string).toArray 9):=Any.strings_Split Tryz.lays146 nR s sep m w hs hm h1
end Go.Proofs
namespace Go.Av
namespace Bu
open Go.Proofs Go.RowKit
def GB:Glob:=⟨fun w=>(∃T fz,w.heap[1]?=some (.cells (Lib.pow10Tab.map fun z=>Value.int .u64 z).toArray T fz))/\∃m,w.cell? ⟨0,0,none⟩=some (.int .i64 m),fun w w' h hb=>by
 obtain⟨⟨T,fz,hh⟩,m,hm⟩:=h;refine⟨⟨T,fz,by rw[hb.block 1 (zLr.1 hh).1];exact hh⟩,m,?_⟩;have hlt:0<w.heap.size:=World.block_lt_of_cell? _ _ hm;rw[←hm];simp only[World.cell?];rw[hb.block 0 hlt]⟩
variable{w:World}
theorem QF(h:GB.holds w):Lib.TabIs tP w "internal/strconv.uint64pow10" .u64 Lib.pow10Tab:=by
 obtain⟨⟨T,fz,hh⟩,_⟩:=h;have hg:tP.globalNamed "internal/strconv.uint64pow10"=some 1:=nR;simp only[Lib.TabIs,World.var?,hg,Option.bind_some,hh]
theorem uN(n:Int)(h:-9223372036854775808<=n/\n<=9223372036854775807):ACall tP GB 142 [.v (.int .i64 n)] (eS (Lib.itoa n)):=by
 refine⟨⟨_,Tryz.func142,nR,Y⟩,fun ok w vs hG hok hf=>?_⟩;simp only[FitsL,Fits]at hf;obtain⟨u,us,rfl,⟨rfl,_⟩,rfl⟩:=hf;refine(Tryz.strconv_Itoa n h.1 h.2 w (QF hG)).mono fun e w' ⟨he,k,os,hw⟩=>⟨_,he,by rw[hw];exact Go.Lib.below_grow _ w (zLl _) k os,by simp only[Fits];exact⟨trivial,Y⟩⟩
abbrev eStrs(l:TB):AV:=.sl (l.map fun s=>[eS s])
theorem SB(s p:List UInt8):ACall tP GB 309 [eS s,eS p] (eS (Lib.trimPrefix s p)):=by
 refine⟨⟨_,Tryz.func309,nR,Y⟩,fun ok w vs hG hok hf=>?_⟩;simp only[FitsL,Fits]at hf;obtain⟨u,us,rfl,⟨rfl,_⟩,u2,us2,rfl,⟨rfl,_⟩,rfl⟩:=hf;refine(Tryz.strings_TrimPrefix ⟨s.toArray⟩ ⟨p.toArray⟩ w).mono fun e w' ⟨he,hw⟩=>⟨_,he,by rw[hw];exact Below.refl _ _,by simp only[Fits];exact⟨sI,Y⟩⟩
theorem X8(s p:List UInt8)(hs:s.length<4294967281):ACall tP GB 232 [eS s,eS p] (.tup [eS (Lib.cut s p).1,eS (Lib.cut s p).2.1,.v (.bool (Lib.cut s p).2.2)]):=by
 refine⟨⟨_,Tryz.func232,nR,Y⟩,fun ok w vs hG hok hf=>?_⟩;simp only[FitsL,Fits]at hf;obtain⟨u,us,rfl,⟨rfl,_⟩,u2,us2,rfl,⟨rfl,_⟩,rfl⟩:=hf;obtain⟨_,m,hm⟩:=hG;refine(Tryz.strings_Cut ⟨s.toArray⟩ ⟨p.toArray⟩ m w (by simpa[ByteArray.size]using hs) hm).mono fun e w' ⟨he,n,hw⟩=>⟨_,he,by rw[hw];exact(Below.refl _ _).trans ⟨Y,Y,Y,zLl _,fun _ _=>rfl⟩,?_⟩;simp only[Fits,FitsL];exact⟨_,Y,_,_,Y,⟨sI,Y⟩,_,_,Y,⟨sI,Y⟩,_,_,Y,⟨Y,Y⟩,Y⟩
theorem tO{ok:Nat->Prop}{b off:Nat}{l:TB}(h:FitsR ok w b off (l.map fun s=>[eS s])):
  ∀(j:Nat) x,(l.map fun s=>(⟨s.toArray⟩:ByteArray))[j]?=some x->w.cell? ⟨b,off+j,none⟩=some (.string x):=fun j x hx=>by
 rw[zLq]at hx;cases hs:l[j]?with
 |none=>rw[hs]at hx;cases hx
 |some s=>
  rw[hs]at hx;injection hx with hx
  subst hx;have:=FitsR.get (size:=1) (i:=j) (r:=[eS s]) h (fun r hr=>by obtain⟨s,_,rfl⟩:=zLj.1 hr;rfl) (by rw[zLq,hs];rfl);simp only[FitsC,Fits]at this;obtain⟨⟨u,k1,_,k3,_⟩,_⟩:=this;rw[k3]at k1;simpa using k1
theorem VG(l:TB)(sep:List UInt8)(hn:l.length<=140737488355328)(hl:(Lib.join l sep).length<=140737488355328):ACall tP GB 224 [eStrs l,eS sep] (eS (Lib.join l sep)):=by
 refine⟨⟨_,Tryz.func224,nR,Y⟩,fun ok w vs hG hok hf=>?_⟩;simp only[FitsL,eStrs,Fits]at hf;obtain⟨u,us,rfl,⟨a,c,size,rfl,h1,h2,h3,h4⟩,u2,us2,rfl,⟨rfl,_⟩,rfl⟩:=hf;cases l with
 |nil=>
  refine(Tryz.strings_Join_none a c ⟨sep.toArray⟩ w).mono fun e w' ⟨he,hb⟩=>⟨_,he,by rw[hb];exact Below.refl _ _,?_⟩;simp only[Fits];exact⟨by simp[Lib.join],Y⟩
 |cons s l=>
  obtain⟨b,off,rfl,hb,hr⟩:=h4 sI;have hc:=tO hr;have hbk:b<w.heap.size:=hok b hb;have e1:((s::l).map fun s=>(⟨s.toArray⟩:ByteArray)).map (·.data.toList)=s::l:=by rw[List.map_map];exact(List.map_congr_left fun a _=>sI).trans (List.map_id _)
  have:=Tryz.strings_Join b off c ((s::l).map fun s=>(⟨s.toArray⟩:ByteArray)) ⟨sep.toArray⟩ w hc hbk (by simpa using hn) (by simpa using h1) (by rw[e1];simpa using hl);rw[e1,zL8]at this;simp only[zL8]at*;refine this.mono fun e w' ⟨he,hb⟩=>⟨_,he,hb,?_⟩;simp only[Fits];exact⟨sI,Y⟩
def qM(c:UInt8):List UInt8->TB
 |[]=>[[]]
 |x::xs=>if x=c then[]::qM c xs else match qM c xs with
  |[]=>[[x]]
  |p::ps=>(x::p)::ps
theorem Dp(c:UInt8):∀l,qM c l≠[]
 |[]=>by simp[qM]
 |x::xs=>by
  simp only[qM];split
  ·simp
  ·split<;>simp
theorem cD(c:UInt8):∀(l:List UInt8),Lib.splitK [c] 0 (Lib.count l [c]) l=qM c l
 |[]=>by rw[Lib.count_miss (by simp[Lib.index])];rfl
 |b::l=>by
  by_cases h:b=c
  ·subst h;have hix:Lib.index (b::l) [b]=((0:Nat):Int):=by rw[Lib.index];simp[List.isPrefixOf]
   rw[Lib.count_cons_eq,Nat.add_comm,Lib.splitK,zLy (by rw[hix];decide),hix];simp only[qM,if_true];rw[←cD b l];simp
  ·have hp:([c]:List UInt8).isPrefixOf (b::l)=false:=by simp[List.isPrefixOf,Ne.symm h]
   have hix:Lib.index (b::l) [c]=if Lib.index l [c]==-1 then -1 else Lib.index l [c]+1:=by rw[Lib.index,hp];simp
   have ih:=cD c l;rw[Lib.count_cons_ne b c l h];simp only[qM,zLy h];rw[←ih];cases hk:Lib.count l [c]with
   |zero=>rfl
   |succ k=>
    by_cases hm:Lib.index l [c]=-1
    ·rw[Lib.count_miss hm]at hk;cases hk
    ·have hge:=Lib.index_ge l [c];obtain⟨j,hj⟩:∃j:Nat,Lib.index l [c]=j:=⟨(Lib.index l [c]).toNat,oM⟩;have hix':Lib.index (b::l) [c]=((j+1:Nat):Int):=by rw[hix,zLy (fun e=>hm (beq_iff_eq.1 e)),hj];omega
     have e1:¬((Lib.index (b::l) [c]==-1)=true):=fun e=>by have:=beq_iff_eq.1 e;omega
     have e2:¬((Lib.index l [c]==-1)=true):=fun e=>hm (beq_iff_eq.1 e);simp only[Lib.splitK];rw[zLy e1,zLy e2,hix',hj];simp
theorem FT(s:List UInt8)(c:UInt8)(hs:s.length<4294967281):ACall tP GB 234 [eS s,eS [c]] (eStrs (qM c s)):=by
 refine⟨⟨_,Tryz.func234,nR,Y⟩,fun ok w vs hG hok hf=>?_⟩;simp only[FitsL,Fits]at hf;obtain⟨u,us,rfl,⟨rfl,_⟩,u2,us2,rfl,⟨rfl,_⟩,rfl⟩:=hf;obtain⟨_,m,hm⟩:=hG;have hcall:=Tryz.strings_Split ⟨s.toArray⟩ ⟨[c].toArray⟩ m w (by simpa[ByteArray.size]using hs) hm (by simp[ByteArray.size]);refine hcall.mono fun e w' ⟨he,hw⟩=>⟨_,he,by rw[hw];exact qu w _,?_⟩;have hall:=Lib.splitB_all ⟨[c].toArray⟩ (by simp[ByteArray.size]) 0 _ ⟨s.toArray⟩ rfl;have hdat:=Lib.splitB_data ⟨[c].toArray⟩ 0 (Lib.countB ⟨s.toArray⟩ ⟨[c].toArray⟩) ⟨s.toArray⟩
 have hk:Lib.splitK [c] 0 (Lib.countB ⟨s.toArray⟩ ⟨[c].toArray⟩) s=qM c s:=by
  show Lib.splitK [c] 0 (Lib.count (ByteArray.mk s.toArray).data.toList (ByteArray.mk [c].toArray).data.toList) s=_;simpa using cD c s
 simp only at hdat;rw[hk]at hdat;obtain⟨ps,hps⟩:∃ps,Lib.splitB ⟨[c].toArray⟩ 0 (Lib.countB ⟨s.toArray⟩ ⟨[c].toArray⟩) ⟨s.toArray⟩=ps:=⟨_,rfl⟩;rw[hps]at hall hdat hw;rw[←hall];have hlen:(qM c s).length=ps.length:=by rw[←hdat];simp
 have hle:ps.length<=s.length+1:=by
  have:=Lib.countB_le ⟨[c].toArray⟩ (by simp[ByteArray.size]) s.length ⟨s.toArray⟩ (by simp[ByteArray.size]);simp[ByteArray.size]at this;omega
 simp only[eStrs,Fits];refine⟨some ⟨w.heap.size,0,none⟩,ps.length,1,by rw[zL8,hlen],by simp[hlen],by unfold maxLen;omega,fun r hr=>by obtain⟨s,_,rfl⟩:=zLj.1 hr;rfl,fun _=>⟨w.heap.size,0,rfl,.inr ⟨zLl _,by rw[hw];simp⟩,?_⟩⟩;refine FitsR.of_get (size:=1) (fun r hr=>by obtain⟨s,_,rfl⟩:=zLj.1 hr;rfl) fun i r hr=>?_;rw[zLq]at hr;cases hi:(qM c s)[i]?with
 |none=>rw[hi]at hr;cases hr
 |some p=>
  rw[hi]at hr;injection hr with hr
  subst hr;rw[←hdat,zLq]at hi;cases hb:ps[i]?with
  |none=>rw[hb]at hi;cases hi
  |some q=>
   rw[hb]at hi;injection hi with hi
   simp only[FitsC,Fits];refine⟨⟨.string q,?_,Y,?_,Y⟩,trivial⟩
   ·rw[hw];have:=heap_alloc_new w (.cells (ps.map Value.string).toArray 9);simp only[World.cell?,this];simp[hb]
   ·rw[←hi]
end Bu
end Go.Av
namespace Go.Av
namespace Bu
open Go.Proofs
variable{G:Glob}
theorem oS:zU tP 332 [(0,1)] [.string ⟨#[]⟩]:=⟨_,Tryz.underlying332,nR,nR⟩
def pvW:AV:=.ifc 332 (.agg [.top])
def w8(c:UInt8):Bool:=decide (48<=c.toNat)&&decide (c.toNat<=57)
def ap(w:List UInt8):Int:=w.foldl (fun n c=>10*n+((c.toNat:Int)-48)) 0
theorem l0(w:List UInt8)(c:UInt8):ap (w++[c])=10*ap w+((c.toNat:Int)-48):=by simp[ap]
theorem Bq:∀(k:Nat)(w:List UInt8),w.length=k->(∀c∈w,w8 c=true)->0<=ap w/\ap w<=10^k-1
 |0,w,hk,_=>by have:=List.eq_nil_of_length_eq_zero hk;subst this;decide
 |k+1,w,hk,h=>by
  obtain⟨u,c,rfl⟩:∃u c,w=u++[c]:=⟨w.dropLast,w.getLast (by intro e;subst e;simp at hk),(List.dropLast_concat_getLast _).symm⟩;have h1:=Bq k u (by simp at hk;exact hk) fun c hc=>h c (by simp[hc]);have h2:=h c sI;simp only[w8,zLa,zLd]at h2;rw[l0,Int.pow_succ];omega
variable{w:List UInt8}{s:ByteArray}{k:Nat}
theorem fA(hl:w.length<=9)(h:∀c∈w,w8 c=true):0<=ap w/\ap w<=999999999:=by
 have h1:=Bq _ w rfl h
 have h2:(10:Int)^w.length<=10^9:=by
  have:w.length=0∨w.length=1∨w.length=2∨w.length=3∨w.length=4∨w.length=5∨w.length=6∨w.length=7∨w.length=8∨w.length=9:=oM;rcases this with e|e|e|e|e|e|e|e|e|e<;>rw[e]<;>decide
 omega
theorem yW(h:(s.get! k).toNat<128):Utf8.decode s k=((s.get! k).toNat,1):=by
 unfold Utf8.decode;simp only[Nat.add_zero];rw[zLc h]
theorem mF(h:¬(s.get! k).toNat<128):128<=(Utf8.decode s k).1:=by
 unfold Utf8.decode;simp only[Nat.add_zero];rw[zLy h];split
 ·split
  ·assumption
  ·decide
 ·split
  ·split
   ·rename_i hh;simp only[zLa,zLd]at hh;omega
   ·decide
  ·split
   ·split
    ·rename_i hh;simp only[zLa,zLd]at hh;omega
    ·decide
   ·decide
theorem get_at(h:k<w.length):(⟨w.toArray⟩:ByteArray).get! k=w[k]:=by
 show(w.toArray)[k]! =w[k];simp[h]
theorem AA(h:k<w.length):(decide ((48:Int)<=((Utf8.decode ⟨w.toArray⟩ k).1:Int))&&decide (((Utf8.decode ⟨w.toArray⟩ k).1:Int)<=57))=w8 w[k]:=by
 unfold w8
 by_cases hs:w[k].toNat<128
 ·rw[yW (by rw[get_at h];exact hs),get_at h];congr 1<;>(congr 1;simp only[eq_iff_iff];omega)
 ·have:=mF (s:=⟨w.toArray⟩) (k:=k) (by rw[get_at h];exact hs);rw[show decide (((Utf8.decode ⟨w.toArray⟩ k).1:Int)<=57)=false from by simp;omega,show decide (w[k].toNat<=57)=false from by simp;omega];simp
theorem uI(h:k<w.length)(hd:w8 w[k]=true):Utf8.decode ⟨w.toArray⟩ k=(w[k].toNat,1):=by
 simp only[w8,zLa,zLd]at hd;rw[yW (by rw[get_at h];omega),get_at h]
theorem JE(h:k<w.length)(hd:w8 w[k]=true):nxK ⟨w.toArray⟩ k=k+1:=by
 unfold nxK;rw[zLc (by simpa[ByteArray.size]using h),uI h hd]
theorem EB(h:∀i(hi:i<w.length),i<k->w8 w[i]=true):∀c∈w.take k,w8 c=true:=fun c hc=>by
 obtain⟨i,hi,rfl⟩:=List.getElem_of_mem hc;simp only[List.length_take]at hi;rw[List.getElem_take];exact h i oM oM
theorem BP(h:k<w.length):ap (w.take (k+1))=10*ap (w.take k)+((w[k].toNat:Int)-48):=by
 rw[List.take_add_one,zLe h,Option.toList_some,l0]
def dgW(w:List UInt8):List UInt8:=Lib.trimPrefix w [45]
def vlW(w:List UInt8):Int:=if dgW w=w then ap (dgW w)else -ap (dgW w)
def J1(w:List UInt8):Bool:=(dgW w).all (fun c=>w8 c&&decide ((dgW w).length<=9))&& !((dgW w==[])||(Lib.itoa (vlW w)!=w))
def nmP(w:List UInt8):Option Int:=if J1 w then some (vlW w)else none
theorem Vh(h:k<(dgW w).length)(hd:(w8 (dgW w)[k]&&decide ((dgW w).length<=9))=false):nmP w=none:=by
 unfold nmP J1;rw[zLy];intro hh;simp only[zLa,zLu]at hh;rw[hh.1 _ (zLm h)|>.1,(hh.1 _ (zLm h)).2]at hd;cases hd
theorem EY(h:((dgW w==[])||(Lib.itoa (vlW w)!=w))=true):nmP w=none:=by
 unfold nmP J1;rw[h];simp
theorem FB(hd:∀c∈dgW w,w8 c=true)(hl:(dgW w).length=0∨(dgW w).length<=9)(h:((dgW w==[])||(Lib.itoa (vlW w)!=w))=false):nmP w=some (vlW w):=by
 unfold nmP J1;rw[h,zLc];simp only[Bool.not_false,Bool.and_true,zLu,zLa,zLd]
 exact fun c hc=>⟨hd c hc,by have:=List.length_pos_of_mem hc;omega⟩
theorem I3(h:dgW w=w):vlW w=ap (dgW w):=zLc h
theorem QC(h:¬dgW w=w):vlW w=-ap (dgW w):=zLy h
theorem UJ(w:List UInt8)(hl:w.length<=1000000):XCall tP GB 236 [eS w] (tQ pvW (fun n=>.v (.int .i64 n)) (nmP w)):=by
 refine oO Tryz.func236 Y nR Y ?_;refine Z8 ?_;refine yc (SB w [45]) ?_;refine Z8 ?_;refine fj Y Y Y Y Tryz.underlying9 (fun itb=>?_);refine Z3 ?_;refine zD (ι:={k:Nat//k<=(dgW w).length/\(∀i(hi:i<(dgW w).length),i<k->w8 (dgW w)[i]=true)/\(k=0∨(dgW w).length<=9)}) (fun k=>⟨⟨Tryz.f236.ntmps,[],[],false,[(itb,.stringIter ⟨(dgW w).toArray⟩ k.1)]⟩,frL [(0,SL w),(3,SL (dgW w)),(4,I (ap ((dgW w).take k.1))),(10,itP itb)],[]⟩) (fun k=>(dgW w).length-k.1) (⟨0,oM,fun i _ hi=>absurd hi oM,.inl Y⟩) ?_ ?_
 ·exact zd _ rL (Y)
 ·rintro⟨k,hk⟩;dsimp only;refine Z2 ?_;refine ot Y Y Y Y Y Y ?_;refine zb (jD Y Y (Qp _ _)) ?_;refine Z3 ?_;refine nC ?_ ?_<;>intro h0
  ·have hlt0:k<(⟨(dgW w).toArray⟩:ByteArray).size:=by simpa using h0
   have hlt:k<(dgW w).length:=by simpa[ByteArray.size]using hlt0
   refine Z5 ?_;refine zb (jD Y Y (Q8 hlt0)) (Z14 ?_);refine zh Y (fun hg=>vt Y (zLc hg) Tryz.underlying9) (Z4 ?_);refine nC ?_ ?_<;>intro h1
   ·have hno:(w8 (dgW w)[k]&&decide ((dgW w).length<=9))=false:=by
     rw[←AA hlt,Bool.eq_false_iff];intro hc;simp only[zLa,zLd]at hc;simp only[Bool.or_eq_true,zLd]at h1;omega
    have hnone:nmP w=none:=Vh hlt hno;refine Z2 ?_;refine zb (zu (cs:=[_]) Y oS Y (zk Y) rF (by simp[ofV])) ?_;refine zb (zZ Y Y Tryz.underlying332 Y) ?_;refine vY Y Y Y (fun u=>?_);refine qW ?_;refine yV ?_;refine qW ?_;refine yV ?_;refine qW ?_;exact cj hnone AVle.ifc1
   ·have hsu:w8 (dgW w)[k]=true/\(dgW w).length<=9:=by
     simp only[Bool.or_eq_false_iff,decide_eq_false_iff_not]at h1;rw[←AA hlt];refine⟨?_,oM⟩;simp only[zLa,zLd];omega
    have hdv:=uI hlt hsu.1;have hdd:=hsu.1;simp only[w8,zLa,zLd]at hdd;have hnt:=fA (w:=(dgW w).take k) (by simp;omega) (EB hk.2.1);have hnx:=JE hlt hsu.1;have hd1:(Utf8.decode ⟨(dgW w).toArray⟩ k).1=(dgW w)[k].toNat:=by rw[hdv]
    refine Z6 ?_;refine zb (D8 Y Y Y (wrap_i32 oM)) (zb (Ag Y Y Tryz.underlying21 Tryz.underlying3 (A8 oM)) ?_);refine Z4 ?_;exact⟨⟨k+1,oM,fun i hi h=>(if e:i=k then by subst e;exact hsu.1 else hk.2.1 i hi oM),.inr hsu.2⟩,by dsimp only;omega,ce (zLz (fun z=>(⟨Tryz.f236.ntmps,[],[],false,[(itb,Obj.stringIter ⟨(dgW w).toArray⟩ z)]⟩:NS)) hnx) _ ⟨Y,Y,(by show I _=I _;rw[BP hlt,hd1]),Y,trivial⟩ Y⟩
  ·have hge:(dgW w).length<=k:=by simpa[ByteArray.size]using h0
   have hkk:k=(dgW w).length:=oM
   have hall:∀c∈dgW w,w8 c=true:=fun c hc=>by
    obtain⟨i,hi,rfl⟩:=List.getElem_of_mem hc;exact hk.2.1 i hi oM
   have h9:(dgW w).length<=9:=by have:=hk.2.2;omega
   have hsm:=fA h9 hall;have htk:(dgW w).take k=dgW w:=zLk hge;refine Z7 ?_;refine zt (zd (mem':=[]) [(0,SL w),(3,SL (dgW w)),(4,I (ap (dgW w)))] ?_ ?_) ?_
   ·exact⟨Y,Y,(zLz (fun z=>I (ap z)) htk),trivial⟩
   ·exact Y
   refine Z3 ?_;refine zb (mn Y Y Y) (Z2 ?_);refine nC ?_ ?_<;>intro h2
   ·have hne:¬dgW w=w:=by simpa using h2
    have hv:=QC hne;refine Z2 ?_;refine zb (AI Y Y ⟨oM,oM⟩) (Z7 ?_);refine zb (dD Y Y Y) (Z2 ?_);refine zh Y (fun hg=>zi (av:=[_]) Y ⟨((zLc hg)),trivial⟩ (uN _ oM)) ?_;refine Z ?_;refine zh Y (fun hg=>mn Y (zLc hg) (zLc hg)) (Z3 ?_);refine nC ?_ ?_<;>intro h3
    ·have hnone:nmP w=none:=EY (by rw[hv];exact h3);refine Z2 ?_;refine zb (zu (cs:=[_]) Y oS Y (zk Y) rF (by simp[ofV])) ?_;refine zb (zZ Y Y Tryz.underlying332 Y) ?_;refine vY Y Y Y (fun u=>?_);refine qW ?_;exact cj hnone AVle.ifc1
    ·have hsome:nmP w=some (vlW w):=FB hall (.inr h9) (by rw[hv];exact h3);refine Z9 ?_;exact iy hsome (.inr Y) (AVle.of (by rw[hv]))
   ·have heq:dgW w=w:=by simpa using h2
    have hv:=I3 heq;refine Z6 ?_;refine zb (dD Y Y Y) (Z2 ?_);refine zh Y (fun hg=>zi (av:=[_]) Y ⟨((zLc hg)),trivial⟩ (uN _ oM)) ?_;refine Z ?_;refine zh Y (fun hg=>mn Y (zLc hg) (zLc hg)) (Z3 ?_);refine nC ?_ ?_<;>intro h3
    ·have hnone:nmP w=none:=EY (by rw[hv];exact h3);refine Z2 ?_;refine zb (zu (cs:=[_]) Y oS Y (zk Y) rF (by simp[ofV])) ?_;refine zb (zZ Y Y Tryz.underlying332 Y) ?_;refine vY Y Y Y (fun u=>?_);refine qW ?_;exact cj hnone AVle.ifc1
    ·have hsome:nmP w=some (vlW w):=FB hall (.inr h9) (by rw[hv];exact h3);refine Z9 ?_;exact iy hsome (.inr Y) (AVle.of (by rw[hv]))
end Bu
end Go.Av
end
