import Derived.Test.YtgmbdadkbominaaGreatDoorRunD
import Derived.Shelf.Strings.OnBuilder
import Derived.Shelf.Strings.Builder1
import Derived.Shelf.Strings.Search1
import Derived.Shelf.Strings.Count
import Derived.Shelf.Strconv.Itoa3
import Derived.Lib.AppendIntMem
import Derived.Test.YtgmbdadkbominaaGreatDoorProg
set_option linter.unusedVariables false
set_option linter.unusedSimpArgs false
section
namespace Go.Proofs
open Go.Shelf
def Tryz.lays156_ren:Go.Shelf.Ren:=⟨fun | 156=>256 | 165=>307 | 166=>124 | 169=>125 | 240=>207 | 241=>354 | 276=>258 | 277=>400 | n=>n, fun | 31=>81 | 9=>9 | 3=>3 | 4=>4 | 0=>0 | 20=>20 | 72=>229 | 76=>236 | 70=>226 | 37=>227 | 75=>235 | 127=>324 | 164=>369 | 5=>5 | 80=>238 | n=>n, fun | n=>n⟩
theorem Tryz.lays156:Go.Proofs.Lays.n156 Tryz.prog Tryz.lays156_ren:={
 mixed:=by kernel_rfl
 f156:=Tryz.func256.trans (congrArg some (by kernel_rfl))
 f165:=Tryz.func307.trans (congrArg some (by kernel_rfl))
 f166:=Tryz.func124.trans (congrArg some (by kernel_rfl))
 f169:=Tryz.func125.trans (congrArg some (by kernel_rfl))
 f240:=Tryz.func207.trans (congrArg some (by kernel_rfl))
 f241:=Tryz.func354.trans (congrArg some (by kernel_rfl))
 f276:=Tryz.func258.trans (congrArg some (by kernel_rfl))
 f277:=Tryz.func400.trans (congrArg some (by kernel_rfl))
 t0:=Tryz.underlying0
 a0:=Tryz.isAgg0
 z0:=Tryz.sizeOf0
 v0:=Tryz.zeroValue0
 t3:=Tryz.underlying3
 a3:=Tryz.isAgg3
 z3:=Tryz.sizeOf3
 v3:=Tryz.zeroValue3
 t4:=Tryz.underlying4
 a4:=Tryz.isAgg4
 z4:=Tryz.sizeOf4
 v4:=Tryz.zeroValue4
 t9:=Tryz.underlying9
 a9:=Tryz.isAgg9
 z9:=Tryz.sizeOf9
 v9:=Tryz.zeroValue9
 t20:=Tryz.underlying20
 a20:=Tryz.isAgg20
 z20:=Tryz.sizeOf20
 v20:=Tryz.zeroValue20
 t31:=Tryz.underlying81
 a31:=Tryz.isAgg81
 z31:=Tryz.sizeOf81
 v31:=Tryz.zeroValue81
 t37:=Tryz.underlying227
 a37:=Tryz.isAgg227
 z37:=Tryz.sizeOf227
 v37:=Tryz.zeroValue227
 t70:=Tryz.underlying226
 a70:=Tryz.isAgg226
 z70:=Tryz.sizeOf226
 v70:=Tryz.zeroValue226
 t72:=Tryz.underlying229
 a72:=Tryz.isAgg229
 z72:=Tryz.sizeOf229
 v72:=Tryz.zeroValue229
 t75:=Tryz.underlying235
 a75:=Tryz.isAgg235
 z75:=Tryz.sizeOf235
 v75:=Tryz.zeroValue235
 t76:=Tryz.underlying236
 a76:=Tryz.isAgg236
 z76:=Tryz.sizeOf236
 v76:=Tryz.zeroValue236
 t127:=Tryz.underlying324
 a127:=Tryz.isAgg324
 z127:=Tryz.sizeOf324
 v127:=Tryz.zeroValue324
 t164:=Tryz.underlying369
 a164:=Tryz.isAgg369
 z164:=Tryz.sizeOf369
 v164:=Tryz.zeroValue369 }
theorem Tryz.Builder_Extra_156:Builder.Extra Tryz.prog Tryz.lays156_ren:={
 sizeBuilder:=by kernel_rfl
 liesBuilder:=by kernel_rfl
 t5:=Tryz.underlying5
 a5:=Tryz.isAgg5
 z5:=Tryz.sizeOf5
 v5:=Tryz.zeroValue5
 infoByte:=by kernel_rfl
 cellsByte:=by kernel_rfl
 sizeByte:=by kernel_rfl
 neB5:=by decide }
open Go.RowKit in
theorem Tryz.strings_Join_none (a:Option Addr) (c:Nat) (sep:ByteArray) (w:World):
  Calls Tryz.prog 256 #[.slice a 0 c, .string sep] w fun e w'=>e = .returned (.string ⟨#[]⟩) /\ w' = w:=Any.strings_Join_none Tryz.lays156 Tryz.Builder_Extra_156 a c sep w
open Go.RowKit in
theorem Tryz.strings_Join (bk o c:Nat) (xs:List ByteArray) (sep:ByteArray) (w:World) (hcells:∀ (j:Nat) x, xs[j]? = some x -> w.cell? ⟨bk, o + j, none⟩ = some (.string x)) (hbk:bk < w.heap.size) (hN:xs.length <= 140737488355328) (hcap:xs.length <= c) (hlen:(Lib.join (xs.map (·.data.toList)) sep.data.toList).length <= 140737488355328):
  Calls Tryz.prog 256 #[.slice (some ⟨bk, o, none⟩) xs.length c, .string sep] w fun e w'=>e = .returned (.string ⟨(Lib.join (xs.map (·.data.toList)) sep.data.toList).toArray⟩) /\ Below w.heap.size w w':=Any.strings_Join Tryz.lays156 Tryz.Builder_Extra_156 bk o c xs sep w hcells hbk hN hcap hlen
def Tryz.laysM171_ren:Go.Shelf.Ren:=⟨fun | 171=>123 | 243=>206 | 246=>257 | 283=>308 | 284=>309 | 285=>310 | 286=>311 | 129=>329 | 317=>355 | 318=>356 | 319=>357 | 320=>358 | 337=>401 | 338=>402 | n=>n, fun | 3=>3 | 9=>9 | 2=>2 | 4=>4 | 171=>398 | 0=>0 | 53=>399 | 37=>227 | 5=>5 | 173=>402 | 212=>436 | 51=>417 | 20=>20 | 213=>437 | 46=>389 | 232=>493 | 233=>494 | n=>n, fun | 17=>1 | 18=>2 | 19=>3 | n=>n⟩
theorem Tryz.laysM171:Go.Proofs.LaysM.n171 Tryz.prog Tryz.laysM171_ren:={
 mixed:=by kernel_rfl
 f129:=Tryz.func329.trans (congrArg some (by kernel_rfl))
 f171:=Tryz.func123.trans (congrArg some (by kernel_rfl))
 f243:=Tryz.func206.trans (congrArg some (by kernel_rfl))
 f246:=Tryz.func257.trans (congrArg some (by kernel_rfl))
 f283:=Tryz.func308.trans (congrArg some (by kernel_rfl))
 f284:=Tryz.func309.trans (congrArg some (by kernel_rfl))
 f285:=Tryz.func310.trans (congrArg some (by kernel_rfl))
 f286:=Tryz.func311.trans (congrArg some (by kernel_rfl))
 f317:=Tryz.func355.trans (congrArg some (by kernel_rfl))
 f318:=Tryz.func356.trans (congrArg some (by kernel_rfl))
 f319:=Tryz.func357.trans (congrArg some (by kernel_rfl))
 f320:=Tryz.func358.trans (congrArg some (by kernel_rfl))
 f337:=Tryz.func401.trans (congrArg some (by kernel_rfl))
 f338:=Tryz.func402.trans (congrArg some (by kernel_rfl))
 t0:=Tryz.underlying0
 a0:=Tryz.isAgg0
 z0:=Tryz.sizeOf0
 v0:=Tryz.zeroValue0
 t2:=Tryz.underlying2
 a2:=Tryz.isAgg2
 z2:=Tryz.sizeOf2
 v2:=Tryz.zeroValue2
 t3:=Tryz.underlying3
 a3:=Tryz.isAgg3
 z3:=Tryz.sizeOf3
 v3:=Tryz.zeroValue3
 t4:=Tryz.underlying4
 a4:=Tryz.isAgg4
 z4:=Tryz.sizeOf4
 v4:=Tryz.zeroValue4
 t5:=Tryz.underlying5
 a5:=Tryz.isAgg5
 z5:=Tryz.sizeOf5
 v5:=Tryz.zeroValue5
 t9:=Tryz.underlying9
 a9:=Tryz.isAgg9
 z9:=Tryz.sizeOf9
 v9:=Tryz.zeroValue9
 t20:=Tryz.underlying20
 a20:=Tryz.isAgg20
 z20:=Tryz.sizeOf20
 v20:=Tryz.zeroValue20
 t37:=Tryz.underlying227
 a37:=Tryz.isAgg227
 z37:=Tryz.sizeOf227
 v37:=Tryz.zeroValue227
 t46:=Tryz.underlying389
 a46:=Tryz.isAgg389
 z46:=Tryz.sizeOf389
 v46:=Tryz.zeroValue389
 t51:=Tryz.underlying417
 a51:=Tryz.isAgg417
 z51:=Tryz.sizeOf417
 v51:=Tryz.zeroValue417
 t53:=Tryz.underlying399
 a53:=Tryz.isAgg399
 z53:=Tryz.sizeOf399
 v53:=Tryz.zeroValue399
 t171:=Tryz.underlying398
 a171:=Tryz.isAgg398
 z171:=Tryz.sizeOf398
 v171:=Tryz.zeroValue398
 t173:=Tryz.underlying402
 a173:=Tryz.isAgg402
 z173:=Tryz.sizeOf402
 v173:=Tryz.zeroValue402
 t212:=Tryz.underlying436
 a212:=Tryz.isAgg436
 z212:=Tryz.sizeOf436
 v212:=Tryz.zeroValue436
 t213:=Tryz.underlying437
 a213:=Tryz.isAgg437
 z213:=Tryz.sizeOf437
 t232:=Tryz.underlying493
 a232:=Tryz.isAgg493
 z232:=Tryz.sizeOf493
 v232:=Tryz.zeroValue493
 t233:=Tryz.underlying494
 a233:=Tryz.isAgg494
 z233:=Tryz.sizeOf494
 v233:=Tryz.zeroValue494
 g17:=by kernel_rfl
 g18:=by kernel_rfl
 g19:=by kernel_rfl
 i0:=by kernel_rfl
 i2:=by kernel_rfl
 i3:=by kernel_rfl
 i4:=by kernel_rfl
 i5:=by kernel_rfl
 i9:=by kernel_rfl
 i20:=by kernel_rfl
 i37:=by kernel_rfl
 i46:=by kernel_rfl
 i51:=by kernel_rfl
 i53:=by kernel_rfl
 i171:=by kernel_rfl
 i173:=by kernel_rfl
 i212:=by kernel_rfl
 i232:=by kernel_rfl
 i233:=by kernel_rfl
 m17:=by kernel_rfl
 m18:=by kernel_rfl
 m19:=by kernel_rfl }
open Go.RowKit Go.Sort Go.Lib in
theorem Tryz.strconv_Itoa (n:Int) (h0:-9223372036854775808 <= n) (h1:n <= 9223372036854775807) (w:World) (htab:Lib.TabIs Tryz.prog w "internal/strconv.uint64pow10" .u64 Lib.pow10Tab):
  Calls Tryz.prog 123 #[.int .i64 n] w fun e w'=>e = .returned (.string ⟨(Lib.itoa n).toArray⟩) /\ ∃ k os, w' = grow (w.drewN k) os:=Any.strconv_Itoa Tryz.laysM171 n h0 h1 w htab
def Tryz.lays217_ren:Go.Shelf.Ren:=⟨fun | 217=>333 | 266=>364 | n=>n, fun | 9=>9 | 5=>5 | 3=>3 | n=>n, fun | n=>n⟩
theorem Tryz.lays217:Go.Proofs.Lays.n217 Tryz.prog Tryz.lays217_ren:={
 mixed:=by kernel_rfl
 f217:=Tryz.func333.trans (congrArg some (by kernel_rfl))
 f266:=Tryz.func364.trans (congrArg some (by kernel_rfl))
 t3:=Tryz.underlying3
 a3:=Tryz.isAgg3
 z3:=Tryz.sizeOf3
 v3:=Tryz.zeroValue3
 t5:=Tryz.underlying5
 a5:=Tryz.isAgg5
 z5:=Tryz.sizeOf5
 v5:=Tryz.zeroValue5
 t9:=Tryz.underlying9
 a9:=Tryz.isAgg9
 z9:=Tryz.sizeOf9
 v9:=Tryz.zeroValue9 }
open Go.RowKit Go.Lib in
theorem Tryz.stringslite_IndexByte (s:ByteArray) (c:Int) (w:World):
  Calls Tryz.prog 333 #[.string s, .int .u8 c] w fun e w'=>e = .returned (.int .i64 (Lib.indexByte s.data.toList c.toNat.toUInt8)) /\ w' = w:=Any.stringslite_IndexByte Tryz.lays217 s c w
def Tryz.lays138_ren:Go.Shelf.Ren:=⟨fun | 138=>338 | 195=>366 | 218=>368 | 143=>339 | 219=>289 | 217=>333 | 225=>334 | 224=>335 | 267=>336 | 266=>364 | 314=>365 | n=>n, fun | 9=>9 | 3=>3 | 4=>4 | 5=>5 | 0=>0 | 46=>389 | 146=>444 | 51=>417 | n=>n, fun | 1=>0 | n=>n⟩
theorem Tryz.lays138:Go.Proofs.Lays.n138 Tryz.prog Tryz.lays138_ren:={
 mixed:=by kernel_rfl
 f138:=Tryz.func338.trans (congrArg some (by kernel_rfl))
 f143:=Tryz.func339.trans (congrArg some (by kernel_rfl))
 f195:=Tryz.func366.trans (congrArg some (by kernel_rfl))
 f217:=Tryz.func333.trans (congrArg some (by kernel_rfl))
 f218:=Tryz.func368.trans (congrArg some (by kernel_rfl))
 f219:=Tryz.func289.trans (congrArg some (by kernel_rfl))
 f224:=Tryz.func335.trans (congrArg some (by kernel_rfl))
 f225:=Tryz.func334.trans (congrArg some (by kernel_rfl))
 f266:=Tryz.func364.trans (congrArg some (by kernel_rfl))
 f267:=Tryz.func336.trans (congrArg some (by kernel_rfl))
 f314:=Tryz.func365.trans (congrArg some (by kernel_rfl))
 t0:=Tryz.underlying0
 a0:=Tryz.isAgg0
 z0:=Tryz.sizeOf0
 v0:=Tryz.zeroValue0
 t3:=Tryz.underlying3
 a3:=Tryz.isAgg3
 z3:=Tryz.sizeOf3
 v3:=Tryz.zeroValue3
 t4:=Tryz.underlying4
 a4:=Tryz.isAgg4
 z4:=Tryz.sizeOf4
 v4:=Tryz.zeroValue4
 t5:=Tryz.underlying5
 a5:=Tryz.isAgg5
 z5:=Tryz.sizeOf5
 v5:=Tryz.zeroValue5
 t9:=Tryz.underlying9
 a9:=Tryz.isAgg9
 z9:=Tryz.sizeOf9
 v9:=Tryz.zeroValue9
 t46:=Tryz.underlying389
 a46:=Tryz.isAgg389
 z46:=Tryz.sizeOf389
 v46:=Tryz.zeroValue389
 t51:=Tryz.underlying417
 a51:=Tryz.isAgg417
 z51:=Tryz.sizeOf417
 v51:=Tryz.zeroValue417
 t146:=Tryz.underlying444
 a146:=Tryz.isAgg444
 z146:=Tryz.sizeOf444
 v146:=Tryz.zeroValue444
 g1:=by kernel_rfl }
open Go.RowKit Go.Lib in
theorem Tryz.strings_Count_one (s:ByteArray) (c:UInt8) (w:World):
  Calls Tryz.prog 338 #[.string s, .string ⟨#[c]⟩] w fun e w'=>e = .returned (.int .i64 (Lib.countByte s.data.toList c)) /\ w' = w:=Any.strings_Count_one Tryz.lays138 s c w
theorem Tryz.lays240:Go.Proofs.Lays.n240 Tryz.prog Tryz.lays156_ren:=
 let L:=Tryz.lays156
 { mixed:=L.mixed, f240:=L.f240, f276:=L.f276, t0:=L.t0, a0:=L.a0, z0:=L.z0, v0:=L.v0, t4:=L.t4, a4:=L.a4, z4:=L.z4, v4:=L.v4, t9:=L.t9, a9:=L.a9, z9:=L.z9, v9:=L.v9, t20:=L.t20, a20:=L.a20, z20:=L.z20, v20:=L.v20, t70:=L.t70, a70:=L.a70, z70:=L.z70, v70:=L.v70, t72:=L.t72, a72:=L.a72, z72:=L.z72, v72:=L.v72, t164:=L.t164, a164:=L.a164, z164:=L.z164, v164:=L.v164 }
end Go.Proofs
namespace Go.Av
open Go.Proofs Go.Bv
theorem zsv {w:World} (h:TabAt w 1 0):Lib.TabIs Tryz.prog w "internal/strconv.uint64pow10" .u64 Lib.pow10Tab:=by
 obtain ⟨T, fz, hh⟩:=h
 have hg:Tryz.prog.globalNamed "internal/strconv.uint64pow10" = some 1:=by kernel_rfl
 simp only[Lib.TabIs, World.var?, hg, Option.bind_some, hh]
 rfl
theorem ztD:zq5 Tryz.prog 123 1:=⟨⟨_, Tryz.func123, by kernel_rfl, rfl⟩, fun n w h1 h2 ht=>(Tryz.strconv_Itoa n h1 h2 w (zsv ht)).mono (by
 rintro e w' ⟨rfl, k, os, rfl⟩
 exact ⟨rfl, Go.Lib.below_grow _ w (Nat.le_refl _) k os⟩)⟩
theorem ztI:zrz Tryz.prog 256:=⟨⟨_, Tryz.func256, by kernel_rfl, rfl⟩, fun a c sep w=>(Tryz.strings_Join_none a c sep w).mono (by
 rintro e w' ⟨rfl, rfl⟩
 exact ⟨rfl, Go.RowKit.Below.refl _ _⟩), fun bk o c xs sep w h1 h2 h3 h4 h5=>Tryz.strings_Join bk o c xs sep w h1 h2 h3 h4 h5⟩
theorem ztZ:ztd Tryz.prog 333:=⟨⟨_, Tryz.func333, by kernel_rfl, rfl⟩, fun s c w=>Tryz.stringslite_IndexByte s c w⟩
theorem ztO:ztt Tryz.prog 338:=⟨⟨_, Tryz.func338, by kernel_rfl, rfl⟩, fun s c w=>Tryz.strings_Count_one s c w⟩
theorem ztr:zrx Tryz.prog 207 229:=⟨⟨_, Tryz.func207, by kernel_rfl, rfl⟩, fun b w h1 h2 h3=>Any.Builder_copyCheck_fresh Tryz.lays240 Tryz.Builder_Extra_156.toX72 b w h1 h2 h3, fun b w h1=>Any.Builder_copyCheck_used Tryz.lays240 Tryz.Builder_Extra_156.toX72 b w h1⟩
noncomputable section
def drT:FuncId -> Bool:=fun _=>false
def zts:Orc:=zia (zrE 207 229) (zoz (znW (zsr 123 256 1) (zsq 333 338)))
theorem zcv:zeK Tryz.prog zts:=zg7 (zp1 ztr) (znx (zns (zqV ztD ztI) (zqu ztZ ztO)))
end
end Go.Av
end
section
namespace Go.Av
open Go.Proofs Go.Bv
noncomputable section
set_option maxRecDepth 100000
def dCouldE:DEnt:=⟨26, [.agg [.sl [[.v (.int .i64 73000), .v (.int .i64 78000)], [.v (.int .i64 0), .v (.int .i64 35999)]], .sl [[.v (.int .i64 0)], [.v (.int .i64 128)], [.v (.int .i64 0)], [.v (.int .i64 256)], [.v (.int .i64 0)], [.v (.int .i64 0)], [.v (.int .i64 0)], [.v (.int .i64 2)], [.v (.int .i64 8)], [.v (.int .i64 0)]], .v (.int .i64 1)], .sl [[.sl [[.v (.string ⟨#[55, 53, 51, 49, 48]⟩)], [.v (.string ⟨#[50, 55, 48, 51, 48]⟩)], [.v (.string ⟨#[57, 50, 56, 52, 48]⟩)]]]]], .tup [.sl [[.sl [[.v (.int .i64 75310)], [.v (.int .i64 27030)]]], [.sl [[.v (.int .i64 75810)], [.v (.int .i64 27030)]]]], .v (.int .i64 0)]⟩
theorem zsa:zet Tryz.prog 1 dCouldE.f dCouldE.args dCouldE.r:=zzZ zcv (n:=10000) (drt:=drT) (by kernel_rfl)
end
end Go.Av
end
section
namespace Go.Av
open Go.Proofs Go.Bv
noncomputable section
set_option maxRecDepth 100000
def dKnownE:DEnt:=⟨49, [.agg [.sl [[.v (.int .i64 73000), .v (.int .i64 78000)], [.v (.int .i64 0), .v (.int .i64 35999)]], .sl [[.v (.int .i64 0)], [.v (.int .i64 128)], [.v (.int .i64 0)], [.v (.int .i64 256)], [.v (.int .i64 0)], [.v (.int .i64 0)], [.v (.int .i64 0)], [.v (.int .i64 2)], [.v (.int .i64 8)], [.v (.int .i64 0)]], .v (.int .i64 1)], .sl [[.sl [[.v (.string ⟨#[55, 53, 51, 49, 48]⟩)], [.v (.string ⟨#[50, 55, 48, 51, 48]⟩)], [.v (.string ⟨#[57, 50, 56, 52, 48]⟩)]]]]], .tup [.sl [[.v (.string ⟨#[55, 53, 63, 49, 48]⟩)], [.v (.string ⟨#[50, 55, 48, 51, 48]⟩)]], .v (.int .i64 0)]⟩
theorem zsj:zet Tryz.prog 1 dKnownE.f dKnownE.args dKnownE.r:=zzZ zcv (n:=10000) (drt:=drT) (by kernel_rfl)
end
end Go.Av
end
section
namespace Go.Av
open Go.Proofs Go.Bv
noncomputable section
set_option maxRecDepth 100000
def dCheckE:DEnt:=⟨51, [.agg [.sl [[.v (.int .i64 0), .v (.int .i64 0), .v (.int .i64 0), .v (.int .i64 0), .v (.int .i64 0), .v (.int .i64 5), .v (.int .i64 0), .v (.int .i64 0), .sl [[.v (.int .i64 0), .v (.int .i64 0), .v (.int .i64 0)]], .v (.int .i64 0)], [.v (.int .i64 0), .v (.int .i64 0), .v (.int .i64 0), .v (.int .i64 0), .v (.int .i64 0), .v (.int .i64 0), .v (.int .i64 0), .v (.int .i64 0), .sl [[.v (.int .i64 0), .v (.int .i64 0), .v (.int .i64 0)]], .v (.int .i64 3)]], .sl [[.v (.int .i64 73000), .v (.int .i64 78000)], [.v (.int .i64 0), .v (.int .i64 35999)]], .sl [[.v (.int .i64 0)], [.v (.int .i64 128)], [.v (.int .i64 0)], [.v (.int .i64 256)], [.v (.int .i64 0)], [.v (.int .i64 0)], [.v (.int .i64 0)], [.v (.int .i64 2)], [.v (.int .i64 8)], [.v (.int .i64 0)]], .v (.int .i64 1), .v (.int .i64 100), .v (.int .i64 2), .v (.int .i64 31), .v (.int .i64 2), .v (.int .i64 2), .v (.int .i64 100), .v (.int .i64 2), .v (.slice none 0 0), .v (.slice none 0 0), .sl [[.v (.int .i64 15), .v (.int .i64 45), .v (.int .i64 8000), .v (.int .i64 3000)]], .v (.int .i64 300), .v (.int .i64 360), .v (.int .i64 600), .v (.int .i64 360), .v (.int .i64 1080), .v (.int .i64 3), .sl [[.v (.int .i64 1)], [.v (.int .i64 2)]], .v (.int .i64 500), .v (.int .i64 30), .v (.int .i64 400), .v (.int .i64 2)]], .v (.int .i64 0)⟩
theorem zsp:zet Tryz.prog 1 dCheckE.f dCheckE.args dCheckE.r:=zzZ zcv (n:=10000) (drt:=drT) (by kernel_rfl)
def dDrawAE:DEnt:=⟨395, [.agg [.v (.int .i64 2), .v (.int .i64 2), .v (.int .i64 100), .sl [[.v (.int .i64 0), .v (.int .i64 75995), .v (.int .i64 76005)]]]], .tup [.agg [.v (.int .i64 2), .sl [[.v (.int .i64 76000)], [.v (.int .i64 76000)], [.v (.int .i64 76000)], [.v (.int .i64 76000)]]], .v (.int .i64 0)]⟩
theorem zse:zet Tryz.prog 1 dDrawAE.f dDrawAE.args dDrawAE.r:=zzZ zcv (n:=10000) (drt:=drT) (by kernel_rfl)
def dDrawBE:DEnt:=⟨395, [.agg [.v (.int .i64 2), .v (.int .i64 2), .v (.int .i64 100), .sl [[.v (.int .i64 0), .v (.int .i64 75995), .v (.int .i64 76005)], [.v (.int .i64 3), .v (.int .i64 75310), .v (.int .i64 75810)]]]], .tup [.agg [.v (.int .i64 2), .sl [[.v (.int .i64 76000)], [.v (.int .i64 75902)], [.v (.int .i64 75902)], [.v (.int .i64 75802)]]], .v (.int .i64 0)]⟩
theorem zso:zet Tryz.prog 1 dDrawBE.f dDrawBE.args dDrawBE.r:=zzZ zcv (n:=10000) (drt:=drT) (by kernel_rfl)
end
end Go.Av
end
section
namespace Go.Av
open Go.Proofs Go.Bv
noncomputable section
set_option maxRecDepth 100000
def zsC:List DEnt:=[dCouldE, dKnownE, dCheckE, dDrawAE, dDrawBE]
theorem zqH:∀ e ∈ zsC, zet Tryz.prog 1 e.f e.args e.r:=fun e he=>by
 simp only[zsC, List.mem_cons, List.not_mem_nil, or_false] at he
 rcases he with rfl | rfl | rfl | rfl | rfl
 ·exact zsa
 ·exact zsj
 ·exact zsp
 ·exact zse
 ·exact zso
def ztX:Orc:=zia (zrW 1 zsC) zts
theorem zpL:zeK Tryz.prog ztX:=zg7 (zql zqH) zcv
theorem known {G:Glob} (hG:∀ w, G.holds w -> TabAt w 1 0):ACall Tryz.prog G 8 [] (.v (.bool true)):=zkD zpL hG (n:=10000) (drt:=drT) (by kernel_rfl)
end
end Go.Av
end
