import Derived.Test.YtdjncbjfejdamaaGreatDoorPlatU
import Derived.Test.YtdjncbjfejdamaaGreatDoorPlatM
import Derived.Test.YtdjncbjfejdamaaGreatDoorChLA
import Derived.Shelf.SlSortCmp.WholeK
import Derived.Shelf.SlSortCmp.Whole1
import Derived.Shelf.SlSortCmp.NoneTotal
import Derived.Shelf.Small.Wraps
import Derived.Test.YtdjncbjfejdamaaGreatDoorChecked
import Derived.Test.YtdjncbjfejdamaaGreatDoorChLC
import Derived.Test.YtdjncbjfejdamaaGreatDoorChLB
import Derived.Test.YtdjncbjfejdamaaGreatDoorPlatV
import Derived.Shelf.RegionOpenPlain
import Derived.Deep.LoopGhost
import Derived.Lib.Walk
import Derived.Lib.SliceRun
import Derived.OwnWalk
set_option linter.unusedVariables false
set_option linter.unusedSimpArgs false
section
namespace Go.Proofs
open Go.Shelf
set_option maxRecDepth 100000
def Tryz.sortK_ren:Go.Shelf.Ren:=⟨fun | 6=>71 | 15=>123 | 14=>122 | 28=>154 | 29=>155 | 20=>146 | 21=>147 | 22=>148 | 23=>149 | 24=>150 | 25=>151 | 26=>152 | 27=>153 | 46=>170 | 47=>171 | 48=>172 | 49=>173 | 50=>174 | 57=>187 | n=>n, fun | 22=>48 | 24=>50 | 25=>118 | 3=>3 | 39=>166 | 0=>0 | 53=>192 | 55=>194 | 4=>4 | 46=>186 | 45=>185 | 50=>108 | 5=>5 | 9=>9 | 66=>203 | 70=>207 | 76=>226 | 77=>227 | n=>n, fun | n=>n⟩
theorem Tryz.sortK:Go.Proofs.SlLaysF0.n6 Tryz.prog Tryz.sortK_ren:={
 mixed:=by kernel_rfl
 f6:=⟨Tryz.f71.name, by decide, Tryz.func71.trans (congrArg some (by kernel_rfl))⟩
 f14:=⟨Tryz.f122.name, by decide, Tryz.func122.trans (congrArg some (by kernel_rfl))⟩
 f15:=Tryz.func123.trans (congrArg some (by kernel_rfl))
 f20:=⟨Tryz.f146.name, by decide, Tryz.func146.trans (congrArg some (by kernel_rfl))⟩
 f21:=⟨Tryz.f147.name, by decide, Tryz.func147.trans (congrArg some (by kernel_rfl))⟩
 f22:=⟨Tryz.f148.name, by decide, Tryz.func148.trans (congrArg some (by kernel_rfl))⟩
 f23:=⟨Tryz.f149.name, by decide, Tryz.func149.trans (congrArg some (by kernel_rfl))⟩
 f24:=⟨Tryz.f150.name, by decide, Tryz.func150.trans (congrArg some (by kernel_rfl))⟩
 f25:=⟨Tryz.f151.name, by decide, Tryz.func151.trans (congrArg some (by kernel_rfl))⟩
 f26:=⟨Tryz.f152.name, by decide, Tryz.func152.trans (congrArg some (by kernel_rfl))⟩
 f27:=⟨Tryz.f153.name, by decide, Tryz.func153.trans (congrArg some (by kernel_rfl))⟩
 f28:=Tryz.func154.trans (congrArg some (by kernel_rfl))
 f29:=Tryz.func155.trans (congrArg some (by kernel_rfl))
 f46:=⟨Tryz.f170.name, by decide, Tryz.func170.trans (congrArg some (by kernel_rfl))⟩
 f47:=Tryz.func171.trans (congrArg some (by kernel_rfl))
 f48:=Tryz.func172.trans (congrArg some (by kernel_rfl))
 f49:=⟨Tryz.f173.name, by decide, Tryz.func173.trans (congrArg some (by kernel_rfl))⟩
 f50:=⟨Tryz.f174.name, by decide, Tryz.func174.trans (congrArg some (by kernel_rfl))⟩
 f57:=⟨Tryz.f187.name, by decide, Tryz.func187.trans (congrArg some (by kernel_rfl))⟩
 t0:=Tryz.underlying0
 a0:=Tryz.isAgg0
 z0:=Tryz.sizeOf0
 v0:=Tryz.zeroValue0
 t3:=Tryz.underlying3
 a3:=Tryz.isAgg3
 z3:=Tryz.sizeOf3
 v3:=Tryz.zeroValue3
 t4:=Tryz.underlying4
 a4:=Tryz.isAgg4
 z4:=Tryz.sizeOf4
 v4:=Tryz.zeroValue4
 t5:=Tryz.underlying5
 a5:=Tryz.isAgg5
 z5:=Tryz.sizeOf5
 v5:=Tryz.zeroValue5
 t9:=Tryz.underlying9
 a9:=Tryz.isAgg9
 z9:=Tryz.sizeOf9
 v9:=Tryz.zeroValue9
 t22:=Tryz.underlying48
 a22:=Tryz.isAgg48
 z22:=Tryz.sizeOf48
 v22:=Tryz.zeroValue48
 t25:=Tryz.underlying118
 a25:=Tryz.isAgg118
 z25:=Tryz.sizeOf118
 v25:=Tryz.zeroValue118
 t39:=Tryz.underlying166
 a39:=Tryz.isAgg166
 z39:=Tryz.sizeOf166
 v39:=Tryz.zeroValue166
 t45:=Tryz.underlying185
 a45:=Tryz.isAgg185
 z45:=Tryz.sizeOf185
 v45:=Tryz.zeroValue185
 t46:=Tryz.underlying186
 a46:=Tryz.isAgg186
 z46:=Tryz.sizeOf186
 v46:=Tryz.zeroValue186
 t50:=Tryz.underlying108
 a50:=Tryz.isAgg108
 z50:=Tryz.sizeOf108
 v50:=Tryz.zeroValue108
 t53:=Tryz.underlying192
 a53:=Tryz.isAgg192
 z53:=Tryz.sizeOf192
 v53:=Tryz.zeroValue192
 t55:=Tryz.underlying194
 a55:=Tryz.isAgg194
 z55:=Tryz.sizeOf194
 v55:=Tryz.zeroValue194
 t66:=Tryz.underlying203
 a66:=Tryz.isAgg203
 z66:=Tryz.sizeOf203
 v66:=Tryz.zeroValue203
 t70:=Tryz.underlying207
 a70:=Tryz.isAgg207
 z70:=Tryz.sizeOf207
 v70:=Tryz.zeroValue207
 t76:=Tryz.underlying226
 a76:=Tryz.isAgg226
 z76:=Tryz.sizeOf226
 v76:=Tryz.zeroValue226
 t77:=Tryz.underlying227
 a77:=Tryz.isAgg227
 z77:=Tryz.sizeOf227
 v77:=Tryz.zeroValue227 }
def Tryz.sort1_ren:Go.Shelf.Ren:=⟨fun | 6=>76 | 15=>123 | 14=>131 | 28=>154 | 29=>155 | 20=>157 | 21=>158 | 22=>159 | 23=>160 | 24=>161 | 25=>162 | 26=>163 | 27=>164 | 46=>175 | 47=>171 | 48=>172 | 49=>176 | 50=>177 | 57=>188 | n=>n, fun | 22=>37 | 24=>48 | 25=>126 | 3=>3 | 39=>166 | 0=>0 | 53=>192 | 55=>194 | 4=>4 | 46=>186 | 45=>185 | 50=>108 | 5=>5 | 9=>9 | 66=>203 | 70=>207 | 76=>226 | 77=>227 | n=>n, fun | n=>n⟩
theorem Tryz.sort1:Go.Proofs.SlLaysF.n6 Tryz.prog Tryz.sort1_ren:={
 mixed:=by kernel_rfl
 f6:=⟨Tryz.f76.name, by decide, Tryz.func76.trans (congrArg some (by kernel_rfl))⟩
 f14:=⟨Tryz.f131.name, by decide, Tryz.func131.trans (congrArg some (by kernel_rfl))⟩
 f15:=Tryz.func123.trans (congrArg some (by kernel_rfl))
 f20:=⟨Tryz.f157.name, by decide, Tryz.func157.trans (congrArg some (by kernel_rfl))⟩
 f21:=⟨Tryz.f158.name, by decide, Tryz.func158.trans (congrArg some (by kernel_rfl))⟩
 f22:=⟨Tryz.f159.name, by decide, Tryz.func159.trans (congrArg some (by kernel_rfl))⟩
 f23:=⟨Tryz.f160.name, by decide, Tryz.func160.trans (congrArg some (by kernel_rfl))⟩
 f24:=⟨Tryz.f161.name, by decide, Tryz.func161.trans (congrArg some (by kernel_rfl))⟩
 f25:=⟨Tryz.f162.name, by decide, Tryz.func162.trans (congrArg some (by kernel_rfl))⟩
 f26:=⟨Tryz.f163.name, by decide, Tryz.func163.trans (congrArg some (by kernel_rfl))⟩
 f27:=⟨Tryz.f164.name, by decide, Tryz.func164.trans (congrArg some (by kernel_rfl))⟩
 f28:=Tryz.func154.trans (congrArg some (by kernel_rfl))
 f29:=Tryz.func155.trans (congrArg some (by kernel_rfl))
 f46:=⟨Tryz.f175.name, by decide, Tryz.func175.trans (congrArg some (by kernel_rfl))⟩
 f47:=Tryz.func171.trans (congrArg some (by kernel_rfl))
 f48:=Tryz.func172.trans (congrArg some (by kernel_rfl))
 f49:=⟨Tryz.f176.name, by decide, Tryz.func176.trans (congrArg some (by kernel_rfl))⟩
 f50:=⟨Tryz.f177.name, by decide, Tryz.func177.trans (congrArg some (by kernel_rfl))⟩
 f57:=⟨Tryz.f188.name, by decide, Tryz.func188.trans (congrArg some (by kernel_rfl))⟩
 t0:=Tryz.underlying0
 a0:=Tryz.isAgg0
 z0:=Tryz.sizeOf0
 v0:=Tryz.zeroValue0
 t3:=Tryz.underlying3
 a3:=Tryz.isAgg3
 z3:=Tryz.sizeOf3
 v3:=Tryz.zeroValue3
 t4:=Tryz.underlying4
 a4:=Tryz.isAgg4
 z4:=Tryz.sizeOf4
 v4:=Tryz.zeroValue4
 t5:=Tryz.underlying5
 a5:=Tryz.isAgg5
 z5:=Tryz.sizeOf5
 v5:=Tryz.zeroValue5
 t9:=Tryz.underlying9
 a9:=Tryz.isAgg9
 z9:=Tryz.sizeOf9
 v9:=Tryz.zeroValue9
 t22:=Tryz.underlying37
 a22:=Tryz.isAgg37
 z22:=Tryz.sizeOf37
 v22:=Tryz.zeroValue37
 a24:=Tryz.isAgg48
 z24:=Tryz.sizeOf48
 t25:=Tryz.underlying126
 a25:=Tryz.isAgg126
 z25:=Tryz.sizeOf126
 v25:=Tryz.zeroValue126
 t39:=Tryz.underlying166
 a39:=Tryz.isAgg166
 z39:=Tryz.sizeOf166
 v39:=Tryz.zeroValue166
 t45:=Tryz.underlying185
 a45:=Tryz.isAgg185
 z45:=Tryz.sizeOf185
 v45:=Tryz.zeroValue185
 t46:=Tryz.underlying186
 a46:=Tryz.isAgg186
 z46:=Tryz.sizeOf186
 v46:=Tryz.zeroValue186
 t50:=Tryz.underlying108
 a50:=Tryz.isAgg108
 z50:=Tryz.sizeOf108
 v50:=Tryz.zeroValue108
 t53:=Tryz.underlying192
 a53:=Tryz.isAgg192
 z53:=Tryz.sizeOf192
 v53:=Tryz.zeroValue192
 t55:=Tryz.underlying194
 a55:=Tryz.isAgg194
 z55:=Tryz.sizeOf194
 v55:=Tryz.zeroValue194
 t66:=Tryz.underlying203
 a66:=Tryz.isAgg203
 z66:=Tryz.sizeOf203
 v66:=Tryz.zeroValue203
 t70:=Tryz.underlying207
 a70:=Tryz.isAgg207
 z70:=Tryz.sizeOf207
 v70:=Tryz.zeroValue207
 t76:=Tryz.underlying226
 a76:=Tryz.isAgg226
 z76:=Tryz.sizeOf226
 v76:=Tryz.zeroValue226
 t77:=Tryz.underlying227
 a77:=Tryz.isAgg227
 z77:=Tryz.sizeOf227
 v77:=Tryz.zeroValue227 }
def Tryz.lays122_ren:Go.Shelf.Ren:=⟨fun | 122=>125 | 215=>156 | n=>n, fun | 3=>3 | 4=>4 | n=>n, fun | n=>n⟩
theorem Tryz.lays122:Go.Proofs.Lays.n122 Tryz.prog Tryz.lays122_ren:={
 mixed:=by kernel_rfl
 f122:=Tryz.func125.trans (congrArg some (by kernel_rfl))
 f215:=Tryz.func156.trans (congrArg some (by kernel_rfl))
 t3:=Tryz.underlying3
 a3:=Tryz.isAgg3
 z3:=Tryz.sizeOf3
 v3:=Tryz.zeroValue3
 t4:=Tryz.underlying4
 a4:=Tryz.isAgg4
 z4:=Tryz.sizeOf4
 v4:=Tryz.zeroValue4 }
end Go.Proofs
namespace Go.Av
open Go.Proofs Go.Shelf Go.RowKit Go.Sort
set_option maxRecDepth 100000
theorem zIx (x y:Int) (w:World):Calls Tryz.prog 125 #[.int .i64 x, .int .i64 y] w fun e w'=>e = .returned (.int .i64 (Lib.compareInt x y)) /\ w' = w:=Any.cmp_Compare_int Tryz.lays122 x y w
theorem zRa (b:Nat) (x y r:Int) (w:World) (h0:w.cell? ⟨b, 0, none⟩ = some (.int .i64 x)) (h1:w.cell? ⟨b, 0 + 1, none⟩ = some (.int .i64 y)) (hr0:x ≠ 0 -> x = r) (hr1:x = 0 -> y ≠ 0 -> y = r) (hr2:x = 0 -> y = 0 -> 0 = r):
  Calls Tryz.prog 124 #[.slice (some ⟨b, 0, none⟩) 2 2] w fun e w'=>e = .returned (.int .i64 r) /\ w' = w:=by
 go_enter Tryz.func124, Tryz.ntmps124
 go_wp2
 go_loop [5, 8] (fun _ i=>∃ k:Nat, k <= 2 /\ i = .int .i64 k /\ (0 < k -> x = 0) /\ (1 < k -> y = 0)) (fun _ i=>2 - (RowKit.intOf i).toNat)
 case atStart=>exact ⟨0, by omega, rfl, fun h=>absurd h (by omega), fun h=>absurd h (by omega)⟩
 case round=>
  obtain ⟨k, hk, rfl, hx, hy⟩:=hrel
  have hk3:k = 0 ∨ k = 1 ∨ k = 2:=by omega
  rcases hk3 with rfl | rfl | rfl
  ·
   go_wp2
   ·
    rename_i h _
    go_ret
    exact ⟨congrArg (fun z=>Ending.returned (Value.int .i64 z)) (hr0 (by simpa using h)), rfl⟩
   ·
    rename_i h
    exact ⟨⟨1, by omega, rfl, fun _=>by simpa using h, fun h=>absurd h (by omega)⟩, by simp [RowKit.intOf]⟩
  ·
   have hx:=hx (by omega)
   go_wp2
   ·
    rename_i h _
    go_ret
    exact ⟨congrArg (fun z=>Ending.returned (Value.int .i64 z)) (hr1 hx (by simpa using h)), rfl⟩
   ·
    rename_i h
    exact ⟨⟨2, by omega, rfl, fun _=>hx, fun _=>by simpa using h⟩, by simp [RowKit.intOf]⟩
  ·
   have hx:=hx (by omega)
   have hy:=hy (by omega)
   go_wp2
   go_ret
   exact ⟨rfl, rfl⟩
def orI (x y:Int):Int:=if x = 0 then y else x
theorem zQ4 (b:Nat) (x y:Int) (w:World) (h0:w.cell? ⟨b, 0, none⟩ = some (.int .i64 x)) (h1:w.cell? ⟨b, 0 + 1, none⟩ = some (.int .i64 y)):
  Calls Tryz.prog 124 #[.slice (some ⟨b, 0, none⟩) 2 2] w fun e w'=>e = .returned (.int .i64 (orI x y)) /\ w' = w:=
 zRa b x y _ w h0 h1 (fun h=>(if_neg h).symm) (fun h _=>(if_pos h).symm) (fun h h2=>by unfold orI; rw [if_pos h, h2])
def zHV (x y:Int × Int):Int:=orI (Lib.compareInt x.1 y.1) (Lib.compareInt x.2 y.2)
theorem heap_alloc_last (W:World) (o:Obj):(W.alloc o).heap[W.heap.size]? = some o:=by simp only[World.alloc, Array.getElem?_push, if_pos]
theorem zSg (W:World) (A B:Obj):((W.alloc A).alloc B).heap.size = W.heap.size + 2:=by simp only[World.alloc, Array.size_push]
theorem zR0 (W:World) (A B:Obj):((W.alloc A).alloc B).heap[W.heap.size]? = some A /\ ((W.alloc A).alloc B).heap[W.heap.size + 1]? = some B:=by
 constructor
 ·
  simp only[World.alloc]
  rw [Array.getElem?_push, if_neg (by rw [Array.size_push]; omega), Array.getElem?_push, if_pos rfl]
 ·
  simp only[World.alloc]
  rw [Array.getElem?_push, if_pos (by rw [Array.size_push])]
theorem zHS {w:World} {b off:Nat} {c:Array Value} {T:TypeId} {z:Nat × Nat} {v:Value} (h:w.heap[b]? = some (.cells c T z)) (hv:c[off]? = some v):w.cell? ⟨b, off, none⟩ = some v:=by
 simp only[World.cell?, h]
 exact hv
theorem zIc {W:World} {b off:Nat} {v:Value} (hb:b < W.heap.size) (h:W.cell? ⟨b, off, none⟩ = some v):∀ n os, (grow (W.drewN n) os).cell? ⟨b, off, none⟩ = some v:=fun n os=>cell_grown hb h n os
theorem zRf (w:World):w = grow (w.drewN 0) #[]:=by rw [grow_empty]; rfl
theorem zHp {f:FuncId} {args:Array Value} {w:World} {n:Nat} {os:Array Obj} {v:Value} (h:Calls Tryz.prog f args (grow (w.drewN n) os) fun e w'=>e = .returned v /\ w' = grow (w.drewN n) os):Calls Tryz.prog f args (grow (w.drewN n) os) fun e w''=>e = .returned v /\ ∃ p:GrownBy, w'' = grow (w.drewN p.n) p.os:=
 Calls.grown_of (h.mono fun _ _ h=>⟨h.1, 0, #[], h.2.trans (zRf _)⟩)
theorem zP1 (W:World) (A B o:Obj) (n:Nat) (os:Array Obj):(grow (((W.alloc A).alloc B).drewN n) os).alloc o = grow (W.drewN n) (#[A] ++ #[B] ++ os ++ #[o]):=by
 rw [alloc_eq_grow, alloc_eq_grow, alloc_eq_grow]
 simp only[grow, World.drewN, Array.append_assoc]
theorem x72 (x y:Int × Int) (W:World):Calls Tryz.prog 72 #[.agg #[.int .i64 x.1, .int .i64 x.2], .agg #[.int .i64 y.1, .int .i64 y.2]] W fun e w'=>e = .returned (.int .i64 (zHV x y)) /\ ∃ q os', w' = grow (W.drewN q) os':=by
 have hmix:Tryz.prog.follows .mixedOrders = true:=by kernel_rfl
 unfold zHV
 obtain ⟨a, b⟩:=x
 obtain ⟨c, d⟩:=y
 simp only
 go_enter Tryz.func72, Tryz.ntmps72
 go_wp2
 obtain ⟨W2, hW2⟩:∃ W2, (W.alloc (Obj.cells #[Value.int IntKind.i64 a, Value.int IntKind.i64 b] 50)).alloc (Obj.cells #[Value.int IntKind.i64 c, Value.int IntKind.i64 d] 50) = W2:=⟨_, rfl⟩
 have hsz:W2.heap.size = W.heap.size + 2:=by rw [← hW2]; exact zSg W _ _
 have h1:W2.heap[W.heap.size]? = some (Obj.cells #[Value.int IntKind.i64 a, Value.int IntKind.i64 b] 50):=by rw [← hW2]; exact (zR0 W _ _).1
 have h2:W2.heap[W.heap.size + 1]? = some (Obj.cells #[Value.int IntKind.i64 c, Value.int IntKind.i64 d] 50):=by rw [← hW2]; exact (zR0 W _ _).2
 have b1:W.heap.size < W2.heap.size:=by omega
 have b2:W.heap.size + 1 < W2.heap.size:=by omega
 have k0:∀ n os, (grow (W2.drewN n) os).cell? ⟨W.heap.size, 0, none⟩ = some (.int .i64 a):=zIc b1 (zHS (off:=0) h1 rfl)
 have k1:∀ n os, (grow (W2.drewN n) os).cell? ⟨W.heap.size, 0 + 1, none⟩ = some (.int .i64 b):=zIc b1 (zHS (off:=0 + 1) h1 rfl)
 have k2:∀ n os, (grow (W2.drewN n) os).cell? ⟨W.heap.size + 1, 0, none⟩ = some (.int .i64 c):=zIc b2 (zHS (off:=0) h2 rfl)
 have k3:∀ n os, (grow (W2.drewN n) os).cell? ⟨W.heap.size + 1, 0 + 1, none⟩ = some (.int .i64 d):=zIc b2 (zHS (off:=0 + 1) h2 rfl)
 rw [hW2]
 clear h1 h2 b1 b2
 refine zIB [_, _, _, _, _, _, _, _, _, _] _ _ _ 13 rfl hmix (by kernel_rfl) (by kernel_rfl) (by kernel_rfl) (by kernel_rfl) ?_
 quiet_step (exact zHp (zIx _ _ _))
 quiet_step (exact zHp (zIx _ _ _))
 quiet_step (exact zHp (zIx _ _ _))
 quiet_step (exact zHp (zIx _ _ _))
 quiet_step (exact zHp (zIx _ _ _))
 quiet_step (exact zHp (zIx _ _ _))
 quiet_step (exact zHp (zIx _ _ _))
 quiet_step (exact zHp (zIx _ _ _))
 quiet_step (exact zHp (zIx _ _ _))
 quiet_step (exact zHp (zIx _ _ _))
 refine wpQuiet_nil ?_
 intro _ hw'
 obtain ⟨⟨nq, osq⟩, hw''⟩:=hw'
 subst hw''
 clear k0 k1 k2 k3
 obtain ⟨W3, hW3⟩:∃ W3, grow (W2.drewN nq) osq = W3:=⟨_, rfl⟩
 rw [show grow (W2.drewN (GrownBy.mk nq osq).n) (GrownBy.mk nq osq).os = W3 from hW3]
 go_wp2_with (go_at_call 124; refine (zQ4 _ (Lib.compareInt a c) (Lib.compareInt b d) _ (zHS (heap_alloc_last _ _) rfl) (zHS (heap_alloc_last _ _) rfl)).mono ?_; rintro e w' ⟨rfl, rfl⟩)
 go_ret
 exact ⟨rfl, nq, _, by rw [← hW3, ← hW2]; exact zP1 _ _ _ _ _ _⟩
def zJN (x y:Int × Int):Int:=orI (Lib.compareInt x.2 y.2) (Lib.compareInt x.1 y.1)
theorem zRC (x y:Int × Int) (W:World):Calls Tryz.prog 127 #[.agg #[.int .i64 x.1, .int .i64 x.2], .agg #[.int .i64 y.1, .int .i64 y.2]] W fun e w'=>e = .returned (.int .i64 (zJN x y)) /\ ∃ q os', w' = grow (W.drewN q) os':=by
 have hmix:Tryz.prog.follows .mixedOrders = true:=by kernel_rfl
 unfold zJN
 obtain ⟨a, b⟩:=x
 obtain ⟨c, d⟩:=y
 simp only
 go_enter Tryz.func127, Tryz.ntmps127
 go_wp2
 obtain ⟨W2, hW2⟩:∃ W2, (W.alloc (Obj.cells #[Value.int IntKind.i64 a, Value.int IntKind.i64 b] 50)).alloc (Obj.cells #[Value.int IntKind.i64 c, Value.int IntKind.i64 d] 50) = W2:=⟨_, rfl⟩
 have hsz:W2.heap.size = W.heap.size + 2:=by rw [← hW2]; exact zSg W _ _
 have h1:W2.heap[W.heap.size]? = some (Obj.cells #[Value.int IntKind.i64 a, Value.int IntKind.i64 b] 50):=by rw [← hW2]; exact (zR0 W _ _).1
 have h2:W2.heap[W.heap.size + 1]? = some (Obj.cells #[Value.int IntKind.i64 c, Value.int IntKind.i64 d] 50):=by rw [← hW2]; exact (zR0 W _ _).2
 have b1:W.heap.size < W2.heap.size:=by omega
 have b2:W.heap.size + 1 < W2.heap.size:=by omega
 have k0:∀ n os, (grow (W2.drewN n) os).cell? ⟨W.heap.size, 0, none⟩ = some (.int .i64 a):=zIc b1 (zHS (off:=0) h1 rfl)
 have k1:∀ n os, (grow (W2.drewN n) os).cell? ⟨W.heap.size, 0 + 1, none⟩ = some (.int .i64 b):=zIc b1 (zHS (off:=0 + 1) h1 rfl)
 have k2:∀ n os, (grow (W2.drewN n) os).cell? ⟨W.heap.size + 1, 0, none⟩ = some (.int .i64 c):=zIc b2 (zHS (off:=0) h2 rfl)
 have k3:∀ n os, (grow (W2.drewN n) os).cell? ⟨W.heap.size + 1, 0 + 1, none⟩ = some (.int .i64 d):=zIc b2 (zHS (off:=0 + 1) h2 rfl)
 rw [hW2]
 clear h1 h2 b1 b2
 refine zIB [_, _, _, _, _, _, _, _, _, _] _ _ _ 13 rfl hmix (by kernel_rfl) (by kernel_rfl) (by kernel_rfl) (by kernel_rfl) ?_
 quiet_step (exact zHp (zIx _ _ _))
 quiet_step (exact zHp (zIx _ _ _))
 quiet_step (exact zHp (zIx _ _ _))
 quiet_step (exact zHp (zIx _ _ _))
 quiet_step (exact zHp (zIx _ _ _))
 quiet_step (exact zHp (zIx _ _ _))
 quiet_step (exact zHp (zIx _ _ _))
 quiet_step (exact zHp (zIx _ _ _))
 quiet_step (exact zHp (zIx _ _ _))
 quiet_step (exact zHp (zIx _ _ _))
 refine wpQuiet_nil ?_
 intro _ hw'
 obtain ⟨⟨nq, osq⟩, hw''⟩:=hw'
 subst hw''
 clear k0 k1 k2 k3
 obtain ⟨W3, hW3⟩:∃ W3, grow (W2.drewN nq) osq = W3:=⟨_, rfl⟩
 rw [show grow (W2.drewN (GrownBy.mk nq osq).n) (GrownBy.mk nq osq).os = W3 from hW3]
 go_wp2_with (go_at_call 124; refine (zQ4 _ (Lib.compareInt b d) (Lib.compareInt a c) _ (zHS (heap_alloc_last _ _) rfl) (zHS (heap_alloc_last _ _) rfl)).mono ?_; rintro e w' ⟨rfl, rfl⟩)
 go_ret
 exact ⟨rfl, nq, _, by rw [← hW3, ← hW2]; exact zP1 _ _ _ _ _ _⟩
theorem x77 (b off n c b' off' n' c':Nat) (x y:Int × Int) (W:World) (hn:0 < n) (hn':0 < n') (h0:W.cell? ⟨b, off, none⟩ = some (.int .i64 x.1)) (h1:W.cell? ⟨b, off + 1, none⟩ = some (.int .i64 x.2)) (h2:W.cell? ⟨b', off', none⟩ = some (.int .i64 y.1)) (h3:W.cell? ⟨b', off' + 1, none⟩ = some (.int .i64 y.2)):
  Calls Tryz.prog 77 #[.slice (some ⟨b, off, none⟩) n c, .slice (some ⟨b', off', none⟩) n' c'] W fun e w'=>e = .returned (.int .i64 (zHV x y)) /\ ∃ q os', w' = grow (W.drewN q) os':=by
 have hmix:Tryz.prog.follows .mixedOrders = true:=by kernel_rfl
 have hb:b < W.heap.size:=block_lt_of_cell h0
 have hb':b' < W.heap.size:=block_lt_of_cell h2
 have k0:=zIc hb h0
 have k1:=zIc hb h1
 have k2:=zIc hb' h2
 have k3:=zIc hb' h3
 have hz:(0:Int) < n:=by omega
 have hz':(0:Int) < n':=by omega
 have hc:∀ m os, Calls Tryz.prog 72 #[.agg #[.int .i64 x.1, .int .i64 x.2], .agg #[.int .i64 y.1, .int .i64 y.2]] (grow (W.drewN m) os) fun e w''=>e = .returned (.int .i64 (zHV x y)) /\ ∃ p:GrownBy, w'' = grow (W.drewN p.n) p.os:=fun m os=>Calls.grown_of (x72 x y _)
 clear h0 h1 h2 h3 hb hb'
 go_enter Tryz.func77, Tryz.ntmps77
 go_wp2
 go_quiet_grown (exact hc _ _)
 go_wp2
 go_ret
 exact ⟨rfl, nq, osq, rfl⟩
end Go.Av
end
section
namespace Go.Av
open Go.Proofs Go.Gr
set_option maxRecDepth 100000
def zIl (x y:Int × Int):Bool:=decide (x.1 < y.1) || (x.1 == y.1 && decide (x.2 < y.2))
def swp (x:Int × Int):Int × Int:=(x.2, x.1)
theorem zIV (x y:Int × Int):ltOf zHV x y = zIl x y:=by
 unfold ltOf zHV orI Lib.compareInt zIl
 rw [Bool.eq_iff_iff]
 simp only[decide_eq_true_eq, Bool.or_eq_true, zLa, beq_iff_eq]
 repeat' split
 all_goals omega
theorem zJl (x y:Int × Int):ltOf zJN x y = zIl (swp x) (swp y):=by
 unfold ltOf zJN orI Lib.compareInt zIl swp
 rw [Bool.eq_iff_iff]
 simp only[decide_eq_true_eq, Bool.or_eq_true, zLa, beq_iff_eq]
 repeat' split
 all_goals omega
theorem zKA (x:Int × Int):zIl x x = false:=by simp [zIl]
theorem zJj {x y z:Int × Int} (h1:zIl x y = true) (h2:zIl y z = true):zIl x z = true:=by
 simp only[zIl, Bool.or_eq_true, zLa, decide_eq_true_eq, beq_iff_eq] at *; omega
theorem zIP {x y z:Int × Int} (h1:zIl x y = false) (h2:zIl y z = false):zIl x z = false:=by
 simp only[zIl, Bool.or_eq_false_iff, Bool.and_eq_false_iff, decide_eq_false_iff_not, beq_eq_false_iff_ne] at *; omega
theorem zSH {x y:Int × Int} (h1:zIl x y = false) (h2:zIl y x = false):x = y:=by
 simp only[zIl, Bool.or_eq_false_iff, Bool.and_eq_false_iff, decide_eq_false_iff_not, beq_eq_false_iff_ne] at *
 refine Prod.ext ?_ ?_ <;> omega
theorem zSO:Sort.SWO (ltOf zHV):=⟨fun x=>by rw [zIV]; exact zKA x, fun x y z h1 h2=>by rw [zIV] at *; exact zJj h1 h2, fun x y z h1 h2=>by rw [zIV] at *; exact zIP h1 h2⟩
theorem zQn:Sort.SWO (ltOf zJN):=⟨fun x=>by rw [zJl]; exact zKA _, fun x y z h1 h2=>by rw [zJl] at *; exact zJj h1 h2, fun x y z h1 h2=>by rw [zJl] at *; exact zIP h1 h2⟩
theorem zIY {α:Type} {le:α -> α -> Prop} (anti:∀ a b, le a b -> le b a -> a = b):∀ {l m:List α}, l.Perm m -> l.Pairwise le -> m.Pairwise le -> l = m
 | [], m, hp, _, _=>hp.nil_eq
 | a :: l, [], hp, _, _=>by have:=hp.length_eq; simp at this
 | a :: l, b :: m, hp, hl, hm=>by
  rw [List.pairwise_cons] at hl hm
  have hab:a = b:=by
   have h1:a ∈ b :: m:=hp.mem_iff.1 (List.mem_cons_self ..)
   have h2:b ∈ a :: l:=hp.mem_iff.2 (List.mem_cons_self ..)
   rcases List.mem_cons.1 h1 with e | h1
   ·
    exact e
   ·
    rcases List.mem_cons.1 h2 with e | h2
    ·
     exact e.symm
    ·
     exact anti _ _ (hl.1 b h2) (hm.1 a h1)
  subst hab
  rw [zIY anti (List.Perm.cons_inv hp) hl.2 hm.2]
def pI (c:Cr):Int × Int:=((c.1:Int), (c.2:Int))
theorem zJy (l:List Cr):l.map rCr = (l.map pI).map rowP:=by rw [List.map_map]; rfl
theorem zN1 (a b:Cr):zIl (pI a) (pI b) = ltC a b:=by
 unfold zIl pI ltC
 rw [Bool.eq_iff_iff]
 simp only[Bool.or_eq_true, zLa, decide_eq_true_eq, beq_iff_eq]
 omega
theorem zSc (a b:Cr):zIl (swp (pI a)) (swp (pI b)) = ltH a b:=by
 unfold zIl pI ltH swp
 rw [Bool.eq_iff_iff]
 simp only[Bool.or_eq_true, zLa, decide_eq_true_eq, beq_iff_eq]
 omega
theorem uCr {ls:List Cr} {ls':List Cr} (hp:ls'.Perm ls) (hs:ls'.Pairwise fun a b=>ltC b a = false):∀ l:List (Int × Int), l.Perm (ls.map pI) -> l.Pairwise (fun a b=>ltOf zHV b a = false) -> l = ls'.map pI:=fun l h1 h2=>
 zIY (le:=fun a b=>zIl b a = false) (fun a b h1 h2=>zSH h2 h1) (h1.trans (hp.map pI).symm) (h2.imp fun {a b} h=>by rw [zIV] at h; exact h) (List.pairwise_map.2 (hs.imp fun {a b} h=>by rw [zN1]; exact h))
theorem uHL {ls:List Cr} {ls':List Cr} (hp:ls'.Perm ls) (hs:ls'.Pairwise fun a b=>ltH b a = false):∀ l:List (Int × Int), l.Perm (ls.map pI) -> l.Pairwise (fun a b=>ltOf zJN b a = false) -> l = ls'.map pI:=fun l h1 h2=>
 zIY (le:=fun a b=>zIl (swp b) (swp a) = false) (fun a b h1 h2=>by have:=zSH h2 h1; exact Prod.ext (congrArg Prod.snd this) (congrArg Prod.fst this)) (h1.trans (hp.map pI).symm) (h2.imp fun {a b} h=>by rw [zJl] at h; exact h) (List.pairwise_map.2 (hs.imp fun {a b} h=>by rw [zSc]; exact h))
theorem zNR {a b:Cr} (h:ltC a b = true):ltC b a = false:=by
 cases e:ltC b a with
 | false=>rfl
 | true=>have:=zKW h e; rw [zNe] at this; cases this
theorem zMs {a b c:Cr} (h1:ltH a b = false) (h2:ltH b c = false):ltH a c = false:=by rw [← zSc] at *; exact zIP h1 h2
theorem zQc {a b:Cr} (h:ltH a b = true):ltH b a = false:=by
 cases e:ltH b a with
 | false=>rfl
 | true=>rw [← zSc] at *; have:=zJj h e; rw [zKA] at this; cases this
theorem zOc {α:Type} {lt:α -> α -> Bool} (asy:∀ a b, lt a b = true -> lt b a = false) (nt:∀ a b c, lt a b = false -> lt b c = false -> lt a c = false) {x:α}:∀ {l:List α}, l.Pairwise (fun a b=>lt b a = false) -> (ins lt x l).Pairwise (fun a b=>lt b a = false)
 | [], _=>by simp [ins]
 | y :: l, hl=>by
  rw [List.pairwise_cons] at hl
  unfold ins
  cases hxy:lt x y with
  | true=>
   simp only[cond_true]
   rw [List.pairwise_cons]
   refine ⟨fun z hz=>?_, by rw [List.pairwise_cons]; exact hl⟩
   rcases List.mem_cons.1 hz with rfl | hz
   ·
    exact asy _ _ hxy
   ·
    exact nt _ _ _ (hl.1 z hz) (asy _ _ hxy)
  | false=>
   simp only[cond_false]
   rw [List.pairwise_cons]
   refine ⟨fun z hz=>?_, zOc asy nt hl.2⟩
   rcases zJX.1 hz with rfl | hz
   ·
    exact hxy
   ·
    exact hl.1 z hz
theorem zSK {α:Type} {lt:α -> α -> Bool} (asy:∀ a b, lt a b = true -> lt b a = false) (nt:∀ a b c, lt a b = false -> lt b c = false -> lt a c = false):∀ {l:List α}, (yb lt l).Pairwise (fun a b=>lt b a = false)
 | []=>List.Pairwise.nil
 | x :: l=>zOc asy nt (zSK asy nt)
theorem zRG (l:List Cr):∀ m:List (Int × Int), m.Perm (l.map pI) -> m.Pairwise (fun a b=>ltOf zJN b a = false) -> m = (yb ltH l).map pI:=uHL (zH0 l) (zSK (lt:=ltH) (fun _ _=>zQc) (fun _ _ _=>zMs))
theorem zMk (l:List Cr):(sort2 l).Perm l:=by
 unfold sort2
 split
 ·
  rename_i a b
  cases ltC b a with
  | true=>exact List.Perm.swap a b []
  | false=>exact List.Perm.refl _
 ·
  exact List.Perm.refl _
theorem zRx {l:List Cr} (h2:l.length <= 2):∀ m:List (Int × Int), m.Perm (l.map pI) -> m.Pairwise (fun a b=>ltOf zHV b a = false) -> m = (sort2 l).map pI:=uCr (zMk l) (by
 match l, h2 with
 | [], _=>simp [sort2]
 | [_], _=>simp [sort2]
 | [a, b], _=>
  unfold sort2
  cases e:ltC b a with
  | true=>simp [zNR e, e]
  | false=>simp [e])
theorem zQF (h:Nat -> Bool) (w r:Nat):∀ m:List (Int × Int), m.Perm ((zH1 h w r).map pI) -> m.Pairwise (fun a b=>ltOf zHV b a = false) -> m = (zH1 h w r).map pI:=uCr (List.Perm.refl _) ((zSk h w r).imp fun h=>zNR h)
def pF (l:List Cr):Int × Int:=pI (hdC l)
theorem zQR:Sort.SWO (ltOf fun x y:List Cr=>zHV (pF x) (pF y)):=zMD zSO pF
theorem uF {h:Nat -> Bool} {w r:Nat} (hw6:w <= 6) (hr:r <= 5):∀ m:List (List Cr), m.Perm (zJV h w r) -> m.Pairwise (fun a b=>ltOf (fun x y:List Cr=>zHV (pF x) (pF y)) b a = false) -> m = zHT h w r:=fun m h1 h2=>by
 refine zOo hw6 hr ?_ h1
 have h3:m.Pairwise fun a b=>ltF a b = true ∨ ltF b a = true:=List.Pairwise.perm (zRX hw6 hr) h1.symm (fun h=>h.symm)
 refine List.Pairwise.imp (R:=fun a b=>(ltF a b = true ∨ ltF b a = true) /\ ltOf (fun x y:List Cr=>zHV (pF x) (pF y)) b a = false) (fun {a b} hab=>?_) (h3.and h2)
 refine hab.1.resolve_right fun e=>?_
 have h4:ltOf zHV (pF b) (pF a) = false:=hab.2
 rw [zIV] at h4
 unfold pF at h4
 rw [zN1] at h4
 unfold ltF at e
 rw [h4] at e; cases e
end Go.Av
end
section
namespace Go.Av
open Go.Proofs Go.Shelf Go.RowKit Go.Lib
set_option maxRecDepth 100000
theorem i50:(Tryz.prog.info? 50).map (fun i=>(i.zero, i.size, i.bytes)) = some (some (.agg #[.int .i64 0, .int .i64 0]), 2, 16):=by kernel_rfl
theorem zRF (b off n c:Nat) (zs:List Value) (w:World) (hz:zs.length = n * 2) (hbig:n * 16 <= 140737488355328) (hc:∀ j u, zs[j]? = some u -> w.cell? ⟨b, off + j, none⟩ = some u) (h1:∀ u ∈ zs, u.oneCell' = true):
  Calls Tryz.prog 128 #[.slice (some ⟨b, off, none⟩) n c] w fun e w'=>∃ v', e = .returned v' /\ w'.ownsRow w.heap.size 50 2 v' n zs /\ Below w.heap.size w w':=by
 obtain ⟨i0, hi, hz0, hz1, hz2⟩:=info_parts i50
 have q22:∀ (w:World) (a:Option Addr) (n c n' c':Nat), (binOp .eql 48 (.slice a n c) (.slice none n' c')).run Tryz.prog w = .ok (.bool a.isNone) w:=fun w a n c n' c'=>Lib.run_eql_slice_nil w _ _ a n c n' c' Tryz.underlying48
 have u22:∀ w, Sem.run Tryz.prog (underlying 48) w = .ok (TypeDesc.slice 50) w:=run_underlying Tryz.underlying48
 have A:Aside (∀ j u, zs[j]? = some u -> w.cell? ⟨b, off + j, none⟩ = some u):=hc
 clear hc
 go_enter Tryz.func128, Tryz.ntmps128
 go_wp2_with (at_builtin; refine wpList_append_own _ rfl _ _ 48 rfl w.heap.size 50 i0 (.agg #[.int .i64 0, .int .i64 0]) 2 16 Tryz.underlying48 hi hz0 hz1 hz2 rfl (by decide) _ _ _ rfl (World.ownsRow_made w #[] 0 (Nat.le_refl _) (Nat.zero_le _) rfl) ⟨b, off, none⟩ n c zs rfl ?qc1 ?qc2 ?qc3 ?qc4 ?qc5 ?qc6 ?_)
 case qc1=>exact hz
 case qc2=>
  intro j u hj
  rw [Addr.add_lit]
  exact Lib.cell?_alloc_some _ (A.out j u hj)
 case qc3=>exact h1
 case qc4=>unfold maxLen; omega
 case qc5=>omega
 case qc6=>simp
 intro v' w1 hown hgrow hnil
 go_wp2
 go_ret
 refine ⟨v', rfl, by simpa using hown, ?_⟩
 exact ((Below.refl _ w).alloc (Nat.le_refl _) _).grown hgrow (by simp) (by intro k hk; simp [Value.ownBlock] at hk; omega)
theorem zQ3 (n c:Nat) (w:World):Calls Tryz.prog 128 #[.slice none n c] w fun e w'=>e = .returned (.slice none 0 0) /\ w' = w:=by
 have q22:∀ (w:World) (a:Option Addr) (n c n' c':Nat), (binOp .eql 48 (.slice a n c) (.slice none n' c')).run Tryz.prog w = .ok (.bool a.isNone) w:=fun w a n c n' c'=>Lib.run_eql_slice_nil w _ _ a n c n' c' Tryz.underlying48
 go_enter Tryz.func128, Tryz.ntmps128
 go_wp2
 go_ret
 exact ⟨rfl, rfl⟩
end Go.Av
end
