import Derived.Test.YtdjncbjfejdamaaGreatDoorPlatC
import Derived.Test.YtdjncbjfejdamaaGreatDoorExA
import Derived.Test.YtdjncbjfejdamaaGreatDoorLibS
import Derived.Handed
import Derived.Lib.LaidTab
import Derived.Stop.Joined
import Derived.LaidMore
import Derived.Test.YtdjncbjfejdamaaGreatDoorCards
import Derived.Test.YtdjncbjfejdamaaGreatDoorTie
import Derived.Test.YtdjncbjfejdamaaGreatDoorChA
set_option linter.unusedVariables false
set_option linter.unusedSimpArgs false
section
namespace Go.Proofs.YtdjncbjfejdamaaGreatDoor
open Go Go.ChangeShapes Go.WideShapes Go.ChangeAt Go.RowKit Go.Av Go.Bv
set_option maxRecDepth 100000
theorem own:ownKnob Tryz.prog.godebug = none:=by kernel_rfl
theorem laidOut:laidOutB Tryz.prog = true:=by kernel_rfl
theorem zF {a b:Bool} (ha:a = true) (hb:b = true):(a && b) = true:=by rw [ha, hb]; rfl
theorem zcz:mapsRowed Tryz.prog = true:=by kernel_rfl
theorem za6:(Tryz.prog.stops == []) = true:=by kernel_rfl
theorem za8:(Tryz.prog.stopKnobs == []) = true:=by kernel_rfl
theorem zcy:(false == Tryz.prog.plainKeys) = true:=by kernel_rfl
theorem zba:Tryz.prog.stopsHeard = true:=by kernel_rfl
theorem zaT:Tryz.prog.mayEnter = true:=by kernel_rfl
theorem t_lifted:(Rows.chartDrawsRow.lifted == Tryz.prog.liftsFinal) = true:=by kernel_rfl
theorem zcC:(Tryz.prog.make == some Rows.chartDrawsRow.make) = true:=by kernel_rfl
theorem yY:true = Tryz.prog.looks []:=by kernel_rfl
theorem zsW:Tryz.prog.globalNamed "internal/strconv.uint64pow10" = some 0:=by kernel_rfl
def laid3:List (String × DataW Unit):=[("math/bits.deBruijn32tab", Rows.laid_math_bits_deBruijn32tab), ("math/bits.deBruijn64tab", Rows.laid_math_bits_deBruijn64tab), ("internal/strconv.uint64pow10", Rows.laid_internal_strconv_uint64pow10)]
theorem zjx {W:World} (h:laidMetH Tryz.prog laid3 W) (hs:W.ShapedOpen Tryz.prog):GT.holds W:=by
 refine ⟨?_, Tryz.maxLen_cell hs⟩
 rw [MakeChecks.laidMetH_plain _ _ _ (by kernel_rfl)] at h
 have h2:=h.filter (fun x=>x.1 == "internal/strconv.uint64pow10")
 have e:(laid3.filter fun x=>x.1 == "internal/strconv.uint64pow10") = ("internal/strconv.uint64pow10", Lib.tabData .u64 Lib.pow10Tab) :: []:=by kernel_rfl
 rw [e] at h2
 have h3:Lib.TabIs Tryz.prog W "internal/strconv.uint64pow10" .u64 Lib.pow10Tab:=Lib.tabIs_of_head (t:=243) (e:=194) (n:=20) zsW (by kernel_rfl) (by kernel_rfl) (by kernel_rfl) (by kernel_rfl) (by kernel_rfl) h2
 unfold Lib.TabIs at h3
 simp only[World.var?, zsW, Option.bind_some] at h3
 split at h3
 ·
  rename_i cs T fz hh
  injection h3 with h3
  exact ⟨T, fz, by rw [hh, h3]; rfl⟩
 ·
  cases h3
theorem door_met (os:Os) (args:Array Value):laidMetH Tryz.prog laid3 ((World.doorLaid Tryz.prog 400 os).forCall (fun _ _=>0) ⟨#[], args, []⟩).memory:=
 laidMetH_of_parts3 (fuel:=8) (laidMet_of_run' 8 (by kernel_rfl) (by kernel_rfl)) (by kernel_rfl) (by kernel_rfl)
theorem zpe {L:List (String × DataW Unit)} (htab:∀ W:World, laidMetH Tryz.prog L W -> W.ShapedOpen Tryz.prog -> GT.holds W) (os:Os) (started:os.Started) (H:Type) (enc:TypeId × Value -> H) {f:FuncId} {fn:Func} {s:ChangeSpec} {n:Nat}
  (hfn:Tryz.prog.funcs[f]? = some fn) (noInit:Tryz.prog.inits.idxOf? f = none) (hp:(fn.params.toList.all fun t=>vH Tryz.prog (n + 1) t) = true) (hr:(fn.params.toList.all fun t=>Tryz.prog.readableRec t && decide (t < Tryz.prog.types.size)) = true)
  (hres:fn.resultTypes = #[4]) (hvars:s.vars = []) (hs:∀ ds:List (DataW H), ds.length = fn.params.size -> s.fn H ds = { results:=[.lit (.bool true)], args:=ds, vars:=[] })
  (hcall:∀ xs, xA Tryz.prog n fn.params.toList xs -> ACall Tryz.prog GT f xs (.v (.bool true)))
  (witness:∃ (w:World) (tape:Tape) (i:Input), w.os = os /\ (w.forCall tape i).Shaped Tryz.checked.prog /\ i.vars = [] /\ Input.okWide Tryz.checked.prog (w.forCall tape i) .any w.heap.size f i /\
   ((s.pre enc Tryz.checked.prog fn [] false (w.forCall tape i).memory i.args /\ laidMetH Tryz.prog L (w.forCall tape i).memory) /\ sizedMet enc Tryz.checked.prog fn (OpenSpec.ofChange s) false (w.forCall tape i).memory i.args) /\ ({}:Assume).holds Tryz.checked.prog (lone (Frame.enter Tryz.checked.prog f i.args .normal) [] (w.forCall tape i))):
  ReturnsInHanded {} Tryz.checked os f .any (fun w args=>(s.pre enc Tryz.prog fn [] false w args /\ laidMetH Tryz.prog L w) /\ sizedMet enc Tryz.prog fn (OpenSpec.ofChange s) false w args)
   (s.post enc Tryz.prog fn false true false false):=by
 refine returnsInHanded_of_calls own started noInit witness ?_
 intro w tape i _ hsh _ hok hpre hholds
 obtain ⟨_, _, _, fn', hfn', _, _, _, _, hval0⟩:=hok
 have e':fn' = fn:=Option.some.inj (hfn'.symm.trans hfn)
 subst e'
 obtain ⟨⟨⟨ds, gs, before, hw, _⟩, hx⟩, _⟩:=hpre
 have hW0:=DataW.Whole.of_heap (w':=w.forCall tape i) (by rfl) hw
 have hL0:laidMetH Tryz.prog L (w.forCall tape i):=hx.of_heap (by rfl)
 suffices main:∀ (W:World) (base:Nat) (args:Array Value), (∀ (j:Nat) t v, fn'.params[j]? = some t -> args[j]? = some v -> Value.okWide Tryz.prog W .any base t v) -> DataW.Whole enc Tryz.prog fn'.params.toList s.vars false W args.toList ds gs before -> laidMetH Tryz.prog L W -> W.ShapedOpen Tryz.prog ->
   Calls Tryz.prog f args W fun e W'=>∃ v, e = .returned v /\ s.post enc Tryz.prog fn' false true false false W args v W' by
  refine (main (w.forCall tape i) w.heap.size i.args hval0 hW0 hL0 hsh).mono fun e W' ⟨v, he, hp⟩=>?_
  subst he
  exact ChangeSpec.post_blind hp
 intro W base args hval0 hW hL hsh
 have hval:∀ (j:Nat) t v, fn'.params.toList[j]? = some t -> args.toList[j]? = some v -> Value.okWide Tryz.prog W .any base t v:=fun j t v h1 h2=>hval0 j t v (by simpa using h1) (by simpa using h2)
 have hW':DataW.Whole enc Tryz.prog fn'.params.toList s.vars false W args.toList ds gs before:=hW
 obtain ⟨p, q, hA, hV, e, hz, hn⟩:=hW'
 obtain ⟨xs, h1, h2⟩:=zeN (ok:=fun b=>b < W.heap.size) (fun _ h=>h) hp hval hA
 obtain ⟨he, hc⟩:=hcall xs h1
 have hlen:ds.length = fn'.params.size:=by
  have:∀ (ts:List TypeId) (vs:List Value) (ds:List (DataW H)) (ps:List MemPlace), DataW.TrodAll enc Tryz.prog W 0 (fun _=>true) true ts vs ds ps -> ds.length = ts.length:=by
   intro ts
   induction ts with
   | nil=>intro vs ds ps h; obtain ⟨rfl, rfl, rfl⟩:=trodAll_nil h; rfl
   | cons t ts ih=>intro vs ds ps h; obtain ⟨v, vs', d, ds', p, q, rfl, rfl, rfl, _, h2⟩:=trodAll_cons h; simp [ih _ _ _ h2]
  simpa using this _ _ _ _ hA
 have hcc:=hc (fun b=>b < W.heap.size) W args.toList (htab W hL hsh) (fun _ h=>h) h2
 rw [Array.toArray_toList] at hcc
 refine Calls.mono hcc fun e W' ⟨u, he, hb, hf⟩=>?_
 simp only[Fits] at hf
 obtain ⟨rfl, _⟩:=hf
 exact ⟨_, he, zfQ laidOut hr Tryz.underlying4 hres hvars (hs ds hlen) hW hb⟩
theorem lifted (os:Os) (started:os.Started) (H:Type) (enc:TypeId × Value -> H) {f:FuncId} {fn:Func} {s:ChangeSpec} {n:Nat}
  (hfn:Tryz.prog.funcs[f]? = some fn) (noInit:Tryz.prog.inits.idxOf? f = none) (hp:(fn.params.toList.all fun t=>vH Tryz.prog (n + 1) t) = true) (hr:(fn.params.toList.all fun t=>Tryz.prog.readableRec t && decide (t < Tryz.prog.types.size)) = true)
  (hres:fn.resultTypes = #[4]) (hvars:s.vars = []) (hs:∀ ds:List (DataW H), ds.length = fn.params.size -> s.fn H ds = { results:=[.lit (.bool true)], args:=ds, vars:=[] })
  (hcall:∀ xs, xA Tryz.prog n fn.params.toList xs -> ACall Tryz.prog GT f xs (.v (.bool true)))
  (witness:∃ (w:World) (tape:Tape) (i:Input), w.os = os /\ (w.forCall tape i).Shaped Tryz.checked.prog /\ i.vars = [] /\ Input.okWide Tryz.checked.prog (w.forCall tape i) .any w.heap.size f i /\
   ((s.pre enc Tryz.checked.prog fn [] false (w.forCall tape i).memory i.args /\ laidMetH Tryz.prog laid3 (w.forCall tape i).memory) /\ sizedMet enc Tryz.checked.prog fn (OpenSpec.ofChange s) false (w.forCall tape i).memory i.args) /\ ({}:Assume).holds Tryz.checked.prog (lone (Frame.enter Tryz.checked.prog f i.args .normal) [] (w.forCall tape i))):
  ReturnsInHanded {} Tryz.checked os f .any (fun w args=>(s.pre enc Tryz.prog fn [] false w args /\ laidMetH Tryz.prog laid3 w) /\ sizedMet enc Tryz.prog fn (OpenSpec.ofChange s) false w args)
   (s.post enc Tryz.prog fn false true false false):=
 zpe (fun _ h hs=>zjx h hs) os started H enc hfn noInit hp hr hres hvars hs hcall witness
end Go.Proofs.YtdjncbjfejdamaaGreatDoor
end
section
namespace Go.Proofs.YtdjncbjfejdamaaGreatDoor
open Go Go.ChangeShapes Go.WideShapes Go.RowKit Go.Av Go.Bv
set_option maxRecDepth 100000
theorem pl_int {n:Nat} {xs:List AV} (h:qX Tryz.prog (n + 1) 3 xs):∃ q:Int, xs = [.v (.int .i64 q)]:=by
 obtain ⟨q, h, _⟩:=zgn Tryz.underlying3 h
 exact ⟨q, h⟩
theorem zVP {n:Nat} {xs:List AV} (h:qX Tryz.prog (n + 3) 78 xs):∃ s:Stn, xs = zIW s:=by
 have h:=zaJ Tryz.underlying78 h
 obtain ⟨a, _, rfl, h1, b, _, rfl, h2, rfl⟩:=h
 obtain ⟨p, rfl⟩:=pl_int h1
 have h2:=zaJ Tryz.underlying76 h2
 obtain ⟨c, _, rfl, h3, d, _, rfl, h4, rfl⟩:=h2
 obtain ⟨lo, rfl⟩:=pl_int h3
 obtain ⟨hi, rfl⟩:=pl_int h4
 exact ⟨⟨p, lo, hi⟩, rfl⟩
theorem zVU {n:Nat} {xs:List AV} (h:qX Tryz.prog (n + 5) 24 xs):∃ m:Mp, xs = eMp m:=by
 have h:=zaJ Tryz.underlying24 h
 obtain ⟨a, _, rfl, h1, b, _, rfl, h2, c, _, rfl, h3, d, _, rfl, h4, rfl⟩:=h
 obtain ⟨w, rfl⟩:=pl_int h1
 obtain ⟨r, rfl⟩:=pl_int h2
 obtain ⟨s, rfl⟩:=pl_int h3
 obtain ⟨rows, rfl, _, hr⟩:=kE Tryz.underlying22 h4
 obtain ⟨st, rfl⟩:=zby (e:=zIW) (fun r hrm=>zVP (hr r hrm))
 exact ⟨⟨w, r, s, st⟩, rfl⟩
theorem zVR {x:AV} (h:zbC Tryz.prog 8 24 x):∃ m:Mp, x = .agg (eMp m):=by
 unfold zbC at h
 rw [Tryz.underlying24] at h
 obtain ⟨xs, rfl, h⟩:=h
 obtain ⟨m, rfl⟩:=zVU (n:=4) (by unfold qX; rw [Tryz.underlying24]; exact h)
 exact ⟨m, rfl⟩
theorem zQk {x:AV} (h:zbC Tryz.prog 8 3 x):∃ q:Int, x = ei q:=by
 unfold zbC at h
 rw [Tryz.underlying3] at h
 obtain ⟨q, h⟩:=pl_int h
 exact ⟨q, by simpa [ei] using h⟩
theorem zYF {x:AV} (h:zbC Tryz.prog 8 4 x):∃ q:Bool, x = .v (.bool q):=by
 unfold zbC at h
 rw [Tryz.underlying4] at h
 obtain ⟨q, h⟩:=zj5 Tryz.underlying4 h
 exact ⟨q, by simpa using h⟩
end Go.Proofs.YtdjncbjfejdamaaGreatDoor
end
