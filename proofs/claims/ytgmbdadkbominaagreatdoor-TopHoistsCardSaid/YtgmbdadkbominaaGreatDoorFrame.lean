import GoSem.ClaimGoes
import Derived.KernelRfl
import Derived.Test.YtgmbdadkbominaaGreatDoorPlatC
import Derived.Test.YtgmbdadkbominaaGreatDoorExK
import Derived.Handed
import Derived.Lib.LaidTab
import Derived.Stop.Joined
import Derived.Lay
import Derived.LaidMore
import Derived.Test.YtgmbdadkbominaaGreatDoorCards
import Derived.Test.YtgmbdadkbominaaGreatDoorTie
set_option linter.unusedVariables false
set_option linter.unusedSimpArgs false
section
namespace Go.Av
theorem zlG {P:Program} (h:P.funcs.any Func.goes = false) (f:FuncId):P.goes f = false:=by
 have key:∀ (g:FuncId) (fn:Func), P.funcs[g]? = some fn -> fn.goes = false:=fun g fn hg=>by
  cases e:fn.goes with
  | false=>rfl
  | true=>
   rw [Array.any_eq_false'] at h
   exact absurd e (h fn (Array.mem_of_getElem? hg))
 unfold Program.goes
 rw [h, Bool.and_false, Bool.or_false, List.any_eq_false]
 intro g _
 cases e:P.funcs[g]? with
 | none=>simp
 | some fn=>simp [key g fn e]
theorem zmZ {P:Program} (h:P.funcs.any Func.goes = false) (c:OpenClaim):false = c.goesBy P:=by
 symm
 unfold OpenClaim.goesBy Program.goesAt Program.goesFrom
 rw [Bool.or_eq_false_iff]
 constructor
 ·cases P.funcNamed c.func with
  | none=>rfl
  | some f=>simp [zlG h f]
 ·split
  ·rfl
  ·rw [List.any_eq_false]; intro f _; simp [zlG h f]
end Go.Av
end
section
namespace Go.Proofs.YtgmbdadkbominaaGreatDoor
open Go Go.ChangeShapes Go.WideShapes Go.ChangeAt Go.RowKit Go.Av Go.Bv
set_option maxRecDepth 100000
theorem own:ownKnob Tryz.prog.godebug = none:=by kernel_rfl
theorem laidOut:laidOutB Tryz.prog = true:=by kernel_rfl
theorem jW {a b:Bool} (ha:a = true) (hb:b = true):(a && b) = true:=by rw [ha, hb]; rfl
theorem zsA:mapsRowed Tryz.prog = true:=by kernel_rfl
theorem zq2:(Tryz.prog.stops == []) = true:=by kernel_rfl
theorem zpF:(Tryz.prog.stopKnobs == []) = true:=by kernel_rfl
theorem zsw:(false == Tryz.prog.plainKeys) = true:=by kernel_rfl
theorem zqh:Tryz.prog.stopsHeard = true:=by kernel_rfl
theorem zqg:Tryz.prog.mayEnter = true:=by kernel_rfl
theorem t_lifted:(Rows.topMapsRow.lifted == Tryz.prog.liftsFinal) = true:=by kernel_rfl
theorem zsg:(Tryz.prog.make == some Rows.topMapsRow.make) = true:=by kernel_rfl
theorem zmS:true = Tryz.prog.looks []:=by kernel_rfl
theorem ztx:Tryz.prog.globalNamed "internal/strconv.uint64pow10" = some 1:=by kernel_rfl
theorem ztV:Tryz.prog.funcs.any Func.goes = false:=by kernel_rfl
def GT:Glob:=⟨fun w=>TabAt w 1 0, fun w w' h hb=>by
 obtain ⟨T, fz, hh⟩:=h
 exact ⟨T, fz, by rw [hb.block 1 (Array.getElem?_eq_some_iff.1 hh).1]; exact hh⟩⟩
theorem known:ACall Tryz.prog GT 8 [] (.v (.bool true)):=Go.Av.known fun _ h=>h
theorem zp3 {L:List (String × DataW Unit)} (htab:∀ W:World, laidMetH Tryz.prog L W -> W.ShapedOpen Tryz.prog -> GT.holds W) (os:Os) (started:os.Started) (H:Type) (enc:TypeId × Value -> H) {f:FuncId} {fn:Func} {s:ChangeSpec} {n:Nat}
  (hfn:Tryz.prog.funcs[f]? = some fn) (noInit:Tryz.prog.inits.idxOf? f = none) (hp:(fn.params.toList.all fun t=>kY Tryz.prog (n + 1) t) = true) (hr:(fn.params.toList.all fun t=>Tryz.prog.readableRec t && decide (t < Tryz.prog.types.size)) = true)
  (hres:fn.resultTypes = #[4]) (hvars:s.vars = []) (hs:∀ ds:List (DataW H), ds.length = fn.params.size -> s.fn H ds = { results:=[.lit (.bool true)], args:=ds, vars:=[] })
  (hcall:∀ xs, zh1 Tryz.prog n fn.params.toList xs -> ACall Tryz.prog GT f xs (.v (.bool true)))
  (witness:∃ (w:World) (tape:Tape) (i:Input), w.os = os /\ (w.forCall tape i).Shaped Tryz.checked.prog /\ i.vars = [] /\ Input.okWide Tryz.checked.prog (w.forCall tape i) .any w.heap.size f i /\
   ((s.pre enc Tryz.checked.prog fn [] false (w.forCall tape i).memory i.args /\ laidMetH Tryz.prog L (w.forCall tape i).memory) /\ sizedMet enc Tryz.checked.prog fn (OpenSpec.ofChange s) false (w.forCall tape i).memory i.args) /\ ({}:Assume).holds Tryz.checked.prog (lone (Frame.enter Tryz.checked.prog f i.args .normal) [] (w.forCall tape i))):
  ReturnsInHanded {} Tryz.checked os f .any (fun w args=>(s.pre enc Tryz.prog fn [] false w args /\ laidMetH Tryz.prog L w) /\ sizedMet enc Tryz.prog fn (OpenSpec.ofChange s) false w args)
   (s.post enc Tryz.prog fn false true false false):=by
 refine returnsInHanded_of_calls own started noInit witness ?_
 intro w tape i _ hsh _ hok hpre hholds
 obtain ⟨_, _, _, fn', hfn', _, _, _, _, hval0⟩:=hok
 have e':fn' = fn:=Option.some.inj (hfn'.symm.trans hfn)
 subst e'
 obtain ⟨⟨⟨ds, gs, before, hw, _⟩, hx⟩, _⟩:=hpre
 have hW0:=DataW.Whole.of_heap (w':=w.forCall tape i) (by rfl) hw
 have hL0:laidMetH Tryz.prog L (w.forCall tape i):=hx.of_heap (by rfl)
 suffices main:∀ (W:World) (base:Nat) (args:Array Value), (∀ (j:Nat) t v, fn'.params[j]? = some t -> args[j]? = some v -> Value.okWide Tryz.prog W .any base t v) -> DataW.Whole enc Tryz.prog fn'.params.toList s.vars false W args.toList ds gs before -> laidMetH Tryz.prog L W -> W.ShapedOpen Tryz.prog ->
   Calls Tryz.prog f args W fun e W'=>∃ v, e = .returned v /\ s.post enc Tryz.prog fn' false true false false W args v W' by
  refine (main (w.forCall tape i) w.heap.size i.args hval0 hW0 hL0 hsh).mono fun e W' ⟨v, he, hp⟩=>?_
  subst he
  exact ChangeSpec.post_blind hp
 intro W base args hval0 hW hL hsh
 have hval:∀ (j:Nat) t v, fn'.params.toList[j]? = some t -> args.toList[j]? = some v -> Value.okWide Tryz.prog W .any base t v:=fun j t v h1 h2=>hval0 j t v (by simpa using h1) (by simpa using h2)
 have hW':DataW.Whole enc Tryz.prog fn'.params.toList s.vars false W args.toList ds gs before:=hW
 obtain ⟨p, q, hA, hV, e, hz, hn⟩:=hW'
 obtain ⟨xs, h1, h2⟩:=zfv (ok:=fun b=>b < W.heap.size) (fun _ h=>h) hp hval hA
 obtain ⟨he, hc⟩:=hcall xs h1
 have hlen:ds.length = fn'.params.size:=by
  have:∀ (ts:List TypeId) (vs:List Value) (ds:List (DataW H)) (ps:List MemPlace), DataW.TrodAll enc Tryz.prog W 0 (fun _=>true) true ts vs ds ps -> ds.length = ts.length:=by
   intro ts
   induction ts with
   | nil=>intro vs ds ps h; obtain ⟨rfl, rfl, rfl⟩:=trodAll_nil h; rfl
   | cons t ts ih=>intro vs ds ps h; obtain ⟨v, vs', d, ds', p, q, rfl, rfl, rfl, _, h2⟩:=trodAll_cons h; simp [ih _ _ _ h2]
  simpa using this _ _ _ _ hA
 have hcc:=hc (fun b=>b < W.heap.size) W args.toList (htab W hL hsh) (fun _ h=>h) h2
 rw [Array.toArray_toList] at hcc
 refine Calls.mono hcc fun e W' ⟨u, he, hb, hf⟩=>?_
 simp only[Fits] at hf
 obtain ⟨rfl, _⟩:=hf
 exact ⟨_, he, zgC laidOut hr Tryz.underlying4 hres hvars (hs ds hlen) hW hb⟩
def laid5:List (String × DataW Unit):=[("math/bits.deBruijn32tab", Rows.laid_math_bits_deBruijn32tab), ("math/bits.deBruijn64tab", Rows.laid_math_bits_deBruijn64tab), ("internal/strconv.uint64pow10", Rows.laid_internal_strconv_uint64pow10), ("unicode/utf8.acceptRanges", Rows.laid_unicode_utf8_acceptRanges), ("unicode/utf8.first", Rows.laid_unicode_utf8_first)]
theorem zij (W:World) (h:laidMetH Tryz.prog laid5 W) (hs:W.ShapedOpen Tryz.prog):GT.holds W:=by
 show TabAt W 1 0
 rw [MakeChecks.laidMetH_plain _ _ _ (by kernel_rfl)] at h
 have h2:=h.filter (fun x=>x.1 == "internal/strconv.uint64pow10")
 have e:(laid5.filter fun x=>x.1 == "internal/strconv.uint64pow10") = ("internal/strconv.uint64pow10", Lib.tabData .u64 Lib.pow10Tab) :: []:=by kernel_rfl
 rw [e] at h2
 have h3:Lib.TabIs Tryz.prog W "internal/strconv.uint64pow10" .u64 Lib.pow10Tab:=Lib.tabIs_of_head (t:=436) (e:=399) (n:=20) ztx (by kernel_rfl) (by kernel_rfl) (by kernel_rfl) (by kernel_rfl) (by kernel_rfl) h2
 unfold Lib.TabIs at h3
 simp only[World.var?, ztx, Option.bind_some] at h3
 split at h3
 ·rename_i cs T fz hh
  injection h3 with h3
  exact ⟨T, fz, by rw [hh, h3]; rfl⟩
 ·cases h3
theorem zmA (os:Os) (args:Array Value):laidMetH Tryz.prog laid5 ((World.laidAll Tryz.prog os laid5).forCall (fun _ _=>0) ⟨#[], args, []⟩).memory:=by
 rw [MakeChecks.laidMetH_plain _ _ _ (by kernel_rfl)]
 exact laidMet_laidAll _ (by kernel_rfl) (by kernel_rfl)
theorem zp4 (os:Os) (args:Array Value):((World.laidAll Tryz.prog os laid5).forCall (fun _ _=>0) ⟨#[], args, []⟩).Shaped Tryz.checked.prog:=World.shaped_of_ZipB (by kernel_rfl) (by kernel_rfl)
end Go.Proofs.YtgmbdadkbominaaGreatDoor
end
