
import Derived.Test.YtaphehlgijlfeaaGreatDoorFrame
import Derived.Test.YtaphehlgijlfeaaGreatDoorWiY1
import Derived.Lay
import Derived.Stop.LaidErr
set_option linter.unusedVariables false
set_option linter.unusedSimpArgs false
section
namespace Go.Proofs.YtaphehlgijlfeaaGreatDoor
open Go Go.ChangeShapes Go.WideShapes Go.ChangeAt Go.RowKit Go.Av Go.Bv
set_option maxRecDepth 100000
def laid7 : List (String × DataW Unit) := [("math/bits.deBruijn32tab", Rows.laid_math_bits_deBruijn32tab), ("math/bits.deBruijn64tab", Rows.laid_math_bits_deBruijn64tab), ("internal/strconv.uint64pow10", Rows.laid_internal_strconv_uint64pow10), ("unicode/utf8.acceptRanges", Rows.laid_unicode_utf8_acceptRanges), ("strconv.ErrRange", Rows.laid_strconv_ErrRange), ("strconv.ErrSyntax", Rows.laid_strconv_ErrSyntax), ("unicode/utf8.first", Rows.laid_unicode_utf8_first)]
theorem zCh : Tryz.prog.cellsOf 286 = 1 := by kernel_rfl
theorem cells9 : Tryz.prog.cellsOf 9 = 1 := by kernel_rfl
theorem zCN : "*" ++ "errors.errorString" = "*errors.errorString" := by decide
theorem zC7 (u : TypeId) (h : Tryz.prog.typeName? 3 u = some "*errors.errorString") : u = 284 :=
 typeName_ptr_named (nm := "errors.errorString") (by rw [zCN]; kernel_rfl) (by kernel_rfl) (by decide) u (by rw [zCN]; exact h)
theorem zEy : Tryz.prog.globalNamed "strconv.ErrSyntax" = some 0 := by kernel_rfl
theorem zEz : Tryz.prog.globalNamed "strconv.ErrRange" = some 1 := by kernel_rfl
theorem zEr : (Tryz.prog.globals[0]?).map (·.type) = some 214 := by kernel_rfl
theorem zEm : (Tryz.prog.globals[1]?).map (·.type) = some 214 := by kernel_rfl
theorem zAH (W : World) (h : laidMetH Tryz.prog laid7 W) (hs : W.ShapedOpen Tryz.prog) : GE.holds W := by
 rw [MakeChecks.laidMetH_plain _ _ _ (by kernel_rfl)] at h
 refine ⟨⟨?_, zjK hs⟩, ?_, ?_⟩
 ·
  have h2 := h.filter (fun x => x.1 == "internal/strconv.uint64pow10")
  have e : (laid7.filter fun x => x.1 == "internal/strconv.uint64pow10") = ("internal/strconv.uint64pow10", Lib.tabData .u64 Lib.pow10Tab) :: [] := by kernel_rfl
  rw [e] at h2
  have h3 : Lib.TabIs Tryz.prog W "internal/strconv.uint64pow10" .u64 Lib.pow10Tab := Lib.tabIs_of_head (t := 281) (e := 239) (n := 20) zsW (by kernel_rfl) (by kernel_rfl) (by kernel_rfl) (by kernel_rfl) (by kernel_rfl) h2
  unfold Lib.TabIs at h3
  simp only [World.var?, zsW, Option.bind_some] at h3
  split at h3
  ·
   rename_i cs T fz hh
   injection h3 with h3
   exact ⟨T, fz, by rw [hh, h3]; rfl⟩
  ·
   cases h3
 ·
  have h2 := h.filter (fun x => x.1 == "strconv.ErrSyntax")
  have e : (laid7.filter fun x => x.1 == "strconv.ErrSyntax") = ("strconv.ErrSyntax", Rows.laid_strconv_ErrSyntax) :: [] := by kernel_rfl
  rw [e] at h2
  obtain ⟨a0, s0, hv0, -, -, -⟩ := laid_sentinel h2 zEy zEr Tryz.underlying214 zC7 Tryz.underlying284 Tryz.underlying286 rfl rfl Tryz.underlying9 zCh cells9
  have h0 := World.var?_cell zEy hv0 0
  exact ⟨_, by simpa using h0, .inr ⟨_, _, rfl⟩⟩
 ·
  have h2 := h.filter (fun x => x.1 == "strconv.ErrRange")
  have e : (laid7.filter fun x => x.1 == "strconv.ErrRange") = ("strconv.ErrRange", Rows.laid_strconv_ErrRange) :: [] := by kernel_rfl
  rw [e] at h2
  obtain ⟨a0, s0, hv0, -, -, -⟩ := laid_sentinel h2 zEz zEm Tryz.underlying214 zC7 Tryz.underlying284 Tryz.underlying286 rfl rfl Tryz.underlying9 zCh cells9
  have h0 := World.var?_cell zEz hv0 0
  exact ⟨_, by simpa using h0, .inr ⟨_, _, rfl⟩⟩
theorem zA5 (os : Os) (args : Array Value) : laidMetH Tryz.prog laid7 ((World.laidAll Tryz.prog os laid7).forCall (fun _ _ => 0) ⟨#[], args, []⟩).memory := by
 rw [MakeChecks.laidMetH_plain _ _ _ (by kernel_rfl)]
 exact laidMet_laidAll _ (by kernel_rfl) (by kernel_rfl)
theorem zBJ (os : Os) (args : Array Value) : ((World.laidAll Tryz.prog os laid7).forCall (fun _ _ => 0) ⟨#[], args, []⟩).Shaped Tryz.checked.prog := World.shaped_of_ZipB (by kernel_rfl) (by kernel_rfl)
theorem zBL {G : Glob} {L : List (String × DataW Unit)} (htab : ∀ W : World, laidMetH Tryz.prog L W -> W.ShapedOpen Tryz.prog -> G.holds W) (os : Os) (started : os.Started) (H : Type) (enc : TypeId × Value -> H) {f : FuncId} {fn : Func} {s : ChangeSpec} {n : Nat}
  (hfn : Tryz.prog.funcs[f]? = some fn) (noInit : Tryz.prog.inits.idxOf? f = none) (hp : (fn.params.toList.all fun t => vH Tryz.prog (n + 1) t) = true) (hr : (fn.params.toList.all fun t => Tryz.prog.readableRec t && decide (t < Tryz.prog.types.size)) = true)
  (hres : fn.resultTypes = #[4]) (hvars : s.vars = []) (hs : ∀ ds : List (DataW H), ds.length = fn.params.size -> s.fn H ds = { results := [.lit (.bool true)], args := ds, vars := [] })
  (hcall : ∀ xs, xA Tryz.prog n fn.params.toList xs -> ACall Tryz.prog G f xs (.v (.bool true)))
  (witness : ∃ (w : World) (tape : Tape) (i : Input), w.os = os /\ (w.forCall tape i).Shaped Tryz.checked.prog /\ i.vars = [] /\ Input.okWide Tryz.checked.prog (w.forCall tape i) .any w.heap.size f i /\
   ((s.pre enc Tryz.checked.prog fn [] false (w.forCall tape i).memory i.args /\ laidMetH Tryz.prog L (w.forCall tape i).memory) /\ sizedMet enc Tryz.checked.prog fn (OpenSpec.ofChange s) false (w.forCall tape i).memory i.args) /\ ({} : Assume).holds Tryz.checked.prog (lone (Frame.enter Tryz.checked.prog f i.args .normal) [] (w.forCall tape i))) :
  ReturnsInHanded {} Tryz.checked os f .any (fun w args => (s.pre enc Tryz.prog fn [] false w args /\ laidMetH Tryz.prog L w) /\ sizedMet enc Tryz.prog fn (OpenSpec.ofChange s) false w args)
   (s.post enc Tryz.prog fn false true false false) := by
 refine returnsInHanded_of_calls own started noInit witness ?_
 intro w tape i _ hsh _ hok hpre hholds
 obtain ⟨_, _, _, fn', hfn', _, _, _, _, hval0⟩ := hok
 have e' : fn' = fn := Option.some.inj (hfn'.symm.trans hfn)
 subst e'
 obtain ⟨⟨⟨ds, gs, before, hw, _⟩, hx⟩, _⟩ := hpre
 have hW0 := DataW.Whole.of_heap (w' := w.forCall tape i) (by rfl) hw
 have hL0 : laidMetH Tryz.prog L (w.forCall tape i) := hx.of_heap (by rfl)
 suffices main : ∀ (W : World) (base : Nat) (args : Array Value), (∀ (j : Nat) t v, fn'.params[j]? = some t -> args[j]? = some v -> Value.okWide Tryz.prog W .any base t v) -> DataW.Whole enc Tryz.prog fn'.params.toList s.vars false W args.toList ds gs before -> laidMetH Tryz.prog L W -> W.ShapedOpen Tryz.prog ->
   Calls Tryz.prog f args W fun e W' => ∃ v, e = .returned v /\ s.post enc Tryz.prog fn' false true false false W args v W' by
  refine (main (w.forCall tape i) w.heap.size i.args hval0 hW0 hL0 hsh).mono fun e W' ⟨v, he, hp⟩ => ?_
  subst he
  exact ChangeSpec.post_blind hp
 intro W base args hval0 hW hL hsh
 have hval : ∀ (j : Nat) t v, fn'.params.toList[j]? = some t -> args.toList[j]? = some v -> Value.okWide Tryz.prog W .any base t v := fun j t v h1 h2 => hval0 j t v (by simpa using h1) (by simpa using h2)
 have hW' : DataW.Whole enc Tryz.prog fn'.params.toList s.vars false W args.toList ds gs before := hW
 obtain ⟨p, q, hA, hV, e, hz, hn⟩ := hW'
 obtain ⟨xs, h1, h2⟩ := zeN (ok := fun b => b < W.heap.size) (fun _ h => h) hp hval hA
 obtain ⟨he, hc⟩ := hcall xs h1
 have hlen : ds.length = fn'.params.size := by
  have : ∀ (ts : List TypeId) (vs : List Value) (ds : List (DataW H)) (ps : List MemPlace), DataW.TrodAll enc Tryz.prog W 0 (fun _ => true) true ts vs ds ps -> ds.length = ts.length := by
   intro ts
   induction ts with
   | nil => intro vs ds ps h; obtain ⟨rfl, rfl, rfl⟩ := trodAll_nil h; rfl
   | cons t ts ih => intro vs ds ps h; obtain ⟨v, vs', d, ds', p, q, rfl, rfl, rfl, _, h2⟩ := trodAll_cons h; simp [ih _ _ _ h2]
  simpa using this _ _ _ _ hA
 have hcc := hc (fun b => b < W.heap.size) W args.toList (htab W hL hsh) (fun _ h => h) h2
 rw [Array.toArray_toList] at hcc
 refine Calls.mono hcc fun e W' ⟨u, he, hb, hf⟩ => ?_
 simp only [Fits] at hf
 obtain ⟨rfl, _⟩ := hf
 exact ⟨_, he, zfQ laidOut hr Tryz.underlying4 hres hvars (hs ds hlen) hW hb⟩
end Go.Proofs.YtaphehlgijlfeaaGreatDoor
end
