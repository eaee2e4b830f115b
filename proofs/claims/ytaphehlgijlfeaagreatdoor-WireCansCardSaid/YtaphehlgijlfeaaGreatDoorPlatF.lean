/- Panics; deferred calls; recover. · A deferred closure that recovers; a function that defers it. · Strings; calls that may panic; string iterators; interface values. -/
import Derived.Test.YtaphehlgijlfeaaGreatDoorPlatE
import Derived.Recover
import Derived.Laws.BytesArg
import GoSem.Core.Utf8
set_option linter.unusedVariables false
set_option linter.unusedSimpArgs false
section
namespace Go.Av
open Go.RowKit

/-- How a call comes out: with a value, or with a panic of a value. -/
inductive Out where
  | ret (r : AV)
  | pan (v : AV)

/-- A panic of a value. -/
@[reducible] def pnc (u : Value) : List PanicEntry := [{ v := u, recovered := false }]

def XCall (P : Program) (G : Glob) (f : FuncId) (args : List AV) (o : Out) : Prop :=
  Enters P f ∧ ∀ (ok : Nat → Prop) (w : World) (vs : List Value), G.holds w → (∀ b, ok b → b < w.heap.size) → FitsL ok w args vs →
    Calls P f vs.toArray w (fun e w' => Below w.heap.size w w' ∧ ∃ u, match o with
      | .ret r => e = .returned u ∧ Fits (okN ok w w') w' r u
      | .pan v => e = .panicked (pnc u) ∧ Fits (okN ok w w') w' v u)
theorem ACall.x {P : Program} {G : Glob} {f : FuncId} {args : List AV} {r : AV} (h : ACall P G f args r) : XCall P G f args (.ret r) :=
  ⟨h.1, fun ok w vs hG hok hf => (h.2 ok w vs hG hok hf).mono fun _ _ ⟨u, e, hb, hu⟩ => ⟨hb, u, e, hu⟩⟩
theorem XCall.a {P : Program} {G : Glob} {f : FuncId} {args : List AV} {r : AV} (h : XCall P G f args (.ret r)) : ACall P G f args r :=
  ⟨h.1, fun ok w vs hG hok hf => (h.2 ok w vs hG hok hf).mono fun _ _ ⟨hb, u, e, hu⟩ => ⟨u, e, hb, hu⟩⟩

section
variable {r : Option Nat} {P : Program} {G : Glob} {st : ASt} {ops : Array Oper} {l : List Oper} {Q : Exit → ASt → Prop} {o : Oper}

/-- The state behind a panic: the value is kept by. -/
@[reducible] def NS.pan (n : NS) (v : AV) (u : Value) : NS := ⟨n.n, n.dfs, (.pub v, u) :: n.gh, n.mks, n.hold⟩

theorem Sit.pan {w0 : World} {ok0 : Nat → Prop} {a : Act} {w w' : World} {v : AV} {u : Value} {ok : Nat → Prop} {bs : List PB} {n : NS} {fr : Nat → EV} {mem : List PO}
    (h0 : a.tmps.size = n.n) (h1 : Nod w0 w a n) (h2 : Below w0.heap.size w0 w) (h3 : ∀ b, ok0 b → ok b) (h4 : ∀ b, ok b → ok0 b ∨ w0.heap.size ≤ b) (h5 : MemOK w0.heap.size ok w bs mem) (h6 : Slots ok w bs mem n fr a)
    (hw : Below w.heap.size w w') (hv : Fits (okN ok w w') w' v u) : Sit w0 ok0 ⟨n.pan v u, fr, mem⟩ a w' := by
  have hm := h6.map (fun (e : EV) (u : Value) h => FitsE.grow (x := e) (u := u) h h5.lt hw)
  refine ⟨h0, h1.keep (.of_below hw), below_to h2 h2.size hw, okN ok w w', bs, fun b hb => .inl (h3 b hb), fun b hb => ?_, h5.grow hw, hm.1, fun p hp => ?_⟩
  · rcases hb with hb | hb
    · exact h4 b hb
    · exact .inr (Nat.le_trans h2.size hb.1)
  · rcases List.mem_cons.1 hp with rfl | hp
    · simpa only [FitsE] using hv
    · exact hm.2 p hp

/-- A call that panics. -/
theorem al_panC {args : Array Operand} {tys : Array TypeId} {f : FuncId} {av : List AV} {v : AV} (hg : bareOp o = true) (ho : o.op = .call { callee := .value (.func f), args := args, argTypes := tys })
    (ha : ArgsE st.fr args.toList av) (hc : XCall P G f av (.pan v)) (h : ∀ u, Q (.panic (pnc u)) ⟨st.n.pan v u, st.fr, st.mem⟩) : AList (r := r) P G ops (o :: l) st Q := by
  intro w0 ok0 a w hG hok ⟨h0, h1, h2, ok, bs, h3, h4, h5, h6⟩
  have key : ∀ (l : List Operand) (xs : List AV), l.map (evO st.fr) = xs.map .pub → FitsL ok w xs (l.map a.eval) := by
    intro l
    induction l with
    | nil => intro xs h; cases xs with
      | nil => simp [FitsL]
      | cons => simp at h
    | cons y l ih => intro xs h; cases xs with
      | nil => simp at h
      | cons x xs =>
        simp only [List.map_cons, List.cons.injEq] at h
        simp only [List.map_cons, FitsL]
        have := fits_evO (fr := st.fr) (a := a) (x := y) fun t _ => h6.1 t
        rw [h.1] at this
        exact ⟨_, _, rfl, by simpa only [FitsE] using this, ih xs h.2⟩
  refine wpListIn_plain (bareOp_g hg) fun K hK => fw_op (bareOp_d hg) ?_
  unfold Oper.wp
  rw [call_exec (us := []) (vs := []) ho hc.1 (by rfl)]
  simp only [Oper.upon]
  have hv := key _ _ (argsE_map ha)
  have hcall := (hc.2 ok w (args.toList.map a.eval) (G.stable _ _ hG h2) h5.lt hv)
  simp only [List.nil_append, List.append_nil]
  refine Calls.mono hcall fun en w' ⟨hb, u, he, hu⟩ => ?_
  subst he
  exact ⟨_, Sit.pan h0 h1 h2 h3 h4 h5 h6 hb hu, h u⟩

/-- A panic statement. -/
theorem al_panic {x : Operand} {T : TypeId} {v : AV} (hg : bareOp o = true) (ho : o.op = .panic x) (hx : evO st.fr x = .pub (.ifc T v)) (h : ∀ u, Q (.panic (pnc u)) ⟨st.n.pan (.ifc T v) u, st.fr, st.mem⟩) : AList (r := r) P G ops (o :: l) st Q := by
  intro w0 ok0 a w hG hok ⟨h0, h1, h2, ok, bs, h3, h4, h5, h6⟩
  have hv := fits_evO (fr := st.fr) (a := a) (x := x) fun t _ => h6.1 t
  rw [hx] at hv
  simp only [FitsE] at hv
  have hv2 := hv
  simp only [Fits] at hv2
  obtain ⟨u, e, hu⟩ := hv2
  refine wpListIn_plain (bareOp_g hg) fun K hK => fw_op (bareOp_d hg) ?_
  unfold Oper.wp
  have hex : (execOp a.eval o).run P w = .halt (.panic (.iface T u)) w := by
    simp [execOp, ho, e, Instr.panic, goPanic]
  rw [hex, Oper.upon_panic]
  rw [e] at hv
  exact ⟨_, Sit.pan h0 h1 h2 h3 h4 h5 h6 (Below.refl _ _) (hv.mono (fun _ h => .inl h) (fun _ _ => rfl)), h _⟩

theorem qt_panic {K : ASt → Prop} {c : List PanicEntry} (h : Q (.panic c) st) : QThen K Q (.panic c) st := h
theorem qb_panic {id : Nat} {c : List PanicEntry} (h : Q (.panic c) st) : QBlock id Q (.panic c) st := h

/-- The marks of loops, where a panic leaves the function. -/
theorem leaves_marksP {mk : Bool} {F : Fence} {n : Nat} {fn : Func} {w0 : World} {tm : Array Value} {R : Ending → World → Prop} {ch : List PanicEntry} : ∀ {ds : List Deferred} {B : Nat} {w : World}, Dfs mk w0 w tm ds B [] →
    (∀ w2, MK w0 w w2 → R (.panicked ch) w2) → LeavesInM F n P fn tm R ds (.panicking ch) w
  | [], B, w, _, h => h w (MK.refl w0 w)
  | d :: ds, B, w, hd, h => by
    simp only [Dfs] at hd
    rcases hd with ⟨_, D, rfl, h1, h2, h3, h4⟩ | ⟨t, l', e, _⟩
    · refine ⟨by simp, .inl ⟨D, _, rfl, run_takeDeferred h3, leaves_marksP (B := D) (h4.low (Nat.le_refl _)) fun w2 hw2 => h w2 (hw2.step h1 h3)⟩⟩
    · cases e

/-- A call that panics, out of the function's body. -/
theorem xpan_of {f : FuncId} {fn : Func} {c : Code} {args : List AV} {v : AV} (hf : P.funcs[f]? = some fn) (hb : fn.body = some c) (hnm : (fn.name == "runtime.NumGoroutine") = false) (hlen' : Nat.ble args.length fn.ntmps = true)
    (h : ACode (r := none) P G c ⟨fn.ntmps, frOf args, []⟩ (fun e st => ∃ u, e = .panic (pnc u) ∧ (EV.pub v, u) ∈ st.n.gh ∧ st.n.dfs = [])) : XCall P G f args (.pan v) := by
  have hlen : args.length ≤ fn.ntmps := Nat.le_of_ble_eq_true hlen'
  refine ⟨⟨fn, hf, hnm, by simp [hb]⟩, fun ok w vs hG hok hfit => callsIn_wide.1 (callsIn_of_wp_marks (n := 0) hf hb trivial ?_)⟩
  have hl := hfit.length
  refine wpIn_mono (h w ok _ w hG hok ?_) fun e a' w' ⟨st, hs, u, he, hu, hd⟩ => ?_
  · exact sit_enter hlen hok hfit
  · obtain ⟨h0, h1, h2, ok', bs, h3, h4, h5, h6⟩ := hs
    subst he
    have h1 := h1.1
    rw [hd] at h1
    refine leaves_marksP h1 fun w2 hw2 => ⟨h2.trans hw2.below, u, rfl, ?_⟩
    have := h6.2 _ hu
    simp only [FitsE] at this
    refine (this.congr hw2.cell).mono (fun b hb => ?_) (fun _ _ => rfl)
    rcases h4 b hb with h | h
    · exact .inl h
    · exact .inr ⟨h, by rw [hw2.size]; exact h5.lt b hb⟩

/-- A function with parts of the call's own memory. -/
theorem y_makeFuncM {fr : Nat → EV} {mem : List PO} {f : FuncId} {first caps : Array Operand} (ho : o.op = .makeFunc (.func f) first caps) : OpY P G fr mem o (.fnm f (first.toList.map (evO fr)) (caps.toList.map (evO fr))) :=
  y_same fun ok bs w a _ _ hfit => by
    have key : ∀ (l : List Operand), (∀ y ∈ l, y ∈ o.op.operands) → FitsEL ok w bs mem (l.map (evO fr)) (l.map a.eval) := by
      intro l
      induction l with
      | nil => intro _; simp [FitsEL]
      | cons y l ih =>
        intro hm
        simp only [List.map_cons, FitsEL]
        exact ⟨_, _, rfl, hfit y (hm y (by simp)), ih (fun z hz => hm z (by simp [hz]))⟩
    refine ⟨.func (.func f) (first.map a.eval) (caps.map a.eval), by simp [execOp, ho, Instr.makeFunc], ?_⟩
    simp only [FitsE]
    refine ⟨first.toList.map a.eval, caps.toList.map a.eval, by congr 1 <;> exact Array.toList_inj.1 (by simp), key _ (fun y hy => ?_), key _ (fun y hy => ?_)⟩
    · simp only [ho, Op.operands, Array.mem_append]; exact .inl (by simpa using hy)
    · simp only [ho, Op.operands, Array.mem_append]; exact .inr (by simpa using hy)

/-- A function value's call is deferred. -/
theorem al_defer {t : Tmp} {f : FuncId} {fs cs : List EV} (hg : o.guard = none) (ho : o.op = .defer { callee := .value (.tmp t), args := #[], argTypes := #[] }) (hd : o.dst = none) (he : st.fr t = .fnm f fs cs)
    (h : AList (r := none) P G ops l ⟨⟨st.n.n, t :: st.n.dfs, st.n.gh, st.n.mks, st.n.hold⟩, st.fr, st.mem⟩ Q) : AList (r := none) P G ops (o :: l) st Q := by
  intro w0 ok0 a w hG hok ⟨h0, h1, h2, ok, bs, h3, h4, h5, h6⟩
  have hf := h6.1 t
  rw [he] at hf
  simp only [FitsE] at hf
  obtain ⟨us, vs, e, _, _⟩ := hf
  refine wpListIn_plain hg fun K hK => ?_
  refine ⟨fun _ _ => trivial, ?_⟩
  have hsem : o.semAt (FW none).round a.eval = execOp a.eval o := rfl
  rw [hsem]
  have hex : (execOp a.eval o).run P w = .ok (.defer { target := .fn (.func f) vs.toArray, args := us.toArray }) w := by
    have ev : a.eval (.tmp t) = .func (.func f) us.toArray vs.toArray := e
    simp [execOp, ho, resolve, ev, Deferred.ofValue]
  rw [hex, Oper.uponIn_defer]
  refine hK _ _ (h w0 ok0 _ w hG hok ?_)
  have hp : ({ a with defers := { target := .fn (.func f) vs.toArray, args := us.toArray } :: a.defers }.put o.dst undef) = { a with defers := { target := .fn (.func f) vs.toArray, args := us.toArray } :: a.defers } := by rw [hd]; rfl
  rw [hp]
  refine ⟨h0, ⟨?_, h1.2⟩, h2, ok, bs, h3, h4, h5, h6⟩
  simp only [Dfs]
  exact .inr ⟨t, st.n.dfs, rfl, ⟨f, us.toArray, vs.toArray, rfl, e⟩, h1.1⟩
end
end Go.Av
end

section
namespace Go.Av
open Go.RowKit

/-- In which way the frame below goes: it returns, or panics with a value; and how it goes on behind a recover. -/
def modeIn : Option AV → Value → FrameMode
  | none, _ => .returning
  | some _, u => .panicking (pnc u)
def modeOut : Option AV → Value → FrameMode
  | none, _ => .returning
  | some _, u => .panicking [{ v := u, recovered := true }]
def modeE : Option AV → EV
  | none => .pub (.v .nilIface)
  | some v => .pub v
def frE (caps : List EV) : Nat → EV := fun t => match caps[t]? with
  | some x => x
  | none => .pub .top

/-- A DEFERRED CLOSURE's CONTRACT: it turns the call's own memory so; a panic is recovered. -/
def DClo (P : Program) (G : Glob) (f : FuncId) (caps : List EV) (mode : Option AV) (mem mem' : List PO) : Prop :=
  Enters P f ∧ ∀ (w0 : World) (ok0 ok : Nat → Prop) (bs : List PB) (w : World) (vs : List Value) (gh : List (EV × Value)) (u : Value), G.holds w0 → (∀ b, ok0 b → b < w0.heap.size) → Below w0.heap.size w0 w → (∀ b, ok0 b → ok b) → (∀ b, ok b → ok0 b ∨ w0.heap.size ≤ b) →
    MemOK w0.heap.size ok w bs mem → FitsEL ok w bs mem caps vs → (∀ p ∈ gh, FitsE ok w bs mem p.1 p.2) → (∀ v, mode = some v → Fits ok w v u) →
    CallsD P f vs.toArray (modeIn mode u) w (fun e u' w' => (∃ x, e = .returned x) ∧ u' = modeOut mode u ∧ ∃ ok' bs', Below w0.heap.size w0 w' ∧ (∀ b, ok0 b → ok' b) ∧ (∀ b, ok' b → ok0 b ∨ w0.heap.size ≤ b) ∧
      MemOK w0.heap.size ok' w' bs' mem' ∧ ∀ p ∈ gh, FitsE ok' w' bs' mem' p.1 p.2)

section
variable {P : Program} {G : Glob}

theorem recover_exec {o : Oper} (ho : o.op = .call { callee := .builtin .recover, args := #[], argTypes := #[] }) (a : Act) (w : World) : (execOp a.eval o).run P w = .ok .recover w := by
  simp [execOp, ho, resolve, invoke, builtin]

theorem dclo_of {f : FuncId} {fn : Func} {id : Nat} {o : Oper} {rest : Code} {d : Tmp} {caps : List EV} {mode : Option AV} {mem mem' : List PO} (hf : P.funcs[f]? = some fn) (hb : fn.body = some (.seq (.region id #[o] false) rest)) (hnm : (fn.name == "runtime.NumGoroutine") = false)
    (ho : o.op = .call { callee := .builtin .recover, args := #[], argTypes := #[] }) (hg : o.guard = none) (hd : o.dst = some d) (hres : fn.results = #[]) (hlen' : Nat.ble caps.length fn.ntmps = true) (hdl : Nat.blt d fn.ntmps = true)
    (h : ∀ gh, ACode (r := none) P G rest ⟨⟨fn.ntmps, [], gh, false, []⟩, setO (frE caps) (some d) (modeE mode), mem⟩ (fun e st => (e = .normal ∨ e = .ret) ∧ st.n = ⟨fn.ntmps, [], gh, false, []⟩ ∧ st.mem = mem')) : DClo P G f caps mode mem mem' := by
  have hlen := Nat.le_of_ble_eq_true hlen'
  have hdl : d < fn.ntmps := by simpa [Nat.blt_eq] using hdl
  refine ⟨⟨fn, hf, hnm, by simp [hb]⟩, fun w0 ok0 ok bs w vs gh u hG hok hw h3 h4 h5 hcaps hgh hv => callsD_of_wpS hf hb fun c₀ cs hmode => ?_⟩
  have hl := hcaps.length
  let a0 : Act := { tmps := vs.toArray ++ Array.replicate (fn.ntmps - vs.toArray.size) undef, defers := [] }
  have hsz : a0.tmps.size = fn.ntmps := by simp [a0, hl]; omega
  -- behind the recover
  have key : ∀ (x : Value) (cs' : List Frame) (u' : FrameMode), cs' = { c₀ with mode := u' } :: cs → u' = modeOut mode u → FitsE ok w bs mem (modeE mode) x →
      rest.wpS P (bodyPostS P fn c₀ cs (fun e u' w' => (∃ x, e = .returned x) ∧ u' = modeOut mode u ∧ ∃ ok' bs', Below w0.heap.size w0 w' ∧ (∀ b, ok0 b → ok' b) ∧ (∀ b, ok' b → ok0 b ∨ w0.heap.size ≤ b) ∧
        MemOK w0.heap.size ok' w' bs' mem' ∧ ∀ p ∈ gh, FitsE ok' w' bs' mem' p.1 p.2)) (a0.put (some d) x) cs' w := fun x cs' u' hcs hu hx => by
    refine wpS_of_wp (wpIn_wide (n := 0).1 (wpIn_mono (h gh w0 ok0 _ w hG hok ?_) fun e a' w' ⟨st, hs, he, hn, hm⟩ => ?_))
    · refine ⟨(size_put ..).trans hsz, ⟨by rw [defers_put]; rfl, fun p hp => by cases hp⟩, hw, ok, bs, h3, h4, h5, ?_⟩
      refine fits_put (n := ⟨fn.ntmps, [], gh, false, []⟩) (a := a0) (dst := some d) (u := x) ⟨fun t => ?_, hgh⟩ hx (fun d' e => by injection e with e; subst e; rw [hsz]; exact hdl)
      show FitsE ok w bs mem (match caps[t]? with | some x => x | none => .pub .top) _
      by_cases ht : t < caps.length
      · rw [List.getElem?_eq_getElem ht]
        obtain ⟨u, h1, h2⟩ := hcaps.get (List.getElem?_eq_getElem ht)
        have h3 : t < vs.length := (List.getElem?_eq_some_iff.1 h1).1
        have h4 : vs[t] = u := (List.getElem?_eq_some_iff.1 h1).2
        simp only [a0, Array.getD_eq_getD_getElem?]
        rw [Array.getElem?_append_left (by simpa using h3)]
        simp [h3, h4, h2]
      · rw [List.getElem?_eq_none (by omega)]
        simp [FitsE, Fits]
    · obtain ⟨t0, t1, t2, ok', bs', t3, t4, t5, t6⟩ := hs
      rw [hn] at t1 t6
      rw [hm] at t5 t6
      have hdef : a'.defers = [] := by
        have := t1.1
        cases hds : a'.defers with
        | nil => rfl
        | cons d ds =>
          rw [hds] at this
          simp only [Dfs] at this
          rcases this with ⟨h, _⟩ | ⟨t, l', e, _⟩
          · cases h
          · cases e
      have hpost : a'.defers = [] ∧ ∃ u', cs' = { c₀ with mode := u' } :: cs ∧ ∃ v, (results fn a'.tmps).run P w' = .ok v w' ∧ (∃ x, Ending.returned v = .returned x) ∧ u' = modeOut mode u ∧ ∃ ok' bs', Below w0.heap.size w0 w' ∧ (∀ b, ok0 b → ok' b) ∧ (∀ b, ok' b → ok0 b ∨ w0.heap.size ≤ b) ∧
          MemOK w0.heap.size ok' w' bs' mem' ∧ ∀ p ∈ gh, FitsE ok' w' bs' mem' p.1 p.2 := ⟨hdef, u', hcs, _, results_none hres _ _ _, ⟨_, rfl⟩, hu, ok', bs', t2, t3, t4, t5, t6.2⟩
      rcases he with rfl | rfl
      · exact hpost
      · exact hpost
  refine wpS_seq (wpS_region ?_)
  show wpOpsS P #[o] _ [0] a0 (c₀ :: cs) w
  unfold wpOpsS
  simp only [List.getElem?_toArray, List.getElem?_cons_zero, Region.wanted, hg, if_true]
  rw [recover_exec ho]
  simp only
  cases mode with
  | none =>
    have hrec : recoverD (c₀ :: cs) = none := by
      simp only [recoverD]
      rw [show c₀.mode = .returning from hmode]
    rw [hrec]
    simp only [wpOpsS, Exit.thenS, hd]
    have hnil : FitsE ok w bs mem (modeE none) .nilIface := ⟨rfl, rfl⟩
    exact key .nilIface (c₀ :: cs) c₀.mode rfl hmode hnil
  | some v =>
    have hrec : recoverD (c₀ :: cs) = some (u, { c₀ with mode := .panicking [{ v := u, recovered := true }] } :: cs) := by
      simp only [recoverD]
      rw [show c₀.mode = .panicking (pnc u) from hmode]
    rw [hrec]
    simp only [wpOpsS, Exit.thenS, hd]
    exact key u _ _ rfl rfl (by simpa only [modeE, FitsE] using hv v rfl)

def cutFr (n : Nat) (fr : Nat → EV) : Nat → EV := fun t => bif Nat.blt t n then fr t else .pub .top

/-- How a function that defers one closure comes to its end. -/
def DEnd (P : Program) (G : Glob) (fn : Func) (r : AV) (e : Exit) (st : ASt) : Prop :=
  (st.n = fn.ntmps ∧ (e = .normal ∨ e = .ret) ∧ RetE P fn st r) ∨
  ∃ t g caps mem' gh, st.n = ⟨fn.ntmps, [t], gh, false, []⟩ ∧ st.fr t = .fnm g [] caps ∧ RetE P fn ⟨fn.ntmps, cutFr fn.ntmps st.fr, mem'⟩ r ∧
    (((e = .normal ∨ e = .ret) ∧ DClo P G g caps none st.mem mem') ∨ ∃ u v, e = .panic (pnc u) ∧ (EV.pub v, u) ∈ gh ∧ DClo P G g caps (some v) st.mem mem')

theorem acall_def {f : FuncId} {fn : Func} {c : Code} {args : List AV} {r : AV} (hf : P.funcs[f]? = some fn) (hb : fn.body = some c) (hnm : (fn.name == "runtime.NumGoroutine") = false) (hlen' : Nat.ble args.length fn.ntmps = true)
    (h : ACode (r := none) P G c ⟨fn.ntmps, frOf args, []⟩ (DEnd P G fn r)) : ACall P G f args r := by
  have hlen : args.length ≤ fn.ntmps := Nat.le_of_ble_eq_true hlen'
  refine ⟨⟨fn, hf, hnm, by simp [hb]⟩, fun ok w vs hG hok hfit => calls_of_wp_defers hf hb (wpIn_wide (n := 0).1 (wpIn_mono (h w ok _ w hG hok (sit_enter hlen hok hfit)) fun e a' w' ⟨st, hs, hq⟩ => ?_))⟩
  obtain ⟨h0, h1, h2, ok', bs, h3, h4, h5, h6⟩ := hs
  rcases hq with ⟨hn, he, hr⟩ | ⟨t, g, caps, mem', gh, hn, hfr, hr, hd⟩
  · have hdef : a'.defers = [] := by
      have := h1.1
      rw [hn] at this
      cases hds : a'.defers with
      | nil => rfl
      | cons d ds =>
        rw [hds] at this
        simp only [Dfs] at this
        rcases this with ⟨h, _⟩ | ⟨t, l', e, _⟩
        · cases h
        · cases e
    obtain ⟨u, h7, h8⟩ := results_of (ok' := okN ok w w') h5 (fun b hb => by
      rcases h4 b hb with h | h
      · exact .inl h
      · exact .inr ⟨h, h5.lt b hb⟩) (fun b hb hb' => .inr ⟨hb, hb'⟩) h6.1 hr
    have hlv : Leaves P fn a'.tmps (fun e w' => ∃ u, e = .returned u ∧ Below w.heap.size w w' ∧ Fits (okN ok w w') w' r u) a'.defers .returning w' := by
      rw [hdef]; exact ⟨u, h7, u, rfl, h2, h8⟩
    rcases he with rfl | rfl <;> exact hlv
  · obtain ⟨us, vs', hdef, htm⟩ : ∃ us vs', a'.defers = [{ target := .fn (.func g) vs', args := us }] ∧ a'.tmps.getD t undef = .func (.func g) us vs' := by
      have := h1.1
      rw [hn] at this
      cases hds : a'.defers with
      | nil => rw [hds] at this; simp [Dfs] at this
      | cons d ds =>
        rw [hds] at this
        simp only [Dfs] at this
        rcases this with ⟨h, _⟩ | ⟨t', l', e, ⟨f', us, vs', e1, e2⟩, e3⟩
        · cases h
        · injection e with ea eb
          subst ea
          subst eb
          have hds2 : ds = [] := by
            cases ds with
            | nil => rfl
            | cons d' ds' =>
              simp only [Dfs] at e3
              rcases e3 with ⟨h, _⟩ | ⟨t, l', e, _⟩
              · cases h
              · cases e
          have := h6.1 t
          rw [hfr, e2] at this
          simp only [FitsE] at this
          obtain ⟨x, y, e4, _, _⟩ := this
          injection e4 with e4 e5 e6
          injection e4 with e4
          subst e4
          exact ⟨us, vs', by rw [hds2, e1], e2⟩
    have hcap := h6.1 t
    rw [hfr, htm] at hcap
    simp only [FitsE] at hcap
    obtain ⟨x, y, e4, hx, hy⟩ := hcap
    simp only [FitsEL] at hx
    subst hx
    injection e4 with _ e5 e6
    subst e5
    subst e6
    let ghA : List (EV × Value) := (List.range fn.ntmps).map fun t => (st.fr t, a'.tmps.getD t undef)
    have hghA : ∀ p ∈ ghA, FitsE ok' w' bs st.mem p.1 p.2 := fun p hp => by
      obtain ⟨t, _, rfl⟩ := List.mem_map.1 hp
      exact h6.1 t
    have fin : ∀ (mode : Option AV) (u : Value), DClo P G g caps mode st.mem mem' → (∀ v, mode = some v → Fits ok' w' v u) →
        Leaves P fn a'.tmps (fun e w' => ∃ u, e = .returned u ∧ Below w.heap.size w w' ∧ Fits (okN ok w w') w' r u) a'.defers (modeIn mode u) w' := fun mode u hc hv => by
      rw [hdef]
      refine ⟨by cases mode <;> simp [modeIn], .func g, y.toArray, g, y.toArray, rfl, by simp only [invoke]; rw [show (([] : List Value).toArray ++ y.toArray) = y.toArray from by simp]; exact enter_run hc.1 _ _, ?_⟩
      refine CallsD.mono (hc.2 w ok ok' bs w' y ghA u hG hok h2 h3 h4 h5 hy hghA hv) fun e u' w2 ⟨⟨x, he⟩, hu, ok2, bs2, k2, k3, k4, k5, k6⟩ => ?_
      subst he
      subst hu
      have hset : settle (modeOut mode u) = .returning := by cases mode <;> rfl
      simp only [hset]
      have hfits : ∀ t, FitsE ok2 w2 bs2 mem' (cutFr fn.ntmps st.fr t) (a'.tmps.getD t undef) := fun t => by
        unfold cutFr
        by_cases ht : t < fn.ntmps
        · rw [show Nat.blt t fn.ntmps = true from by simpa [Nat.blt_eq] using ht]
          exact k6 _ (List.mem_map_of_mem (List.mem_range.2 ht))
        · rw [show Nat.blt t fn.ntmps = false from by
            cases hb : Nat.blt t fn.ntmps
            · rfl
            · exact absurd (by simpa [Nat.blt_eq] using hb) ht]
          simp [FitsE, Fits]
      obtain ⟨u2, h7, h8⟩ := results_of (ok' := okN ok w w2) k5 (fun b hb => by
        rcases k4 b hb with h | h
        · exact .inl h
        · exact .inr ⟨h, k5.lt b hb⟩) (fun b hb hb' => .inr ⟨hb, hb'⟩) hfits hr
      exact ⟨u2, h7, u2, rfl, k2, h8⟩
    rcases hd with ⟨he, hc⟩ | ⟨u, v, he, hu, hc⟩
    · have := fin none undef hc (fun v h => by cases h)
      rcases he with rfl | rfl <;> exact this
    · subst he
      rw [hn] at h6
      have hv := h6.2 _ hu
      simp only [FitsE] at hv
      exact fin (some v) u hc (fun v' e => by injection e with e; subst e; exact hv)
end
end Go.Av
end

section
namespace Go.Av
open Go.RowKit

/-- A string by its bytes. -/
abbrev eS (l : List UInt8) : AV := .v (.string ⟨l.toArray⟩)
abbrev SL (l : List UInt8) : EV := .pub (eS l)
def nxT (s : ByteArray) (k : Nat) : List AV := if k < s.size then [.v (.bool true), .v (goInt k), .v (.int .i32 ((Utf8.decode s k).1 : Int))] else [.v (.bool false)]
def nxK (s : ByteArray) (k : Nat) : Nat := if k < s.size then k + (Utf8.decode s k).2 else k
theorem eS_of (s : ByteArray) : AV.v (.string s) = eS s.data.toList := by simp [eS]

section
variable {P : Program} {G : Glob} {fr : Nat → EV} {mem : List PO} {o : Oper}

theorem bytes_toList (l : List UInt8) : (⟨l.toArray⟩ : ByteArray).toList = l := by
  rw [ByteArray.toList_eq]
theorem y_addS {T U : TypeId} {x y : Operand} {a b : List UInt8} (ho : o.op = .binOp .add T x y U) (hx : evO fr x = SL a) (hy : evO fr y = SL b) (hl : a.length + b.length ≤ 9223372036854775807) : OpY P G fr mem o (SL (a ++ b)) :=
  y_bin ho hx hy (fun w => by
    have h1 : ¬ ((a.length : Int) + (b.length : Int) > IntKind.i64.max) := by
      have : IntKind.i64.max = 9223372036854775807 := by decide
      omega
    have e : (⟨a.toArray⟩ : ByteArray) ++ ⟨b.toArray⟩ = ⟨(a ++ b).toArray⟩ := by
      apply ByteArray.ext; simp
    simp [eqGuard, binOp, Op.stringOp, ByteArray.size, e]
    omega) rfl
theorem y_eqlS {T U : TypeId} {x y : Operand} {a b : List UInt8} (ho : o.op = .binOp .eql T x y U) (hx : evO fr x = SL a) (hy : evO fr y = SL b) : OpY P G fr mem o (B (a == b)) :=
  y_bin ho hx hy (fun w => by simp [eqGuard, binOp, Op.stringOp, bytes_toList]) rfl
theorem y_neqS {T U : TypeId} {x y : Operand} {a b : List UInt8} (ho : o.op = .binOp .neq T x y U) (hx : evO fr x = SL a) (hy : evO fr y = SL b) : OpY P G fr mem o (B (a != b)) :=
  y_bin ho hx hy (fun w => by simp [eqGuard, binOp, Op.stringOp, bytes_toList, bne]) rfl
theorem y_len_SL {T : TypeId} {x : Operand} {a : List UInt8} (ho : o.op = .call { callee := .builtin .len, args := #[x], argTypes := #[T] }) (hx : evO fr x = SL a) (hu : P.underlying T = some .string) :
    OpY P G fr mem o (I (a.length : Int)) := y_len_str ho hx hu
theorem y_index_SL {T : TypeId} {x y : Operand} {a : List UInt8} {p : Int} {c : UInt8} (ho : o.op = .index T x y) (hx : evO fr x = SL a) (hy : evO fr y = I p) (ht : P.underlying T = some .string) (hp : 0 ≤ p) (hc : a[p.toNat]? = some c) :
    OpY P G fr mem o (.pub (.v (.int .u8 c.toNat))) := by
  have hlt := (List.getElem?_eq_some_iff.1 hc).1
  have h := y_index_str (P := P) (G := G) (mem := mem) ho hx hy ht hp (by simp [ByteArray.size]; omega)
  have e : (((⟨a.toArray⟩ : ByteArray)[p.toNat]?).getD 0) = c := by
    have he := (List.getElem?_eq_some_iff.1 hc).2
    rw [getElem?_pos _ _ (by simp [ByteArray.size]; omega)]
    simp only [Option.getD_some]
    exact he
  rw [e] at h
  exact h
theorem y_slice_SL {T : TypeId} {x : Operand} {lo hi : Option Operand} {a : List UInt8} {l h : Int} (ho : o.op = .slice T x lo hi none) (hx : evO fr x = SL a)
    (hlo : LoIs fr lo 0 l) (hhi : LoIs fr hi (a.length : Int) h)
    (ht : P.underlying T = some .string) (h0 : 0 ≤ l) (h1 : l ≤ h) (h2 : h ≤ (a.length : Int)) : OpY P G fr mem o (SL ((a.take h.toNat).drop l.toNat)) := by
  have := y_slice_str (P := P) (G := G) (mem := mem) (h := h) ho hx hlo hhi ht h0 h1 h2
  have e : (⟨a.toArray⟩ : ByteArray).extract l.toNat h.toNat = ⟨((a.take h.toNat).drop l.toNat).toArray⟩ := by
    apply ByteArray.ext
    apply Array.ext'
    simp [ByteArray.data_extract, List.extract_eq_take_drop, List.drop_take]
  rw [e] at this
  exact this

theorem y_len_map {α : Type} {T U : TypeId} {x : Operand} {l : List α} {f : α → List AV} (ho : o.op = .call { callee := .builtin .len, args := #[x], argTypes := #[T] }) (hx : evO fr x = .pub (.sl (l.map f))) (hu : P.underlying T = some (.slice U)) :
    OpY P G fr mem o (I (l.length : Int)) := by
  have := y_len (P := P) (G := G) (mem := mem) (ty := o.type) ho rfl hx hu
  rwa [List.length_map] at this
/-- A conversion between kinds of numbers. -/
theorem y_convI {S T : TypeId} {x : Operand} {d : TypeDesc} {k k' : IntKind} {n : Int} (ho : o.op = .convert S T x) (hx : evO fr x = .pub (.v (.int k n))) (hs : P.underlying S = some d) (ht : P.underlying T = some (.int k')) (hw : k'.wrap n = n) :
    OpY P G fr mem o (.pub (.v (.int k' n))) :=
  y_same fun ok bs w a _ _ hf => by
    have h1 := ev_v (hf x (by simp [ho, Op.operands])) hx
    refine ⟨.int k' n, ?_, fitsE_v rfl⟩
    simp [execOp, ho, h1, convert, run_underlying hs, run_underlying ht, Conv.intToInt, hw]

theorem y_subK {T U : TypeId} {x y : Operand} {k : IntKind} {p q : Int} (ho : o.op = .binOp .sub T x y U) (hx : evO fr x = .pub (.v (.int k p))) (hy : evO fr y = .pub (.v (.int k q))) (hw : k.wrap (p - q) = p - q) : OpY P G fr mem o (.pub (.v (.int k (p - q)))) :=
  y_int2 ho hx hy (fun w => by cases k <;> simp [binOp, Op.intArith, hw]) rfl
theorem y_addK {T U : TypeId} {x y : Operand} {k : IntKind} {p q : Int} (ho : o.op = .binOp .add T x y U) (hx : evO fr x = .pub (.v (.int k p))) (hy : evO fr y = .pub (.v (.int k q))) (hw : k.wrap (p + q) = p + q) : OpY P G fr mem o (.pub (.v (.int k (p + q)))) :=
  y_int2 ho hx hy (fun w => by cases k <;> simp [binOp, Op.intArith, hw]) rfl
theorem wrap_u8 {n : Int} (h : 0 ≤ n ∧ n ≤ 255) : IntKind.u8.wrap n = n := by
  rw [IntKind.wrap_u8]; omega
theorem wrap_i32 {n : Int} (h : -2147483648 ≤ n ∧ n ≤ 2147483647) : IntKind.i32.wrap n = n := by
  rw [IntKind.wrap_i32]; omega
theorem wrap_64 {n : Int} (h : -9223372036854775808 ≤ n ∧ n ≤ 9223372036854775807) : IntKind.i64.wrap n = n := wrap_i64 h.1 h.2

theorem nxT0 (s : ByteArray) (k : Nat) : (nxT s k)[0]? = some (.v (.bool (decide (k < s.size)))) := by
  unfold nxT; split <;> simp [*]
theorem nxT2 {s : ByteArray} {k : Nat} (h : k < s.size) : (nxT s k)[2]? = some (.v (.int .i32 ((Utf8.decode s k).1 : Int))) := by
  unfold nxT; rw [if_pos h]; rfl
/-- A string of bytes. -/
theorem y_convBS {S T e : TypeId} {x : Operand} {ns : List Int} (ho : o.op = .convert S T x) (hx : evO fr x = .pub (.sl (ns.map fun n => [.v (.int .u8 n)]))) (hs : P.underlying S = some (.slice e)) (he : P.underlying e = some (.int .u8)) (hd : P.underlying T = some .string) :
    OpY P G fr mem o (SL (ns.map fun n => UInt8.ofNat n.toNat)) :=
  y_same fun ok bs w a _ _ hf => by
    have h := hf x (by simp [ho, Op.operands])
    rw [hx] at h
    simp only [FitsE, Fits] at h
    obtain ⟨ad, c, size, ea, h1, h2, h3, h4⟩ := h
    have hstr : strOfNums ns = ⟨(ns.map fun n => UInt8.ofNat n.toNat).toArray⟩ := by simp [strOfNums]
    refine ⟨_, ?_, fitsE_v rfl⟩
    cases ns with
    | nil =>
      simp only [execOp, ho, ea, List.map_nil, List.length_nil]
      cases ad with
      | none => simp [run_convert_bytes_nil (w := w) S e hs he 0 c T hd]; rfl
      | some ad =>
        have := run_convert_bytes_string w S T e (some ad) 0 c hs he hd
        simp only [Sem.run_bind, this]
        simp [Conv.bytesToString, loadCells, loadCellsFrom]; rfl
    | cons n ns =>
      obtain ⟨b, off, rfl, _, hr⟩ := h4 (by simp)
      have hsz : size = 1 := by have := h3 [.v (.int .u8 n)] (by simp); simpa using this.symm
      subst hsz
      have hc : ∀ i, i < (n :: ns).length → w.cell? ⟨b, off + i, none⟩ = some (.int .u8 ((n :: ns).getD i 0)) := fun i hi => by
        have hg : ((n :: ns).map fun n => [AV.v (.int .u8 n)])[i]? = some [AV.v (.int .u8 ((n :: ns).getD i 0))] := by
          rw [List.getElem?_map, List.getElem?_eq_getElem hi, List.getD_eq_getElem?_getD, List.getElem?_eq_getElem hi]; rfl
        have := FitsR.get hr h3 hg
        simp only [FitsC] at this
        obtain ⟨⟨u, k1, _, k3⟩, _⟩ := this
        simp only [Fits] at k3
        rw [k3.1] at k1
        simpa using k1
      have := run_convert_bytes_arg (P := P) w S e hs he b off _ c (n :: ns) rfl hc T hd
      rw [hstr] at this
      simp only [execOp, ho, ea, List.length_map, Sem.run_bind, this, Result.andThen_ok]; rfl

/-- Is an interface value nil? -/
theorem y_nilI {T U : TypeId} {x : Operand} {ms : Array (String × TypeId)} (ho : o.op = .binOp .eql T x (.const .nilIface) U) (hx : evO fr x = .pub (.v .nilIface)) (ht : P.underlying T = some (.interface ms)) : OpY P G fr mem o (B true) :=
  y_same fun ok bs w a _ _ hf => by
    have h1 := ev_v (hf x (by simp [ho, Op.operands])) hx
    refine ⟨.bool true, ?_, fitsE_v rfl⟩
    have e2 : a.eval (.const .nilIface) = .nilIface := rfl
    have hg : (eqGuard .eql T x (.const .nilIface) .nilIface .nilIface).run P w = .ok () w := by simp [eqGuard]
    have hd : ∀ d : Nat, (Op.equalIn (d + 1) T .nilIface .nilIface).run P w = .ok true w := fun d => by simp [Op.equalIn, run_underlying ht]
    have hb : (binOp .eql T .nilIface .nilIface).run P w = .ok (.bool true) w := by
      simp only [binOp]
      simp [Op.equal, Op.maxDepth, hd 9999]
    simp only [execOp, ho, h1, e2, Sem.run_bind, hg, hb, Result.andThen_ok]; rfl
theorem y_nilN {T U t : TypeId} {x : Operand} {c : AV} {ms : Array (String × TypeId)} (ho : o.op = .binOp .eql T x (.const .nilIface) U) (hx : evO fr x = .pub (.ifc t c)) (ht : P.underlying T = some (.interface ms)) : OpY P G fr mem o (B false) :=
  y_same fun ok bs w a _ _ hf => by
    have h := hf x (by simp [ho, Op.operands])
    rw [hx] at h
    simp only [FitsE, Fits] at h
    obtain ⟨u, e, _⟩ := h
    refine ⟨.bool false, ?_, fitsE_v rfl⟩
    have e2 : a.eval (.const .nilIface) = .nilIface := rfl
    have hg : (eqGuard .eql T x (.const .nilIface) (.iface t u) .nilIface).run P w = .ok () w := by simp [eqGuard]
    have hd : ∀ d : Nat, (Op.equalIn (d + 1) T (.iface t u) .nilIface).run P w = .ok false w := fun d => by simp [Op.equalIn, run_underlying ht]
    have hb : (binOp .eql T (.iface t u) .nilIface).run P w = .ok (.bool false) w := by
      simp only [binOp]
      simp [Op.equal, Op.maxDepth, hd 9999]
    simp only [execOp, ho, e, e2, Sem.run_bind, hg, hb, Result.andThen_ok]; rfl
/-- A type assertion that holds. -/
theorem y_assertT {X t : TypeId} {x : Operand} {c : AV} {d : TypeDesc} (ho : o.op = .typeAssert x X t true) (hx : evO fr x = .pub (.ifc t c)) (ht : P.underlying t = some d) (hd : (match d with | .interface _ => true | _ => false) = false) :
    OpY P G fr mem o (.pub (.tup [c, .v (.bool true)])) :=
  y_same fun ok bs w a _ _ hf => by
    have h := hf x (by simp [ho, Op.operands])
    rw [hx] at h
    simp only [FitsE, Fits] at h
    obtain ⟨u, e, hu⟩ := h
    refine ⟨.tuple #[u, .bool true], ?_, ?_⟩
    · cases d <;> simp_all [execOp, Instr.typeAssert, run_underlying ht]
    · simp only [FitsE, Fits, FitsL]
      exact ⟨[u, .bool true], rfl, u, _, rfl, hu, .bool true, [], rfl, ⟨rfl, rfl⟩, rfl⟩
end

section
variable {r : Option Nat} {P : Program} {G : Glob} {st : ASt} {ops : Array Oper} {l : List Oper} {Q : Exit → ASt → Prop} {o : Oper}

/-- A value, or a panic. -/
def optO {α : Type} (pv : AV) (g : α → AV) : Option α → Out
  | some y => .ret (g y)
  | none => .pan pv

theorem XCall.some {α : Type} {f : FuncId} {args : List AV} {pv : AV} {g : α → AV} {x : Option α} {y : α} (h : XCall P G f args (optO pv g x)) (hx : x = .some y) : ACall P G f args (g y) := by
  subst hx; exact XCall.a h
theorem XCall.none {α : Type} {f : FuncId} {args : List AV} {pv : AV} {g : α → AV} {x : Option α} (h : XCall P G f args (optO pv g x)) (hx : x = .none) : XCall P G f args (.pan pv) := by
  subst hx; exact h

/-- A call that returns or panics. -/
theorem al_xo {α : Type} {args : Array Operand} {tys : Array TypeId} {f : FuncId} {av : List AV} {pv : AV} {g : α → AV} {x : Option α} (hg : bareOp o = true) (hd : dstIn o st.n = true) (ho : o.op = .call { callee := .value (.func f), args := args, argTypes := tys })
    (ha : ArgsE st.fr args.toList av) (hc : XCall P G f av (optO pv g x)) (hn : x = none → ∀ u, Q (.panic (pnc u)) ⟨st.n.pan pv u, st.fr, st.mem⟩)
    (hs : ∀ y, x = some y → AList (r := r) P G ops l ⟨st.n, setO st.fr o.dst (.pub (g y)), st.mem⟩ Q) : AList (r := r) P G ops (o :: l) st Q := by
  cases hx : x with
  | none => exact al_panC hg ho ha (hc.none hx) (hn hx)
  | some y => exact al_y hg hd (y_callF ho ha (hc.some hx)) (hs y hx)

theorem weak_le {n : NS} {fr : Nat → EV} {mem : List PO} {x y : AV} (d : Tmp) (h : fr d = .pub x) (hle : AVle x y) : Weak ⟨n, fr, mem⟩ ⟨n, setO fr (some d) (.pub y), mem⟩ := by
  intro w0 ok0 a w ⟨h0, h1, h2, ok, bs, h3, h4, h5, h6⟩
  refine ⟨h0, h1, h2, ok, bs, h3, h4, h5, fun t => ?_, h6.2⟩
  simp only [setO_at]
  by_cases htd : t = d
  · subst htd
    have := h6.1 t
    simp only [h, FitsE] at this
    simp only [if_true, FitsE]
    exact hle _ _ _ this
  · simp only [htd, if_false]; exact h6.1 t
theorem weak_frN {n n' : NS} {fr : Nat → EV} {mem mem' : List PO} (hn : n = n') (l : List (Nat × EV)) (h : allSlots fr l) (hm : mem = mem') : Weak ⟨n, fr, mem⟩ ⟨n', frL l, mem'⟩ := by subst hn; exact weak_frM l h hm
def PO.okL (k : Nat) : PO → Prop
  | .dead => True
  | .row rows => ∀ r ∈ rows, ∀ x ∈ r, EV.lt k x
  | .map es => ∀ p ∈ es, EV.lt k p.2
def memOKL (k : Nat) : List PO → Prop
  | [] => True
  | o :: l => o.okL k ∧ memOKL k l
def slotsOKL (k : Nat) : List (Nat × EV) → Prop
  | [] => True
  | p :: l => EV.lt k p.2 ∧ slotsOKL k l
theorem memOKL_get {k : Nat} : ∀ {l : List PO} {i : Nat} {o : PO}, memOKL k l → l[i]? = some o → o.okL k
  | [], i, o, _, h => by simp at h
  | x :: xs, i, o, h, hx => by
    cases i with
    | zero => simp at hx; subst hx; exact h.1
    | succ i => exact memOKL_get h.2 (by simpa using hx)
theorem slotsOKL_frL {k : Nat} : ∀ {l : List (Nat × EV)}, slotsOKL k l → ∀ t, EV.lt k (frL l t)
  | [], _, t => by simp [frL, EV.lt]
  | (a, e) :: l, h, t => by
    simp only [frL]
    cases Nat.beq t a with
    | true => exact h.1
    | false => exact slotsOKL_frL h.2 t
/-- The parts behind k are forgotten. -/
theorem weak_cut {n : NS} {l : List (Nat × EV)} {mem : List PO} (k : Nat) (hl : slotsOKL k l) (hm : memOKL k (mem.take k)) (hgh : n.gh = [] := by rfl) : Weak ⟨n, frL l, mem⟩ ⟨n, frL l, mem.take k⟩ :=
  weak_takeG k (slotsOKL_frL hl) (fun i rows hi h r hr x hx => by
    have := memOKL_get hm (i := i) (o := .row rows) (by rw [List.getElem?_take, if_pos hi]; exact h)
    exact this r hr x hx) (fun p h => by rw [hgh] at h; cases h) (fun i es hi h => memOKL_get hm (i := i) (o := .map es) (by rw [List.getElem?_take, if_pos hi]; exact h))
theorem okL_pub {k : Nat} {rows : List (List AV)} : PO.okL k (.row (rows.map (·.map .pub))) := fun r hr x hx => by
  obtain ⟨q, _, rfl⟩ := List.mem_map.1 hr
  obtain ⟨y, _, rfl⟩ := List.mem_map.1 hx
  simp [EV.lt]
theorem okL_pub1 {α : Type} {k : Nat} {l : List α} {f : α → AV} : PO.okL k (.row (l.map fun a => [EV.pub (f a)])) := fun r hr x hx => by
  obtain ⟨q, _, rfl⟩ := List.mem_map.1 hr
  simp only [List.mem_singleton] at hx
  subst hx
  simp [EV.lt]
theorem AVle.ifc1 {t : TypeId} {x : AV} : AVle (.ifc t (.agg [x])) (.ifc t (.agg [.top])) := fun ok w u h => by
  simp only [Fits] at h ⊢
  obtain ⟨v, e, vs, ev, h1, hf⟩ := h
  refine ⟨v, e, vs, ev, h1, ?_⟩
  simp only [FitsL] at hf ⊢
  obtain ⟨a, b, e1, _, e2⟩ := hf
  exact ⟨a, b, e1, by simp only [Fits], e2⟩
theorem AVle.ifc_top {t : TypeId} {x : AV} : AVle (.ifc t x) (.ifc t .top) := fun ok w u h => by
  simp only [Fits] at h ⊢
  obtain ⟨v, e, _⟩ := h
  exact ⟨v, e, trivial⟩
/-- How the body of a function that may panic ends. -/
def XEnd (P : Program) (fn : Func) (out : Out) (e : Exit) (st : ASt) : Prop := match out with
  | .ret r => (e = .normal ∨ e = .ret) ∧ RetE P fn st r
  | .pan v => ∃ u v', e = .panic (pnc u) ∧ (EV.pub v', u) ∈ st.n.gh ∧ AVle v' v ∧ st.n.dfs = []
theorem xend_ret {α : Type} {fn : Func} {pv : AV} {g : α → AV} {x : Option α} {y : α} {e : Exit} (hx : x = some y) (he : e = .normal ∨ e = .ret) (h : RetE P fn st (g y)) : XEnd P fn (optO pv g x) e st := by subst hx; exact ⟨he, h⟩
theorem xend_pan {α : Type} {fn : Func} {pv v' : AV} {g : α → AV} {x : Option α} {u : Value} {n : NS} {fr : Nat → EV} {mem : List PO} (hx : x = none) (hv : AVle v' pv) (hd : n.dfs = [] := by rfl) : XEnd P fn (optO pv g x) (.panic (pnc u)) ⟨n.pan v' u, fr, mem⟩ := by
  subst hx; exact ⟨u, v', rfl, List.mem_cons_self .., hv, hd⟩

theorem xcall_of {f : FuncId} {fn : Func} {c : Code} {args : List AV} {out : Out} (hf : P.funcs[f]? = some fn) (hb : fn.body = some c) (hnm : (fn.name == "runtime.NumGoroutine") = false) (hlen' : Nat.ble args.length fn.ntmps = true)
    (h : ACode (r := none) P G c ⟨fn.ntmps, frOf args, []⟩ (XEnd P fn out)) : XCall P G f args out := by
  cases out with
  | ret r => exact (acall_of hf hb hnm hlen' h).x
  | pan v =>
    have hlen : args.length ≤ fn.ntmps := Nat.le_of_ble_eq_true hlen'
    refine ⟨⟨fn, hf, hnm, by simp [hb]⟩, fun ok w vs hG hok hfit => callsIn_wide.1 (callsIn_of_wp_marks (n := 0) hf hb trivial ?_)⟩
    refine wpIn_mono (h w ok _ w hG hok (sit_enter hlen hok hfit)) fun e a' w' ⟨st, hs, u, v', he, hu, hv, hd⟩ => ?_
    obtain ⟨h0, h1, h2, ok', bs, h3, h4, h5, h6⟩ := hs
    subst he
    have h1 := h1.1
    rw [hd] at h1
    refine leaves_marksP h1 fun w2 hw2 => ⟨h2.trans hw2.below, u, rfl, ?_⟩
    have := h6.2 _ hu
    simp only [FitsE] at this
    refine hv _ _ _ ((this.congr hw2.cell).mono (fun b hb => ?_) (fun _ _ => rfl))
    rcases h4 b hb with h | h
    · exact .inl h
    · exact .inr ⟨h, by rw [hw2.size]; exact h5.lt b hb⟩

/-- A string's iterator. -/
abbrev itP (b : Nat) : EV := .pub (.v (.pointer (some ⟨b, 0, none⟩)))
@[reducible] def NS.held (n : NS) (h : List (Nat × Obj)) : NS := ⟨n.n, n.dfs, n.gh, n.mks, h⟩

theorem al_range {T : TypeId} {x : Operand} {a : List UInt8} (hg : bareOp o = true) (hd : dstIn o st.n = true) (ho : o.op = .range T x) (hx : evO st.fr x = SL a) (ht : P.underlying T = some .string)
    (h : ∀ b, AList (r := r) P G ops l ⟨st.n.held ((b, .stringIter ⟨a.toArray⟩ 0) :: st.n.hold), setO st.fr o.dst (itP b), st.mem⟩ Q) : AList (r := r) P G ops (o :: l) st Q := by
  intro w0 ok0 a' w hG hok ⟨h0, h1, h2, ok, bs, h3, h4, h5, h6⟩
  have hv := ev_v (fits_evO (fr := st.fr) (a := a') (x := x) fun t _ => h6.1 t) hx
  have hrun : (execOp a'.eval o).run P w = .ok (.value (.pointer (some ⟨w.heap.size, 0, none⟩))) (w.alloc (.stringIter ⟨a.toArray⟩ 0)) := by
    simp [execOp, ho, hv, Instr.range, run_underlying ht]
  have hbel := below_alloc w (.stringIter ⟨a.toArray⟩ 0)
  refine wpListIn_plain (bareOp_g hg) fun K hK => fw_op (bareOp_d hg) <| wp_value hrun (hK _ _ (h w.heap.size w0 ok0 _ _ hG hok ?_))
  obtain ⟨k0, k1, k2, ok', bs', k3, k4, k5, k6⟩ := Sit.put (w' := w.alloc (.stringIter ⟨a.toArray⟩ 0)) (x := itP w.heap.size) (u := .pointer (some ⟨w.heap.size, 0, none⟩)) (dst := o.dst) h0 h1 h2 h3 h4 h5 h6 hbel (fitsE_v rfl) (dstIn_dok hd)
  refine ⟨k0, ⟨k1.1, fun p hp => ?_⟩, k2, ok', bs', k3, k4, k5, k6⟩
  rcases List.mem_cons.1 hp with rfl | hp
  · exact ⟨⟨⟨rfl, by rw [defers_put]; exact fun hD => Nat.lt_irrefl _ (h1.1.marks _ hD).2.1⟩, h2.size⟩, heap_alloc_new w _⟩
  · exact k1.2 p hp

theorem al_next {y : Operand} {b k : Nat} {s : ByteArray} {hs : List (Nat × Obj)} (hg : bareOp o = true) (hd : dstIn o st.n = true) (ho : o.op = .next y true) (hy : evO st.fr y = itP b) (hh : st.n.hold = (b, .stringIter s k) :: hs) (hne : (hs.all fun p => !(Nat.beq p.1 b)) = true)
    (h : AList (r := r) P G ops l ⟨st.n.held ((b, .stringIter s (nxK s k)) :: hs), setO st.fr o.dst (.pub (.tup (nxT s k))), st.mem⟩ Q) : AList (r := r) P G ops (o :: l) st Q := by
  intro w0 ok0 a' w hG hok ⟨h0, h1, h2, ok, bs, h3, h4, h5, h6⟩
  have hv := ev_v (fits_evO (fr := st.fr) (a := a') (x := y) fun t _ => h6.1 t) hy
  have hb := h1.2 (b, .stringIter s k) (by rw [hh]; exact List.mem_cons_self ..)
  have hbl : w0.heap.size ≤ b := hb.1.2
  have hbh : w.heap[b]? = some (.stringIter s k) := hb.2
  have hlt := (Array.getElem?_eq_some_iff.1 hbh).1
  have hwant : ∀ (K : Act → World → Prop) (Q : Exit → Act → World → Prop), (∀ u w', (execOp a'.eval o).run P w = .ok (.value u) w' → K (a'.put o.dst u) w') → (∃ u w', (execOp a'.eval o).run P w = .ok (.value u) w') → o.wp P a' w K Q := fun K Q hK ⟨u, w', e⟩ => wp_value e (hK u w' e)
  have hrun : (execOp a'.eval o).run P w = .ok (.value (if k < s.size then .tuple #[.bool true, goInt k, .int .i32 ((Utf8.decode s k).1 : Int)] else .tuple #[.bool false])) (if k < s.size then w.putObj b (.stringIter s (nxK s k)) else w) := by
    have g1 : (getObj b).run P w = .ok (.stringIter s k) w := by simp [getObj, Sem.run, hbh]
    have g2 : ∀ o', (setObj b o').run P w = .ok () (w.putObj b o') := fun o' => by simp [setObj, Sem.run, hbh, World.putObj]
    by_cases hk : k < s.size
    · simp [execOp, ho, hv, Instr.next, g1, g2, hk, nxK]
    · simp [execOp, ho, hv, Instr.next, g1, hk]
  obtain ⟨w', hw'⟩ : ∃ w', (if k < s.size then w.putObj b (.stringIter s (nxK s k)) else w) = w' := ⟨_, rfl⟩
  obtain ⟨u, hu⟩ : ∃ u, (if k < s.size then Value.tuple #[.bool true, goInt k, .int .i32 ((Utf8.decode s k).1 : Int)] else .tuple #[.bool false]) = u := ⟨_, rfl⟩
  rw [hw', hu] at hrun
  have hheap : ∀ j, j ≠ b → w'.heap[j]? = w.heap[j]? := fun j hj => by
    rw [← hw']
    split
    · exact heap_put_ne hj
    · rfl
  have hnew : w'.heap[b]? = some (.stringIter s (nxK s k)) := by
    rw [← hw']
    split
    · exact heap_put_eq hbh
    · rename_i hk; simp [nxK, hk, hbh]
  have hsz : w'.heap.size = w.heap.size := by
    rw [← hw']
    split
    · exact size_put'
    · rfl
  have hbel : Below w0.heap.size w w' := by
    rw [← hw']
    split
    · exact ⟨rfl, rfl, rfl, Nat.le_of_eq size_put'.symm, fun j hj => heap_put_ne (by omega)⟩
    · exact Below.refl _ _
  have hcell : ∀ ad, w'.cell? ad = w.cell? ad := fun ad => by
    rw [← hw']
    split
    · exact cell_put hbh rfl rfl ad
    · rfl
  have hux : FitsE ok w' bs st.mem (.pub (.tup (nxT s k))) u := by
    simp only [FitsE, Fits]
    rw [← hu]
    unfold nxT
    split
    · exact ⟨[.bool true, goInt k, .int .i32 ((Utf8.decode s k).1 : Int)], rfl, ⟨_, _, rfl, ⟨rfl, rfl⟩, _, _, rfl, ⟨rfl, rfl⟩, _, _, rfl, ⟨rfl, rfl⟩, rfl⟩⟩
    · exact ⟨[.bool false], rfl, ⟨_, _, rfl, ⟨rfl, rfl⟩, rfl⟩⟩
  refine wpListIn_plain (bareOp_g hg) fun K hK => fw_op (bareOp_d hg) <| wp_value hrun (hK _ _ (h w0 ok0 _ _ hG hok ?_))
  have hmo : MemOK w0.heap.size ok w' bs st.mem := by
    rw [← hw']
    split
    · exact h5.put hbh rfl rfl
    · exact h5
  refine ⟨(size_put ..).trans h0, ⟨?_, fun p hp => ?_⟩, h2.trans hbel, ok, bs, h3, h4, hmo, ?_⟩
  · rw [defers_put, hsz]
    have hD : ∀ {ds : List Deferred} {B : Nat} {l : List Tmp}, Dfs st.n.mks w0 w a'.tmps ds B l → (∀ t, t ∈ l → t ∈ st.n.dfs) → Dfs st.n.mks w0 w' (a'.put o.dst u).tmps ds B l := by
      intro ds
      induction ds with
      | nil => intro B l h _; simpa only [Dfs] using h
      | cons d ds ih =>
        intro B l h hl
        simp only [Dfs] at h ⊢
        rcases h with ⟨hm, D, e, e1, e2, e3, e4⟩ | ⟨t, l', rfl, ⟨f, us, vs, e, e1⟩, e2⟩
        · refine .inl ⟨hm, D, e, e1, e2, ?_, ih e4 hl⟩
          rw [hheap D (fun e => by subst e; rw [hbh] at e3; cases e3)]
          exact e3
        · refine .inr ⟨t, l', rfl, ⟨f, us, vs, e, ?_⟩, ih e2 fun t ht => hl t (List.mem_cons_of_mem _ ht)⟩
          cases hdd : o.dst with
          | none => exact e1
          | some d =>
            have hnd : t ≠ d := fun e => (dstIn_dok hd d hdd).2 (e ▸ hl t (List.mem_cons_self ..))
            simp only [Act.put, getD_put, hnd, false_and, if_false]
            exact e1
    exact hD h1.1 fun _ h => h
  · rcases List.mem_cons.1 hp with rfl | hp
    · exact ⟨⟨⟨rfl, by rw [defers_put]; exact hb.1.1.2⟩, hbl⟩, hnew⟩
    · have hpb : p.1 ≠ b := fun e => by
        rw [List.all_eq_true] at hne
        have := hne p hp
        simp [e] at this
      have := h1.2 p (by rw [hh]; exact List.mem_cons_of_mem _ hp)
      exact ⟨by rw [defers_put]; exact this.1, by rw [hheap _ hpb]; exact this.2⟩
  · exact fits_put (h6.map fun _ _ h => h.congr hcell) hux (fun d e => by rw [h0]; exact (dstIn_dok hd d e).1)
end

section
variable {P : Program} {G : Glob} {ops : Array Oper} {mem : List PO} {md : Region.Mode} {pv : AV}
/-- A quiet operation that may panic. -/
def OpP (pv : AV) (P : Program) (G : Glob) (fr : Nat → EV) (mem : List PO) (o : Oper) (x : EV) : Prop :=
  ∀ (B : Nat) (ok : Nat → Prop) (bs : List PB) (w : World) (a : Act), G.holds w → B ≤ w.heap.size → MemOK B ok w bs mem →
    (∀ y ∈ o.op.operands, FitsE ok w bs mem (evO fr y) (a.eval y)) →
    ∀ (K : Act → World → Prop) (Q : Exit → Act → World → Prop), (∀ u w', Below w.heap.size w w' → FitsE (okN ok w w') w' bs mem x u → K (a.put o.dst u) w') →
      (∀ u w', Below w.heap.size w w' → Fits (okN ok w w') w' pv u → Q (.panic (pnc u)) a w') → o.wp P a w K Q
theorem OpY.p {fr : Nat → EV} {o : Oper} {x : EV} (h : OpY P G fr mem o x) : OpP pv P G fr mem o x := fun B ok bs w a h1 h2 h3 h4 K Q hK _ => h B ok bs w a h1 h2 h3 h4 K Q hK
theorem OpP.of_same {fr fr' : Nat → EV} {o : Oper} {x : EV} (h : OpP pv P G fr mem o x) (he : ∀ y ∈ o.op.operands, evO fr' y = evO fr y) : OpP pv P G fr' mem o x := by
  intro B ok bs w a hg hB hm hf K Q hK
  exact h B ok bs w a hg hB hm (fun y hy => by rw [← he y hy]; exact hf y hy) K Q hK
theorem OpP.toM {st : ASt} {o : Oper} {x : EV} (h : OpP pv P G st.fr st.mem o x) (hd : DOK o.dst st.n) (w0 : World) (ok0 : Nat → Prop) (a : Act) (w : World) (hG : G.holds w0) (hok : ∀ b, ok0 b → b < w0.heap.size) (hs : Sit w0 ok0 st a w)
    (K : Act → World → Prop) (Q : Exit → Act → World → Prop) (hK : ∀ a' w', Sit w0 ok0 ⟨st.n, setO st.fr o.dst x, st.mem⟩ a' w' → K a' w') (hP : ∀ a' w' u, Sit w0 ok0 ⟨st.n.pan pv u, st.fr, st.mem⟩ a' w' → Q (.panic (pnc u)) a' w') : o.wp P a w K Q := by
  obtain ⟨h0, h1, h2, ok, bs, h3, h4, h5, h6⟩ := hs
  exact h w0.heap.size ok bs w a (G.stable _ _ hG h2) h2.size h5 (fun y _ => fits_evO fun t _ => h6.1 t) K Q
    (fun u w' hw hx => hK _ _ (Sit.put h0 h1 h2 h3 h4 h5 h6 hw hx hd)) (fun u w' hw hv => hP _ _ _ (Sit.pan h0 h1 h2 h3 h4 h5 h6 hw hv))

/-- A call that panics, whatever would come out. -/
theorem p_call {fr : Nat → EV} {o : Oper} {args : Array Operand} {tys : Array TypeId} {f : FuncId} {av : List AV} (ho : o.op = .call { callee := .value (.func f), args := args, argTypes := tys })
    (x : EV) (ha : ArgsE fr args.toList av) (hc : XCall P G f av (.pan pv)) : OpP pv P G fr mem o x := by
  intro B ok bs w a hG hB hmo hf K Q hK hP
  have key : ∀ (l : List Operand) (xs : List AV), (∀ y ∈ l, y ∈ o.op.operands) → l.map (evO fr) = xs.map .pub → FitsL ok w xs (l.map a.eval) := by
    intro l
    induction l with
    | nil => intro xs _ h; cases xs with
      | nil => simp [FitsL]
      | cons => simp at h
    | cons y l ih => intro xs hm h; cases xs with
      | nil => simp at h
      | cons x xs =>
        simp only [List.map_cons, List.cons.injEq] at h
        simp only [List.map_cons, FitsL]
        have := hf y (hm y (by simp))
        rw [h.1] at this
        exact ⟨_, _, rfl, by simpa only [FitsE] using this, ih xs (fun z hz => hm z (by simp [hz])) h.2⟩
  unfold Oper.wp
  rw [call_exec (us := []) (vs := []) ho hc.1 (by rfl)]
  simp only [Oper.upon]
  have hv := key _ _ (fun y hy => by simp only [ho, Op.operands, Call.operands]; exact Array.mem_append.2 (.inr (by simpa using hy))) (argsE_map ha)
  have hcall := hc.2 ok w (args.toList.map a.eval) hG hmo.lt hv
  simp only [List.nil_append, List.append_nil]
  refine Calls.mono hcall fun en w' ⟨hb, u, he, hu⟩ => ?_
  subst he
  exact hP u w' hb hu

/-- The text's own order. -/
def aPan (pv : AV) (P : Program) (G : Glob) (ops : Array Oper) (mem : List PO) (Q : (Nat → EV) → Prop) : List Oper → (Nat → EV) → Prop
  | [], fr => Q fr
  | o :: rest, fr => (wantedE ops fr o = some true ∧ ∃ x, OpP pv P G fr mem o x ∧ aPan pv P G ops mem Q rest (setO fr o.dst x)) ∨
      (wantedE ops fr o = some false ∧ aPan pv P G ops mem Q rest (setO fr o.dst undefE))

theorem ap_nil {Q : (Nat → EV) → Prop} {fr : Nat → EV} (h : Q fr) : aPan pv P G ops mem Q [] fr := h
theorem ap_op {Q : (Nat → EV) → Prop} {fr : Nat → EV} {o : Oper} {rest : List Oper} {x : EV} (hg : wantedE ops fr o = some true) (ho : OpP pv P G fr mem o x) (h : aPan pv P G ops mem Q rest (setO fr o.dst x)) :
    aPan pv P G ops mem Q (o :: rest) fr := .inl ⟨hg, x, ho, h⟩
theorem ap_no {Q : (Nat → EV) → Prop} {fr : Nat → EV} {o : Oper} {rest : List Oper} (hg : wantedE ops fr o = some false) (h : aPan pv P G ops mem Q rest (setO fr o.dst undefE)) :
    aPan pv P G ops mem Q (o :: rest) fr := .inr ⟨hg, h⟩

theorem ap_y0 {Q : (Nat → EV) → Prop} {fr : Nat → EV} {o : Oper} {rest : List Oper} {x : EV} (hg : o.guard = none) (ho : OpP pv P G fr mem o x) (h : aPan pv P G ops mem Q rest (setO fr o.dst x)) :
    aPan pv P G ops mem Q (o :: rest) fr := .inl ⟨by simp [wantedE, hg], x, ho, h⟩
theorem ap_maybe0 {Q : (Nat → EV) → Prop} {fr : Nat → EV} {o : Oper} {rest : List Oper} {x : EV} {c : Bool} (hg : wantedE ops fr o = some c) (ho : c = true → OpP pv P G fr mem o x)
    (h : aPan pv P G ops mem Q rest (setO fr o.dst (if c = true then x else .pub (.tup [])))) : aPan pv P G ops mem Q (o :: rest) fr := by
  cases c with
  | true => simp only [if_true] at h; exact ap_op hg (ho rfl) h
  | false => simp only [Bool.false_eq_true, if_false] at h; exact ap_no hg h

def qOpZ (pv : AV) (P : Program) (G : Glob) (ops : Array Oper) (mem : List PO) (i : Nat) (K : (Nat → EV) → Prop) (fr : Nat → EV) : Prop :=
  match ops[i]? with
  | none => K fr
  | some o => (wantedE ops fr o = some true ∧ ∃ x, OpP pv P G fr mem o x ∧ K (setO fr o.dst x)) ∨ (wantedE ops fr o = some false ∧ K (setO fr o.dst undefE))

theorem qOpZ_mono {i : Nat} {fr : Nat → EV} {K K' : (Nat → EV) → Prop} (h : ∀ f, K f → K' f) (hh : qOpZ pv P G ops mem i K fr) : qOpZ pv P G ops mem i K' fr := by
  unfold qOpZ at *
  split
  · rename_i ho; simp only [ho] at hh; exact h _ hh
  · rename_i o ho
    simp only [ho] at hh
    rcases hh with ⟨h1, x, h2, h3⟩ | ⟨h1, h2⟩
    · exact .inl ⟨h1, x, h2, h _ h3⟩
    · exact .inr ⟨h1, h _ h2⟩

def wpAnyZ (pv : AV) (P : Program) (G : Glob) (md : Region.Mode) (ops : Array Oper) (mem : List PO) (Q : (Nat → EV) → Prop) : Nat → Array Bool → (Nat → EV) → Prop
  | 0, listed, fr => Region.ready md ops listed = [] ∧ Q fr
  | fuel + 1, listed, fr =>
    (Region.ready md ops listed = [] → Q fr) ∧
    ∀ i ∈ Region.ready md ops listed, qOpZ pv P G ops mem i (wpAnyZ pv P G md ops mem Q fuel (listed.setIfInBounds i true)) fr

def YieldsZ (pv : AV) (P : Program) (G : Glob) (ops : Array Oper) (mem : List PO) (o : Oper) (x : EV) (fr : Nat → EV) : Prop :=
  (wantedE ops fr o = some true ∧ OpP pv P G fr mem o x) ∨ (wantedE ops fr o = some false ∧ x = undefE)

theorem YieldsZ.qOpZ {i : Nat} {o : Oper} {x : EV} {fr : Nat → EV} (hi : ops[i]? = some o) (hy : YieldsZ pv P G ops mem o x fr) {K : (Nat → EV) → Prop} (h : K (setO fr o.dst x)) : qOpZ pv P G ops mem i K fr := by
  unfold Av.qOpZ
  simp only [hi]
  rcases hy with ⟨hw, hv⟩ | ⟨hw, rfl⟩
  · exact .inl ⟨hw, x, hv, h⟩
  · exact .inr ⟨hw, h⟩

theorem yieldsZ_of {i : Nat} {o : Oper} {fr : Nat → EV} {K : (Nat → EV) → Prop} (hi : ops[i]? = some o) (h : qOpZ pv P G ops mem i K fr) : ∃ x, YieldsZ pv P G ops mem o x fr ∧ K (setO fr o.dst x) := by
  unfold qOpZ at h
  simp only [hi] at h
  rcases h with ⟨h1, x, h2, h3⟩ | ⟨h1, h2⟩
  · exact ⟨x, .inl ⟨h1, h2⟩, h3⟩
  · exact ⟨undefE, .inr ⟨h1, rfl⟩, h2⟩

theorem qOpZ_put {j : Nat} {oi oj : Oper} {v : EV} (hj : ops[j]? = some oj) (hap : oi.apart ops oj = true) {K : (Nat → EV) → Prop} {fr : Nat → EV}
    (hy : YieldsZ pv P G ops mem oi v fr) (h : qOpZ pv P G ops mem j K (setO fr oi.dst v)) :
    qOpZ pv P G ops mem j (fun f => YieldsZ pv P G ops mem oi v f ∧ K (setO f oi.dst v)) fr := by
  obtain ⟨h1, h2, h3⟩ := Oper.apart_spec hap
  have keep : ∀ u, YieldsZ pv P G ops mem oi v (setO fr oj.dst u) := fun u => by
    rcases hy with ⟨hw, hv⟩ | ⟨hw, e⟩
    · exact .inl ⟨by rw [wantedE_set h3]; exact hw, hv.of_same (evO_set h3)⟩
    · exact .inr ⟨by rw [wantedE_set h3]; exact hw, e⟩
  unfold qOpZ at *
  simp only [hj] at *
  rw [wantedE_set h1] at h
  rcases h with ⟨hw, u, hu, hn⟩ | ⟨hw, hn⟩
  · refine .inl ⟨hw, u, hu.of_same (fun y hy => (evO_set h1 y hy).symm), keep u, ?_⟩
    rw [← setO_comm fr v u h2]; exact hn
  · refine .inr ⟨hw, keep _, ?_⟩
    rw [← setO_comm fr v undefE h2]; exact hn

theorem wpAnyZ_first {Q : (Nat → EV) → Prop} {i : Nat} {oi : Oper} {v : EV} (hi : ops[i]? = some oi) :
    ∀ (fuel : Nat) (listed : Array Bool) (fr : Nat → EV),
      (∀ (j : Nat) (oj : Oper), ops[j]? = some oj → j ≠ i → listed.getD j true = false → (∀ e ∈ oj.after, Region.binds md e = true → e.on ≠ i) → oi.apart ops oj = true) →
      i ∈ Region.ready md ops listed → YieldsZ pv P G ops mem oi v fr →
      wpAnyZ pv P G md ops mem Q fuel (listed.setIfInBounds i true) (setO fr oi.dst v) → wpAnyZ pv P G md ops mem Q (fuel + 1) listed fr := by
  intro fuel
  induction fuel with
  | zero =>
    intro listed fr _ hr hy H
    refine ⟨fun h => (by rw [h] at hr; cases hr), fun j hj => ?_⟩
    by_cases hji : j = i
    · subst hji; exact hy.qOpZ hi H
    · have := ready_mono hj hji
      rw [H.1] at this
      cases this
  | succ fuel ih =>
    intro listed fr hfree hr hy H
    refine ⟨fun h => (by rw [h] at hr; cases hr), fun j hj => ?_⟩
    by_cases hji : j = i
    · subst hji; exact hy.qOpZ hi H
    · have h1 := H.2 j (ready_mono hj hji)
      obtain ⟨hjun, oj, hoj, hall⟩ := mem_ready.1 hj
      have hnot : ∀ e ∈ oj.after, Region.binds md e = true → e.on ≠ i := fun e he hb heq => by
        have h1 := hall e he hb
        have h0 := (mem_ready.1 hr).1
        rw [heq] at h1
        rcases Nat.lt_or_ge i listed.size with h' | h'
        · simp [h'] at h0 h1; rw [h0] at h1; cases h1
        · simp [Array.getElem?_eq_none h'] at h1
      have h2 := qOpZ_put hoj (hfree j oj hoj hji hjun hnot) hy h1
      have hfree' : ∀ (k : Nat) (ok : Oper), ops[k]? = some ok → k ≠ i → (listed.setIfInBounds j true).getD k true = false →
          (∀ e ∈ ok.after, Region.binds md e = true → e.on ≠ i) → oi.apart ops ok = true := fun k ok hk hki hun hno => by
        refine hfree k ok hk hki ?_ hno
        by_cases hjk : j = k
        · subst hjk; exact hjun
        · rw [getD_set_ne true hjk] at hun; exact hun
      refine qOpZ_mono (fun f h3 => ih (listed.setIfInBounds j true) f hfree' (ready_mono hr (Ne.symm hji)) h3.1 ?_) h2
      rw [Array.setIfInBounds_comm _ _ hji]
      exact h3.2

theorem wpAnyZ_lex {Q : (Nat → EV) → Prop} : ∀ (l : List Oper) (k : Nat) (listed : Array Bool) (fr : Nat → EV), (∀ (j : Nat), l[j]? = ops[k + j]?) →
    Region.lexFrom md ops l.length k listed = true → aPan pv P G ops mem Q l fr → wpAnyZ pv P G md ops mem Q l.length listed fr
  | [], _, _, _, _, hB, h => ⟨by simpa [Region.lexFrom] using hB, h⟩
  | o :: l, k, listed, fr, hl, hB, h => by
    have h0 : ops[k]? = some o := by simpa using (hl 0).symm
    simp only [List.length_cons, Region.lexFrom, Bool.and_eq_true] at hB
    obtain ⟨⟨hr, hf⟩, hB'⟩ := hB
    have hst : qOpZ pv P G ops mem k (aPan pv P G ops mem Q l) fr := by unfold qOpZ; simp only [h0]; exact h
    obtain ⟨v, hy, hK⟩ := yieldsZ_of h0 hst
    exact wpAnyZ_first h0 l.length listed fr (Region.free_spec h0 hf) (by simpa using hr) hy
      (wpAnyZ_lex l (k + 1) _ _ (fun j => by have := hl (j + 1); simpa [Nat.add_assoc, Nat.add_comm 1 j] using this) hB' hK)

theorem wpAny_of_Z {r : Option Nat} {w0 : World} {ok0 : Nat → Prop} {n : NS} {Q : (Nat → EV) → Prop} {Q' : Exit → Act → World → Prop} (hG : G.holds w0) (hok : ∀ b, ok0 b → b < w0.heap.size) (hn : dstsIn ops n = true)
    (hQ : ∀ fr a w, Sit w0 ok0 ⟨n, fr, mem⟩ a w → Q fr → Q' .normal a w) (hP : ∀ fr a w u, Sit w0 ok0 ⟨n.pan pv u, fr, mem⟩ a w → Q' (.panic (pnc u)) a w) : ∀ (fuel : Nat) (listed : Array Bool) (fr : Nat → EV) (a : Act) (w : World), Sit w0 ok0 ⟨n, fr, mem⟩ a w →
    wpAnyZ pv P G md ops mem Q fuel listed fr → wpAnyIn (FW r) 0 P md ops Q' fuel listed a w
  | 0, _, _, _, _, hs, h => ⟨h.1, hQ _ _ _ hs h.2⟩
  | fuel + 1, _, fr, a, w, hs, h => ⟨fun h0 => hQ _ _ _ hs (h.1 h0), fun i hi => by
      have h1 := h.2 i hi
      unfold qOpZ at h1
      unfold wpOpIn
      split
      · rename_i ho; simp only [ho] at h1; exact wpAny_of_Z hG hok hn hQ hP fuel _ _ _ _ hs h1
      · rename_i o ho
        simp only [ho] at h1
        have hd : DOK o.dst n := dstsIn_dok hn i o ho
        obtain ⟨_, _, _, _, _, h6⟩ := hs.ex
        have hsz := hs.size
        have hwant : ∀ b, wantedE ops fr o = some b → Region.wanted o (yielded ops a.tmps) = b := fun b hb =>
          wanted_of h6.1 (fun j o t h1 h2 => by rw [hsz]; exact dstsIn_spec hn j o t h1 h2) hb
        rcases h1 with ⟨hw, x, hx, hK⟩ | ⟨hw, hK⟩
        · rw [if_pos (hwant true hw)]
          exact fw_op (dstsIn_nod hn i o ho) (hx.toM (st := ⟨n, fr, mem⟩) hd w0 ok0 a w hG hok hs _ _ (fun a' w' hs' => wpAny_of_Z hG hok hn hQ hP fuel _ _ a' w' hs' hK) fun a' w' u hs' => hP _ _ _ _ hs')
        · rw [if_neg (by rw [hwant false hw]; simp)]
          obtain ⟨h0, h1, h2, ok, bs, h3, h4, h5, h6⟩ := hs
          exact ⟨fun _ _ => trivial, wpAny_of_Z hG hok hn hQ hP fuel _ _ _ _ (Sit.put h0 h1 h2 h3 h4 h5 h6 (Below.refl _ _) (by simp [undefE, FitsE, Fits, FitsL, undef]) hd) hK⟩⟩

/-- A region that draws its order, in which a call may panic. -/
theorem ac_drawP {r : Option Nat} {id : Nat} {l : List Oper} {st : ASt} {Q : Exit → ASt → Prop} (pv : AV) (hm : P.follows .mixedOrders = true) (hB : Region.lexB .any l.toArray = true) (hn : dstsIn l.toArray st.n = true)
    (hP : ∀ fr u, Q (.panic (pnc u)) ⟨st.n.pan pv u, fr, st.mem⟩)
    (h : aPan pv P G l.toArray st.mem (fun fr => Q .normal ⟨st.n, fr, st.mem⟩ ∨ ∃ d, fr d = .psl st.mem.length 0) l st.fr) : ACode (r := r) P G (.region id l.toArray true) st Q := by
  intro w0 ok0 a w hG hok hs
  simp only [Region.lexB, Bool.and_eq_true] at hB
  refine wpIn_region_any hm ?_
  have hs' : Sit w0 ok0 st a { w with drawn := w.drawn + 1 } := by
    obtain ⟨h0, h1, h2, ok, bs, h3, h4, h5, h6⟩ := hs
    have hb : Below w.heap.size w w.drew := (Below.refl _ _).drew
    refine ⟨h0, h1.keep (.of_below hb), below_to h2 h2.size hb, okN ok w w.drew, bs, fun b hb => .inl (h3 b hb), fun b hb => ?_, h5.grow hb, h6.map fun _ _ h => h.grow h5.lt hb⟩
    rcases hb with hb | hb
    · exact h4 b hb
    · exact .inr (Nat.le_trans h2.size hb.1)
  refine wpAny_of_Z (G := G) (mem := st.mem) (n := st.n) (pv := pv) (Q := fun fr => Q .normal ⟨st.n, fr, st.mem⟩ ∨ ∃ d, fr d = .psl st.mem.length 0) hG hok hn (fun fr a w hs hq => hq.elim (fun hq => ⟨_, hs, hq⟩) fun ⟨d, hd⟩ => by
      obtain ⟨_, _, _, ok, bs, _, _, h5, h6⟩ := hs
      have := h6.1 d
      simp only [hd, FitsE] at this
      obtain ⟨b, hb, _⟩ := this
      have := (List.getElem?_eq_some_iff.1 hb).1
      rw [h5.len] at this
      exact absurd this (Nat.lt_irrefl _)) (fun fr a w u hs => ⟨_, hs, hP fr u⟩) _ _ st.fr a _ hs' ?_
  have := wpAnyZ_lex (md := .any) l 0 (Array.replicate l.toArray.size false) st.fr (by simp) (by simpa using hB.2) h
  simpa using this

theorem ap_y {Q : (Nat → EV) → Prop} {fr : Nat → EV} {o : Oper} {rest : List Oper} {x : EV} (hg : o.guard = none) (ho : OpY P G fr mem o x) (h : aPan pv P G ops mem Q rest (setO fr o.dst x)) :
    aPan pv P G ops mem Q (o :: rest) fr := ap_y0 hg ho.p h
theorem ap_maybe {Q : (Nat → EV) → Prop} {fr : Nat → EV} {o : Oper} {rest : List Oper} {x : EV} {c : Bool} (hg : wantedE ops fr o = some c) (ho : c = true → OpY P G fr mem o x)
    (h : aPan pv P G ops mem Q rest (setO fr o.dst (if c = true then x else .pub (.tup [])))) : aPan pv P G ops mem Q (o :: rest) fr := ap_maybe0 hg (fun e => (ho e).p) h
/-- The call that panics is the last operation: nothing is left to show. -/
theorem ap_end {Q : (Nat → EV) → Prop} {fr : Nat → EV} {o : Oper} {d : Tmp} {args : Array Operand} {tys : Array TypeId} {f : FuncId} {av : List AV} (hg : o.guard = none) (hd : o.dst = some d) (ho : o.op = .call { callee := .value (.func f), args := args, argTypes := tys })
    (ha : ArgsE fr args.toList av) (hc : XCall P G f av (.pan pv)) : aPan pv P G ops mem (fun fr => Q fr ∨ ∃ d, fr d = .psl mem.length 0) [o] fr :=
  ap_y0 hg (p_call ho (.psl mem.length 0) ha hc) (ap_nil (.inr ⟨d, by rw [hd]; simp [setO_at]⟩))
end
end Go.Av
end
