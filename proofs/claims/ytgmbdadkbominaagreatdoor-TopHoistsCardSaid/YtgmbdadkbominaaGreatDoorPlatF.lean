import Derived.Test.YtgmbdadkbominaaGreatDoorPlatE
import Derived.Recover
import Derived.Laws.BytesArg
import GoSem.Core.Utf8
set_option linter.unusedVariables false
set_option linter.unusedSimpArgs false
section
namespace Go.Av
open Go.RowKit
inductive Out where
 | ret (r:AV)
 | pan (v:AV)
@[reducible] def pnc (u:Value):List PanicEntry:=[{ v:=u, recovered:=false }]
def XCall (P:Program) (G:Glob) (f:FuncId) (args:List AV) (o:Out):Prop:=
 Enters P f /\ ∀ (ok:Nat -> Prop) (w:World) (vs:List Value), G.holds w -> (∀ b, ok b -> b < w.heap.size) -> FitsL ok w args vs ->
  Calls P f vs.toArray w (fun e w'=>Below w.heap.size w w' /\ ∃ u, match o with
   | .ret r=>e = .returned u /\ Fits (okN ok w w') w' r u
   | .pan v=>e = .panicked (pnc u) /\ Fits (okN ok w w') w' v u)
theorem ACall.x {P:Program} {G:Glob} {f:FuncId} {args:List AV} {r:AV} (h:ACall P G f args r):XCall P G f args (.ret r):=
 ⟨h.1, fun ok w vs hG hok hf=>(h.2 ok w vs hG hok hf).mono fun _ _ ⟨u, e, hb, hu⟩=>⟨hb, u, e, hu⟩⟩
theorem XCall.a {P:Program} {G:Glob} {f:FuncId} {args:List AV} {r:AV} (h:XCall P G f args (.ret r)):ACall P G f args r:=
 ⟨h.1, fun ok w vs hG hok hf=>(h.2 ok w vs hG hok hf).mono fun _ _ ⟨hb, u, e, hu⟩=>⟨u, e, hb, hu⟩⟩
section
variable {r:Option Nat} {P:Program} {G:Glob} {st:ASt} {ops:Array Oper} {l:List Oper} {Q:Exit -> ASt -> Prop} {o:Oper}
@[reducible] def NS.pan (n:NS) (v:AV) (u:Value):NS:=⟨n.n, n.dfs, (.pub v, u) :: n.gh, n.mks, n.hold⟩
theorem Sit.pan {w0:World} {ok0:Nat -> Prop} {a:Act} {w w':World} {v:AV} {u:Value} {ok:Nat -> Prop} {bs:List PB} {n:NS} {fr:Nat -> EV} {mem:List PO}
  (h0:a.tmps.size = n.n) (h1:Nod w0 w a n) (h2:Below w0.heap.size w0 w) (h3:∀ b, ok0 b -> ok b) (h4:∀ b, ok b -> ok0 b ∨ w0.heap.size <= b) (h5:MemOK w0.heap.size ok w bs mem) (h6:Slots ok w bs mem n fr a)
  (hw:Below w.heap.size w w') (hv:Fits (okN ok w w') w' v u):Sit w0 ok0 ⟨n.pan v u, fr, mem⟩ a w':=by
 have hm:=h6.map (fun (e:EV) (u:Value) h=>FitsE.grow (x:=e) (u:=u) h h5.lt hw)
 refine ⟨h0, h1.keep (.of_below hw), wI h2 h2.size hw, okN ok w w', bs, fun b hb=>.inl (h3 b hb), fun b hb=>?_, h5.grow hw, hm.1, fun p hp=>?_⟩
 ·rcases hb with hb | hb
  ·exact h4 b hb
  ·exact .inr (Nat.le_trans h2.size hb.1)
 ·rcases List.mem_cons.1 hp with rfl | hp
  ·simpa only [FitsE] using hv
  ·exact hm.2 p hp
theorem zqW {args:Array Operand} {tys:Array TypeId} {f:FuncId} {av:List AV} {v:AV} (hg:yu o = true) (ho:o.op = .call { callee:=.value (.func f), args:=args, argTypes:=tys })
  (ha:zjt st.fr args.toList av) (hc:XCall P G f av (.pan v)) (h:∀ u, Q (.panic (pnc u)) ⟨st.n.pan v u, st.fr, st.mem⟩):jP (r:=r) P G ops (o :: l) st Q:=by
 intro w0 ok0 a w hG hok ⟨h0, h1, h2, ok, bs, h3, h4, h5, h6⟩
 have key:∀ (l:List Operand) (xs:List AV), l.map (evO st.fr) = xs.map .pub -> FitsL ok w xs (l.map a.eval):=by
  intro l
  induction l with
  | nil=>intro xs h; cases xs with
   | nil=>simp [FitsL]
   | cons=>simp at h
  | cons y l ih=>intro xs h; cases xs with
   | nil=>simp at h
   | cons x xs=>
    simp only[List.map_cons, List.cons.injEq] at h
    simp only[List.map_cons, FitsL]
    have:=qO (fr:=st.fr) (a:=a) (x:=y) fun t _=>h6.1 t
    rw [h.1] at this
    exact ⟨_, _, rfl, by simpa only [FitsE] using this, ih xs h.2⟩
 refine wpListIn_plain (kH hg) fun K hK=>yg (kF hg) ?_
 unfold Oper.wp
 rw [call_exec (us:=[]) (vs:=[]) ho hc.1 (by rfl)]
 simp only[Oper.upon]
 have hv:=key _ _ (zcg ha)
 have hcall:=(hc.2 ok w (args.toList.map a.eval) (G.stable _ _ hG h2) h5.lt hv)
 simp only[List.nil_append, List.append_nil]
 refine Calls.mono hcall fun en w' ⟨hb, u, he, hu⟩=>?_
 subst he
 exact ⟨_, Sit.pan h0 h1 h2 h3 h4 h5 h6 hb hu, h u⟩
theorem zox {x:Operand} {T:TypeId} {v:AV} (hg:yu o = true) (ho:o.op = .panic x) (hx:evO st.fr x = .pub (.ifc T v)) (h:∀ u, Q (.panic (pnc u)) ⟨st.n.pan (.ifc T v) u, st.fr, st.mem⟩):jP (r:=r) P G ops (o :: l) st Q:=by
 intro w0 ok0 a w hG hok ⟨h0, h1, h2, ok, bs, h3, h4, h5, h6⟩
 have hv:=qO (fr:=st.fr) (a:=a) (x:=x) fun t _=>h6.1 t
 rw [hx] at hv
 simp only[FitsE] at hv
 have hv2:=hv
 simp only[Fits] at hv2
 obtain ⟨u, e, hu⟩:=hv2
 refine wpListIn_plain (kH hg) fun K hK=>yg (kF hg) ?_
 unfold Oper.wp
 have hex:(execOp a.eval o).run P w = .halt (.panic (.iface T u)) w:=by
  simp [execOp, ho, e, Instr.panic, goPanic]
 rw [hex, Oper.upon_panic]
 rw [e] at hv
 exact ⟨_, Sit.pan h0 h1 h2 h3 h4 h5 h6 (Below.refl _ _) (hv.mono (fun _ h=>.inl h) (fun _ _=>rfl)), h _⟩
theorem zo2 {K:ASt -> Prop} {c:List PanicEntry} (h:Q (.panic c) st):zdt K Q (.panic c) st:=h
theorem zcI {mk:Bool} {F:Fence} {n:Nat} {fn:Func} {w0:World} {tm:Array Value} {R:Ending -> World -> Prop} {ch:List PanicEntry}:∀ {ds:List Deferred} {B:Nat} {w:World}, Dfs mk w0 w tm ds B [] ->
  (∀ w2, MK w0 w w2 -> R (.panicked ch) w2) -> LeavesInM F n P fn tm R ds (.panicking ch) w
 | [], B, w, _, h=>h w (MK.refl w0 w)
 | d :: ds, B, w, hd, h=>by
  simp only[Dfs] at hd
  rcases hd with ⟨_, D, rfl, h1, h2, h3, h4⟩ | ⟨t, l', e, _⟩
  ·refine ⟨by simp, .inl ⟨D, _, rfl, run_takeDeferred h3, zcI (B:=D) (h4.low (Nat.le_refl _)) fun w2 hw2=>h w2 (hw2.step h1 h3)⟩⟩
  ·cases e
theorem vP {fr:Nat -> EV} {mem:List PO} {f:FuncId} {first caps:Array Operand} (ho:o.op = .makeFunc (.func f) first caps):OpY P G fr mem o (.fnm f (first.toList.map (evO fr)) (caps.toList.map (evO fr))):=
 jb fun ok bs w a _ _ hfit=>by
  have key:∀ (l:List Operand), (∀ y ∈ l, y ∈ o.op.operands) -> FitsEL ok w bs mem (l.map (evO fr)) (l.map a.eval):=by
   intro l
   induction l with
   | nil=>intro _; simp [FitsEL]
   | cons y l ih=>
    intro hm
    simp only[List.map_cons, FitsEL]
    exact ⟨_, _, rfl, hfit y (hm y (by simp)), ih (fun z hz=>hm z (by simp [hz]))⟩
  refine ⟨.func (.func f) (first.map a.eval) (caps.map a.eval), by simp [execOp, ho, Instr.makeFunc], ?_⟩
  simp only[FitsE]
  refine ⟨first.toList.map a.eval, caps.toList.map a.eval, by congr 1 <;> exact Array.toList_inj.1 (by simp), key _ (fun y hy=>?_), key _ (fun y hy=>?_)⟩
  ·simp only[ho, Op.operands, Array.mem_append]; exact .inl (by simpa using hy)
  ·simp only[ho, Op.operands, Array.mem_append]; exact .inr (by simpa using hy)
theorem zfg {t:Tmp} {f:FuncId} {fs cs:List EV} (hg:o.guard = none) (ho:o.op = .defer { callee:=.value (.tmp t), args:=#[], argTypes:=#[] }) (hd:o.dst = none) (he:st.fr t = .fnm f fs cs)
  (h:jP (r:=none) P G ops l ⟨⟨st.n.n, t :: st.n.dfs, st.n.gh, st.n.mks, st.n.hold⟩, st.fr, st.mem⟩ Q):jP (r:=none) P G ops (o :: l) st Q:=by
 intro w0 ok0 a w hG hok ⟨h0, h1, h2, ok, bs, h3, h4, h5, h6⟩
 have hf:=h6.1 t
 rw [he] at hf
 simp only[FitsE] at hf
 obtain ⟨us, vs, e, _, _⟩:=hf
 refine wpListIn_plain hg fun K hK=>?_
 refine ⟨fun _ _=>trivial, ?_⟩
 have hsem:o.semAt (FW none).round a.eval = execOp a.eval o:=rfl
 rw [hsem]
 have hex:(execOp a.eval o).run P w = .ok (.defer { target:=.fn (.func f) vs.toArray, args:=us.toArray }) w:=by
  have ev:a.eval (.tmp t) = .func (.func f) us.toArray vs.toArray:=e
  simp [execOp, ho, resolve, ev, Deferred.ofValue]
 rw [hex, Oper.uponIn_defer]
 refine hK _ _ (h w0 ok0 _ w hG hok ?_)
 have hp:({ a with defers:={ target:=.fn (.func f) vs.toArray, args:=us.toArray } :: a.defers }.put o.dst undef) = { a with defers:={ target:=.fn (.func f) vs.toArray, args:=us.toArray } :: a.defers }:=by rw [hd]; rfl
 rw [hp]
 refine ⟨h0, ⟨?_, h1.2⟩, h2, ok, bs, h3, h4, h5, h6⟩
 simp only[Dfs]
 exact .inr ⟨t, st.n.dfs, rfl, ⟨f, us.toArray, vs.toArray, rfl, e⟩, h1.1⟩
end
end Go.Av
end
section
namespace Go.Av
open Go.RowKit
def zkG:Option AV -> Value -> FrameMode
 | none, _=>.returning
 | some _, u=>.panicking (pnc u)
def zdA:Option AV -> Value -> FrameMode
 | none, _=>.returning
 | some _, u=>.panicking [{ v:=u, recovered:=true }]
def zl4:Option AV -> EV
 | none=>.pub (.v .nilIface)
 | some v=>.pub v
def frE (caps:List EV):Nat -> EV:=fun t=>match caps[t]? with
 | some x=>x
 | none=>.pub .top
def zms (P:Program) (G:Glob) (f:FuncId) (caps:List EV) (mode:Option AV) (mem mem':List PO):Prop:=
 Enters P f /\ ∀ (w0:World) (ok0 ok:Nat -> Prop) (bs:List PB) (w:World) (vs:List Value) (gh:List (EV × Value)) (u:Value), G.holds w0 -> (∀ b, ok0 b -> b < w0.heap.size) -> Below w0.heap.size w0 w -> (∀ b, ok0 b -> ok b) -> (∀ b, ok b -> ok0 b ∨ w0.heap.size <= b) ->
  MemOK w0.heap.size ok w bs mem -> FitsEL ok w bs mem caps vs -> (∀ p ∈ gh, FitsE ok w bs mem p.1 p.2) -> (∀ v, mode = some v -> Fits ok w v u) ->
  CallsD P f vs.toArray (zkG mode u) w (fun e u' w'=>(∃ x, e = .returned x) /\ u' = zdA mode u /\ ∃ ok' bs', Below w0.heap.size w0 w' /\ (∀ b, ok0 b -> ok' b) /\ (∀ b, ok' b -> ok0 b ∨ w0.heap.size <= b) /\
   MemOK w0.heap.size ok' w' bs' mem' /\ ∀ p ∈ gh, FitsE ok' w' bs' mem' p.1 p.2)
section
variable {P:Program} {G:Glob}
theorem zix {o:Oper} (ho:o.op = .call { callee:=.builtin .recover, args:=#[], argTypes:=#[] }) (a:Act) (w:World):(execOp a.eval o).run P w = .ok .recover w:=by
 simp [execOp, ho, resolve, invoke, builtin]
theorem zlu {f:FuncId} {fn:Func} {id:Nat} {o:Oper} {rest:Code} {d:Tmp} {caps:List EV} {mode:Option AV} {mem mem':List PO} (hf:P.funcs[f]? = some fn) (hb:fn.body = some (.seq (.region id #[o] false) rest)) (hnm:(fn.name == "runtime.NumGoroutine") = false)
  (ho:o.op = .call { callee:=.builtin .recover, args:=#[], argTypes:=#[] }) (hg:o.guard = none) (hd:o.dst = some d) (hres:fn.results = #[]) (hlen':Nat.ble caps.length fn.ntmps = true) (hdl:Nat.blt d fn.ntmps = true)
  (h:∀ gh, jl (r:=none) P G rest ⟨⟨fn.ntmps, [], gh, false, []⟩, qX (frE caps) (some d) (zl4 mode), mem⟩ (fun e st=>(e = .normal ∨ e = .ret) /\ st.n = ⟨fn.ntmps, [], gh, false, []⟩ /\ st.mem = mem')):zms P G f caps mode mem mem':=by
 have hlen:=zLb hlen'
 have hdl:d < fn.ntmps:=by simpa [Nat.blt_eq] using hdl
 refine ⟨⟨fn, hf, hnm, by simp [hb]⟩, fun w0 ok0 ok bs w vs gh u hG hok hw h3 h4 h5 hcaps hgh hv=>callsD_of_wpS hf hb fun c₀ cs hmode=>?_⟩
 have hl:=hcaps.length
 let a0:Act:={ tmps:=vs.toArray ++ Array.replicate (fn.ntmps - vs.toArray.size) undef, defers:=[] }
 have hsz:a0.tmps.size = fn.ntmps:=by simp [a0, hl]; omega
 -- behind the recover
 have key:∀ (x:Value) (cs':List Frame) (u':FrameMode), cs' = { c₀ with mode:=u' } :: cs -> u' = zdA mode u -> FitsE ok w bs mem (zl4 mode) x ->
   rest.wpS P (bodyPostS P fn c₀ cs (fun e u' w'=>(∃ x, e = .returned x) /\ u' = zdA mode u /\ ∃ ok' bs', Below w0.heap.size w0 w' /\ (∀ b, ok0 b -> ok' b) /\ (∀ b, ok' b -> ok0 b ∨ w0.heap.size <= b) /\
    MemOK w0.heap.size ok' w' bs' mem' /\ ∀ p ∈ gh, FitsE ok' w' bs' mem' p.1 p.2)) (a0.put (some d) x) cs' w:=fun x cs' u' hcs hu hx=>by
  refine wpS_of_wp (wpIn_wide (n:=0).1 (wpIn_mono (h gh w0 ok0 _ w hG hok ?_) fun e a' w' ⟨st, hs, he, hn, hm⟩=>?_))
  ·refine ⟨(size_put ..).trans hsz, ⟨by rw [defers_put]; rfl, fun p hp=>by cases hp⟩, hw, ok, bs, h3, h4, h5, ?_⟩
   refine wo (n:=⟨fn.ntmps, [], gh, false, []⟩) (a:=a0) (dst:=some d) (u:=x) ⟨fun t=>?_, hgh⟩ hx (fun d' e=>by injection e with e; subst e; rw [hsz]; exact hdl)
   show FitsE ok w bs mem (match caps[t]? with | some x=>x | none=>.pub .top) _
   by_cases ht:t < caps.length
   ·rw [List.getElem?_eq_getElem ht]
    obtain ⟨u, h1, h2⟩:=hcaps.get (List.getElem?_eq_getElem ht)
    have h3:t < vs.length:=(zLg h1).1
    have h4:vs[t] = u:=(zLg h1).2
    simp only[a0, Array.getD_eq_getD_getElem?]
    rw [Array.getElem?_append_left (by simpa using h3)]
    simp [h3, h4, h2]
   ·rw [List.getElem?_eq_none (by omega)]
    simp [FitsE, Fits]
  ·obtain ⟨t0, t1, t2, ok', bs', t3, t4, t5, t6⟩:=hs
   rw [hn] at t1 t6
   rw [hm] at t5 t6
   have hdef:a'.defers = []:=by
    have:=t1.1
    cases hds:a'.defers with
    | nil=>rfl
    | cons d ds=>
     rw [hds] at this
     simp only[Dfs] at this
     rcases this with ⟨h, _⟩ | ⟨t, l', e, _⟩
     ·cases h
     ·cases e
   have hpost:a'.defers = [] /\ ∃ u', cs' = { c₀ with mode:=u' } :: cs /\ ∃ v, (results fn a'.tmps).run P w' = .ok v w' /\ (∃ x, Ending.returned v = .returned x) /\ u' = zdA mode u /\ ∃ ok' bs', Below w0.heap.size w0 w' /\ (∀ b, ok0 b -> ok' b) /\ (∀ b, ok' b -> ok0 b ∨ w0.heap.size <= b) /\
     MemOK w0.heap.size ok' w' bs' mem' /\ ∀ p ∈ gh, FitsE ok' w' bs' mem' p.1 p.2:=⟨hdef, u', hcs, _, results_none hres _ _ _, ⟨_, rfl⟩, hu, ok', bs', t2, t3, t4, t5, t6.2⟩
   rcases he with rfl | rfl
   ·exact hpost
   ·exact hpost
 refine wpS_seq (wpS_region ?_)
 show wpOpsS P #[o] _ [0] a0 (c₀ :: cs) w
 unfold wpOpsS
 simp only[List.getElem?_toArray, List.getElem?_cons_zero, Region.wanted, hg, if_true]
 rw [zix ho]
 simp only
 cases mode with
 | none=>
  have hrec:recoverD (c₀ :: cs) = none:=by
   simp only[recoverD]
   rw [show c₀.mode = .returning from hmode]
  rw [hrec]
  simp only[wpOpsS, Exit.thenS, hd]
  have hnil:FitsE ok w bs mem (zl4 none) .nilIface:=⟨rfl, rfl⟩
  exact key .nilIface (c₀ :: cs) c₀.mode rfl hmode hnil
 | some v=>
  have hrec:recoverD (c₀ :: cs) = some (u, { c₀ with mode:=.panicking [{ v:=u, recovered:=true }] } :: cs):=by
   simp only[recoverD]
   rw [show c₀.mode = .panicking (pnc u) from hmode]
  rw [hrec]
  simp only[wpOpsS, Exit.thenS, hd]
  exact key u _ _ rfl rfl (by simpa only [zl4, FitsE] using hv v rfl)
def zeo (n:Nat) (fr:Nat -> EV):Nat -> EV:=fun t=>bif Nat.blt t n then fr t else .pub .top
def zuf (P:Program) (G:Glob) (fn:Func) (r:AV) (e:Exit) (st:ASt):Prop:=
 (st.n = fn.ntmps /\ (e = .normal ∨ e = .ret) /\ RetE P fn st r) ∨
 ∃ t g caps mem' gh, st.n = ⟨fn.ntmps, [t], gh, false, []⟩ /\ st.fr t = .fnm g [] caps /\ RetE P fn ⟨fn.ntmps, zeo fn.ntmps st.fr, mem'⟩ r /\
  (((e = .normal ∨ e = .ret) /\ zms P G g caps none st.mem mem') ∨ ∃ u v, e = .panic (pnc u) /\ (EV.pub v, u) ∈ gh /\ zms P G g caps (some v) st.mem mem')
theorem zdW {f:FuncId} {fn:Func} {c:Code} {args:List AV} {r:AV} (hf:P.funcs[f]? = some fn) (hb:fn.body = some c) (hnm:(fn.name == "runtime.NumGoroutine") = false) (hlen':Nat.ble args.length fn.ntmps = true)
  (h:jl (r:=none) P G c ⟨fn.ntmps, zmR args, []⟩ (zuf P G fn r)):ACall P G f args r:=by
 have hlen:args.length <= fn.ntmps:=zLb hlen'
 refine ⟨⟨fn, hf, hnm, by simp [hb]⟩, fun ok w vs hG hok hfit=>calls_of_wp_defers hf hb (wpIn_wide (n:=0).1 (wpIn_mono (h w ok _ w hG hok (zhn hlen hok hfit)) fun e a' w' ⟨st, hs, hq⟩=>?_))⟩
 obtain ⟨h0, h1, h2, ok', bs, h3, h4, h5, h6⟩:=hs
 rcases hq with ⟨hn, he, hr⟩ | ⟨t, g, caps, mem', gh, hn, hfr, hr, hd⟩
 ·have hdef:a'.defers = []:=by
   have:=h1.1
   rw [hn] at this
   cases hds:a'.defers with
   | nil=>rfl
   | cons d ds=>
    rw [hds] at this
    simp only[Dfs] at this
    rcases this with ⟨h, _⟩ | ⟨t, l', e, _⟩
    ·cases h
    ·cases e
  obtain ⟨u, h7, h8⟩:=zcT (ok':=okN ok w w') h5 (fun b hb=>by
   rcases h4 b hb with h | h
   ·exact .inl h
   ·exact .inr ⟨h, h5.lt b hb⟩) (fun b hb hb'=>.inr ⟨hb, hb'⟩) h6.1 hr
  have hlv:Leaves P fn a'.tmps (fun e w'=>∃ u, e = .returned u /\ Below w.heap.size w w' /\ Fits (okN ok w w') w' r u) a'.defers .returning w':=by
   rw [hdef]; exact ⟨u, h7, u, rfl, h2, h8⟩
  rcases he with rfl | rfl <;> exact hlv
 ·obtain ⟨us, vs', hdef, htm⟩:∃ us vs', a'.defers = [{ target:=.fn (.func g) vs', args:=us }] /\ a'.tmps.getD t undef = .func (.func g) us vs':=by
   have:=h1.1
   rw [hn] at this
   cases hds:a'.defers with
   | nil=>rw [hds] at this; simp [Dfs] at this
   | cons d ds=>
    rw [hds] at this
    simp only[Dfs] at this
    rcases this with ⟨h, _⟩ | ⟨t', l', e, ⟨f', us, vs', e1, e2⟩, e3⟩
    ·cases h
    ·injection e with ea eb
     subst ea
     subst eb
     have hds2:ds = []:=by
      cases ds with
      | nil=>rfl
      | cons d' ds'=>
       simp only[Dfs] at e3
       rcases e3 with ⟨h, _⟩ | ⟨t, l', e, _⟩
       ·cases h
       ·cases e
     have:=h6.1 t
     rw [hfr, e2] at this
     simp only[FitsE] at this
     obtain ⟨x, y, e4, _, _⟩:=this
     injection e4 with e4 e5 e6
     injection e4 with e4
     subst e4
     exact ⟨us, vs', by rw [hds2, e1], e2⟩
  have hcap:=h6.1 t
  rw [hfr, htm] at hcap
  simp only[FitsE] at hcap
  obtain ⟨x, y, e4, hx, hy⟩:=hcap
  simp only[FitsEL] at hx
  subst hx
  injection e4 with _ e5 e6
  subst e5
  subst e6
  let ghA:List (EV × Value):=(List.range fn.ntmps).map fun t=>(st.fr t, a'.tmps.getD t undef)
  have hghA:∀ p ∈ ghA, FitsE ok' w' bs st.mem p.1 p.2:=fun p hp=>by
   obtain ⟨t, _, rfl⟩:=List.mem_map.1 hp
   exact h6.1 t
  have fin:∀ (mode:Option AV) (u:Value), zms P G g caps mode st.mem mem' -> (∀ v, mode = some v -> Fits ok' w' v u) ->
    Leaves P fn a'.tmps (fun e w'=>∃ u, e = .returned u /\ Below w.heap.size w w' /\ Fits (okN ok w w') w' r u) a'.defers (zkG mode u) w':=fun mode u hc hv=>by
   rw [hdef]
   refine ⟨by cases mode <;> simp [zkG], .func g, y.toArray, g, y.toArray, rfl, by simp only[invoke]; rw [show (([]:List Value).toArray ++ y.toArray) = y.toArray from by simp]; exact enter_run hc.1 _ _, ?_⟩
   refine CallsD.mono (hc.2 w ok ok' bs w' y ghA u hG hok h2 h3 h4 h5 hy hghA hv) fun e u' w2 ⟨⟨x, he⟩, hu, ok2, bs2, k2, k3, k4, k5, k6⟩=>?_
   subst he
   subst hu
   have hset:settle (zdA mode u) = .returning:=by cases mode <;> rfl
   simp only[hset]
   have hfits:∀ t, FitsE ok2 w2 bs2 mem' (zeo fn.ntmps st.fr t) (a'.tmps.getD t undef):=fun t=>by
    unfold zeo
    by_cases ht:t < fn.ntmps
    ·rw [show Nat.blt t fn.ntmps = true from by simpa [Nat.blt_eq] using ht]
     exact k6 _ (List.mem_map_of_mem (List.mem_range.2 ht))
    ·rw [show Nat.blt t fn.ntmps = false from by
      cases hb:Nat.blt t fn.ntmps
      ·rfl
      ·exact absurd (by simpa [Nat.blt_eq] using hb) ht]
     simp [FitsE, Fits]
   obtain ⟨u2, h7, h8⟩:=zcT (ok':=okN ok w w2) k5 (fun b hb=>by
    rcases k4 b hb with h | h
    ·exact .inl h
    ·exact .inr ⟨h, k5.lt b hb⟩) (fun b hb hb'=>.inr ⟨hb, hb'⟩) hfits hr
   exact ⟨u2, h7, u2, rfl, k2, h8⟩
  rcases hd with ⟨he, hc⟩ | ⟨u, v, he, hu, hc⟩
  ·have:=fin none undef hc (fun v h=>by cases h)
   rcases he with rfl | rfl <;> exact this
  ·subst he
   rw [hn] at h6
   have hv:=h6.2 _ hu
   simp only[FitsE] at hv
   exact fin (some v) u hc (fun v' e=>by injection e with e; subst e; exact hv)
end
end Go.Av
end
section
namespace Go.Av
open Go.RowKit
section
variable {P:Program} {G:Glob} {fr:Nat -> EV} {mem:List PO} {o:Oper}
theorem zsl {T U:TypeId} {x:Operand} {ms:Array (String × TypeId)} (ho:o.op = .binOp .eql T x (.const .nilIface) U) (hx:evO fr x = .pub (.v .nilIface)) (ht:P.underlying T = some (.interface ms)):OpY P G fr mem o (B true):=
 jb fun ok bs w a _ _ hf=>by
  have h1:=xY (hf x (by simp [ho, Op.operands])) hx
  refine ⟨.bool true, ?_, wW rfl⟩
  have e2:a.eval (.const .nilIface) = .nilIface:=rfl
  have hg:(eqGuard .eql T x (.const .nilIface) .nilIface .nilIface).run P w = .ok () w:=by simp [eqGuard]
  have hd:∀ d:Nat, (Op.equalIn (d + 1) T .nilIface .nilIface).run P w = .ok true w:=fun d=>by simp [Op.equalIn, run_underlying ht]
  have hb:(binOp .eql T .nilIface .nilIface).run P w = .ok (.bool true) w:=by
   simp only[binOp]
   simp [Op.equal, Op.maxDepth, hd 9999]
  simp only[execOp, ho, h1, e2, Sem.run_bind, hg, hb, Result.andThen_ok]; rfl
theorem zr5 {T U t:TypeId} {x:Operand} {c:AV} {ms:Array (String × TypeId)} (ho:o.op = .binOp .eql T x (.const .nilIface) U) (hx:evO fr x = .pub (.ifc t c)) (ht:P.underlying T = some (.interface ms)):OpY P G fr mem o (B false):=
 jb fun ok bs w a _ _ hf=>by
  have h:=hf x (by simp [ho, Op.operands])
  rw [hx] at h
  simp only[FitsE, Fits] at h
  obtain ⟨u, e, _⟩:=h
  refine ⟨.bool false, ?_, wW rfl⟩
  have e2:a.eval (.const .nilIface) = .nilIface:=rfl
  have hg:(eqGuard .eql T x (.const .nilIface) (.iface t u) .nilIface).run P w = .ok () w:=by simp [eqGuard]
  have hd:∀ d:Nat, (Op.equalIn (d + 1) T (.iface t u) .nilIface).run P w = .ok false w:=fun d=>by simp [Op.equalIn, run_underlying ht]
  have hb:(binOp .eql T (.iface t u) .nilIface).run P w = .ok (.bool false) w:=by
   simp only[binOp]
   simp [Op.equal, Op.maxDepth, hd 9999]
  simp only[execOp, ho, e, e2, Sem.run_bind, hg, hb, Result.andThen_ok]; rfl
theorem zm9 {X t:TypeId} {x:Operand} {c:AV} {d:TypeDesc} (ho:o.op = .typeAssert x X t true) (hx:evO fr x = .pub (.ifc t c)) (ht:P.underlying t = some d) (hd:(match d with | .interface _=>true | _=>false) = false):
  OpY P G fr mem o (.pub (.tup [c, .v (.bool true)])):=
 jb fun ok bs w a _ _ hf=>by
  have h:=hf x (by simp [ho, Op.operands])
  rw [hx] at h
  simp only[FitsE, Fits] at h
  obtain ⟨u, e, hu⟩:=h
  refine ⟨.tuple #[u, .bool true], ?_, ?_⟩
  ·cases d <;> simp_all [execOp, Instr.typeAssert, run_underlying ht]
  ·simp only[FitsE, Fits, FitsL]
   exact ⟨[u, .bool true], rfl, u, _, rfl, hu, .bool true, [], rfl, ⟨rfl, rfl⟩, rfl⟩
end
section
variable {r:Option Nat} {P:Program} {G:Glob} {st:ASt} {ops:Array Oper} {l:List Oper} {Q:Exit -> ASt -> Prop} {o:Oper}
def zDa {α:Type} (pv:AV) (g:α -> AV):Option α -> Out
 | some y=>.ret (g y)
 | none=>.pan pv
theorem XCall.some {α:Type} {f:FuncId} {args:List AV} {pv:AV} {g:α -> AV} {x:Option α} {y:α} (h:XCall P G f args (zDa pv g x)) (hx:x = .some y):ACall P G f args (g y):=by
 subst hx; exact XCall.a h
theorem XCall.none {α:Type} {f:FuncId} {args:List AV} {pv:AV} {g:α -> AV} {x:Option α} (h:XCall P G f args (zDa pv g x)) (hx:x = .none):XCall P G f args (.pan pv):=by
 subst hx; exact h
theorem zFK {α:Type} {args:Array Operand} {tys:Array TypeId} {f:FuncId} {av:List AV} {pv:AV} {g:α -> AV} {x:Option α} (hg:yu o = true) (hd:jO o st.n = true) (ho:o.op = .call { callee:=.value (.func f), args:=args, argTypes:=tys })
  (ha:zjt st.fr args.toList av) (hc:XCall P G f av (zDa pv g x)) (hn:x = none -> ∀ u, Q (.panic (pnc u)) ⟨st.n.pan pv u, st.fr, st.mem⟩)
  (hs:∀ y, x = some y -> jP (r:=r) P G ops l ⟨st.n, qX st.fr o.dst (.pub (g y)), st.mem⟩ Q):jP (r:=r) P G ops (o :: l) st Q:=by
 cases hx:x with
 | none=>exact zqW hg ho ha (hc.none hx) (hn hx)
 | some y=>exact jy hg hd (zB ho ha (hc.some hx)) (hs y hx)
def PO.okL (k:Nat):PO -> Prop
 | .dead=>True
 | .row rows=>∀ r ∈ rows, ∀ x ∈ r, EV.lt k x
 | .map es=>∀ p ∈ es, EV.lt k p.2
def zbM (k:Nat):List PO -> Prop
 | []=>True
 | o :: l=>o.okL k /\ zbM k l
def ze7 (k:Nat):List (Nat × EV) -> Prop
 | []=>True
 | p :: l=>EV.lt k p.2 /\ ze7 k l
theorem yA {k:Nat}:∀ {l:List PO} {i:Nat} {o:PO}, zbM k l -> l[i]? = some o -> o.okL k
 | [], i, o, _, h=>by simp at h
 | x :: xs, i, o, h, hx=>by
  cases i with
  | zero=>simp at hx; subst hx; exact h.1
  | succ i=>exact yA h.2 (by simpa using hx)
theorem zdK {k:Nat}:∀ {l:List (Nat × EV)}, ze7 k l -> ∀ t, EV.lt k (frL l t)
 | [], _, t=>by simp [frL, EV.lt]
 | (a, e) :: l, h, t=>by
  simp only[frL]
  cases Nat.beq t a with
  | true=>exact h.1
  | false=>exact zdK h.2 t
theorem zoR {n:NS} {l:List (Nat × EV)} {mem:List PO} (k:Nat) (hl:ze7 k l) (hm:zbM k (mem.take k)) (hgh:n.gh = []:=by rfl):Weak ⟨n, frL l, mem⟩ ⟨n, frL l, mem.take k⟩:=
 zc6 k (zdK hl) (fun i rows hi h r hr x hx=>by
  have:=yA hm (i:=i) (o:=.row rows) (by rw [List.getElem?_take, if_pos hi]; exact h)
  exact this r hr x hx) (fun p h=>by rw [hgh] at h; cases h) (fun i es hi h=>yA hm (i:=i) (o:=.map es) (by rw [List.getElem?_take, if_pos hi]; exact h))
theorem AVle.ifc1 {t:TypeId} {x:AV}:AVle (.ifc t (.agg [x])) (.ifc t (.agg [.top])):=fun ok w u h=>by
 simp only[Fits] at h ⊢
 obtain ⟨v, e, vs, ev, h1, hf⟩:=h
 refine ⟨v, e, vs, ev, h1, ?_⟩
 simp only[FitsL] at hf ⊢
 obtain ⟨a, b, e1, _, e2⟩:=hf
 exact ⟨a, b, e1, by simp only[Fits], e2⟩
def zFU (P:Program) (fn:Func) (out:Out) (e:Exit) (st:ASt):Prop:=match out with
 | .ret r=>(e = .normal ∨ e = .ret) /\ RetE P fn st r
 | .pan v=>∃ u v', e = .panic (pnc u) /\ (EV.pub v', u) ∈ st.n.gh /\ AVle v' v /\ st.n.dfs = []
theorem zFq {α:Type} {fn:Func} {pv:AV} {g:α -> AV} {x:Option α} {y:α} {e:Exit} (hx:x = some y) (he:e = .normal ∨ e = .ret) (h:RetE P fn st (g y)):zFU P fn (zDa pv g x) e st:=by subst hx; exact ⟨he, h⟩
theorem zFx {α:Type} {fn:Func} {pv v':AV} {g:α -> AV} {x:Option α} {u:Value} {n:NS} {fr:Nat -> EV} {mem:List PO} (hx:x = none) (hv:AVle v' pv) (hd:n.dfs = []:=by rfl):zFU P fn (zDa pv g x) (.panic (pnc u)) ⟨n.pan v' u, fr, mem⟩:=by
 subst hx; exact ⟨u, v', rfl, List.mem_cons_self .., hv, hd⟩
theorem zFt {f:FuncId} {fn:Func} {c:Code} {args:List AV} {out:Out} (hf:P.funcs[f]? = some fn) (hb:fn.body = some c) (hnm:(fn.name == "runtime.NumGoroutine") = false) (hlen':Nat.ble args.length fn.ntmps = true)
  (h:jl (r:=none) P G c ⟨fn.ntmps, zmR args, []⟩ (zFU P fn out)):XCall P G f args out:=by
 cases out with
 | ret r=>exact (zO hf hb hnm hlen' h).x
 | pan v=>
  have hlen:args.length <= fn.ntmps:=zLb hlen'
  refine ⟨⟨fn, hf, hnm, by simp [hb]⟩, fun ok w vs hG hok hfit=>callsIn_wide.1 (callsIn_of_wp_marks (n:=0) hf hb trivial ?_)⟩
  refine wpIn_mono (h w ok _ w hG hok (zhn hlen hok hfit)) fun e a' w' ⟨st, hs, u, v', he, hu, hv, hd⟩=>?_
  obtain ⟨h0, h1, h2, ok', bs, h3, h4, h5, h6⟩:=hs
  subst he
  have h1:=h1.1
  rw [hd] at h1
  refine zcI h1 fun w2 hw2=>⟨h2.trans hw2.below, u, rfl, ?_⟩
  have:=h6.2 _ hu
  simp only[FitsE] at this
  refine hv _ _ _ ((this.congr hw2.cell).mono (fun b hb=>?_) (fun _ _=>rfl))
  rcases h4 b hb with h | h
  ·exact .inl h
  ·exact .inr ⟨h, by rw [hw2.size]; exact h5.lt b hb⟩
@[reducible] def NS.held (n:NS) (h:List (Nat × Obj)):NS:=⟨n.n, n.dfs, n.gh, n.mks, h⟩
end
section
variable {P:Program} {G:Glob} {ops:Array Oper} {mem:List PO} {md:Region.Mode} {pv:AV}
end
end Go.Av
end
