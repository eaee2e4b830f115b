import Derived.Test.YtgmbdadkbominaaGreatDoorPlatH
import Derived.Test.YtgmbdadkbominaaGreatDoorPlatE
import Derived.RangeFuncIn
import Derived.RangeFuncLeaves
import Derived.Test.YtgmbdadkbominaaGreatDoorPlatF
set_option linter.unusedVariables false
set_option linter.unusedSimpArgs false
section
namespace Go.Av
open Go.RowKit
section
variable {F:Fence} {n:Nat} {P:Program} {Q:Exit -> Act -> World -> Prop} {a:Act} {w:World} {p:FuncId -> Prop}
def zdH (p:FuncId -> Prop) (F:Fence) (n:Nat) (P:Program) (c:Code) (Q:Exit -> Act -> World -> Prop) (a:Act) (w:World):Prop:=
 ∀ (b:Frame) (k:List Item) (cs:List Frame), b.roundOf = F.round -> p b.fn -> F.fn b.fn -> F.room (cs.length + 1 + n) ->
  ∃ e a' w', Q e a' w' /\ ArrivesIn (Machine.fenced P F) P (lone (b.atR a (.code c :: k)) cs w) b k cs e a' w'
theorem zeT {c:Code} (h:c.wpIn F n P Q a w):zdH p F n P c Q a w:=fun b k cs h1 _ h3 h4=>h b k cs h1 h3 h4
theorem zaD {c:Code} {Q':Exit -> Act -> World -> Prop} (h:zdH p F n P c Q a w) (hq:∀ e a w, Q e a w -> Q' e a w):zdH p F n P c Q' a w:=
 fun b k cs h1 h2 h3 h4=>let ⟨e, a', w', q, r⟩:=h b k cs h1 h2 h3 h4; ⟨e, a', w', hq _ _ _ q, r⟩
theorem znI {x y:Code} (h:zdH p F n P x (Exit.then (zdH p F n P y Q) Q) a w):zdH p F n P (.seq x y) Q a w:=by
 intro b k cs hro hp hb hr
 have h0:(lone (b.atR a (.code (.seq x y) :: k)) cs w).fenced P F:=fenced_calm hb hr rfl
 obtain ⟨e, a₁, w₁, hq, harr⟩:=h b (.code y :: k) cs hro hp hb hr
 cases e with
 | normal=>
  obtain ⟨e₂, a₂, w₂, hq₂, harr₂⟩:=hq b k cs hro hp hb hr
  exact ⟨e₂, a₂, w₂, hq₂, .of_steps (.head h0 stepR_seq harr) harr₂⟩
 | exit id=>exact ⟨_, a₁, w₁, hq, .of_steps (.one h0 stepR_seq) (.pass (x:=.code y) rfl (fun _ _=>.inl (by simp)) harr)⟩
 | goto l=>exact ⟨_, a₁, w₁, hq, .of_steps (.one h0 stepR_seq) (.pass (x:=.code y) rfl (fun _ _=>.inl (by simp)) harr)⟩
 | ret=>exact ⟨_, a₁, w₁, hq, .of_steps (.one h0 stepR_seq) (.pass (x:=.code y) rfl (fun _ _=>.inl (by simp)) harr)⟩
 | panic ch=>exact ⟨_, a₁, w₁, hq, .of_steps (.one h0 stepR_seq) (.pass (x:=.code y) rfl (fun _ _=>.inl (by simp)) harr)⟩
 | outgrown=>exact ⟨_, a₁, w₁, hq, .of_steps (.one h0 stepR_seq) (.pass (x:=.code y) rfl (fun _ _=>.inl (by simp)) harr)⟩
theorem zkI {id:Nat} {c:Code} (h:zdH p F n P c (Exit.inBlock id Q) a w):zdH p F n P (.block id c) Q a w:=by
 intro b k cs hro hp hb hr
 have h0:(lone (b.atR a (.code (.block id c) :: k)) cs w).fenced P F:=fenced_calm hb hr rfl
 obtain ⟨e, a₁, w₁, hq, harr⟩:=h b (.inBlock id :: k) cs hro hp hb hr
 cases e with
 | normal=>exact ⟨.normal, a₁, w₁, hq, .head h0 stepR_block (StepsIn.trans harr (.one (fenced_calm hb hr rfl) stepR_inBlock))⟩
 | exit id'=>
  by_cases hid:id' = id
  ·simp only[Exit.inBlock, hid, if_true] at hq
   have hx:exitTo id' (.inBlock id :: k) = some k:=by simp [exitTo, hid]
   exact ⟨.normal, a₁, w₁, hq, .head h0 stepR_block (harr.1 k hx)⟩
  ·simp only[Exit.inBlock, hid, if_false] at hq
   have hx:exitTo id' (.inBlock id :: k) = exitTo id' k:=by simp [exitTo, Ne.symm hid]
   exact ⟨.exit id', a₁, w₁, hq, .of_steps (.one h0 stepR_block) ⟨fun k' hk=>harr.1 k' (by rw [hx]; exact hk), fun hr hk=>harr.2 hr (by rw [hx]; exact hk)⟩⟩
 | goto l=>exact ⟨_, a₁, w₁, hq, .of_steps (.one h0 stepR_block) ⟨fun k' hk=>harr.1 k' (by simpa [gotoIn] using hk), fun hr hk=>harr.2 hr (by simpa [gotoIn] using hk)⟩⟩
 | ret=>exact ⟨_, a₁, w₁, hq, .of_steps (.one h0 stepR_block) harr⟩
 | panic ch=>exact ⟨_, a₁, w₁, hq, .of_steps (.one h0 stepR_block) harr⟩
 | outgrown=>exact ⟨_, a₁, w₁, hq, .of_steps (.one h0 stepR_block) harr⟩
def zkL (P:Program) (l:Nat) (R:Ending -> World -> Prop):Exit -> Act -> World -> Prop
 | .panic ch, a, w=>a.defers = [] /\ R (.panicked ch) w
 | e, a, w=>roundPost P l R e a w
theorem zeI {l:Nat} {f:FuncId} {fn:Func} {tmps:Array Value} {assign body:Code} {w:World} {R:Ending -> World -> Prop} (hf:P.funcs[f]? = some fn) (hF:F.fn f)
  (h:zdH (· = f) (F.inRound l) n P assign (Exit.then (fun a₁ w₁=>∃ w₂, (Instr.beginRound l).run P w₁ = .ok () w₂ /\ zdH (· = f) (F.inRound l) n P body (zkL P l R) a₁ w₂) (fun _ _ _=>False)) { tmps:=tmps, defers:=[] } w):
  RoundIn F n P l f tmps assign body w R:=by
 refine ⟨hF, fun c cs hr=>?_⟩
 let b:Frame:={ (default:Frame) with fn:=f, kind:=.normal, roundOf:=some l }
 have hb0:Frame.round l f tmps assign body .normal = b.atR { tmps:=tmps, defers:=[] } [.code assign, .beginRound, .code body]:=by
  simp [Frame.round, Frame.atR, b]
 have hr':(F.inRound l).room ((c :: cs).length + 1 + n):=hr
 have hF':(F.inRound l).fn b.fn:=hF
 obtain ⟨e, a₁, w₁, hq, harr⟩:=h b [.beginRound, .code body] (c :: cs) rfl rfl hF' hr'
 rw [← hb0] at harr
 cases e with
 | normal=>
  obtain ⟨w₂, hbr, hbody⟩:=hq
  have s1:StepsIn (Machine.fenced P (F.inRound l)) P (lone (b.atR a₁ [.beginRound, .code body]) (c :: cs) w₁) (lone (b.atR a₁ [.code body]) (c :: cs) w₂):=
   .one (fenced_calm (fr:=b.atR a₁ [.beginRound, .code body]) hF' hr' rfl) (stepR_beginRound rfl hbr)
  obtain ⟨e₂, a₂, w₃, hq₂, harr₂⟩:=hbody b [] (c :: cs) rfl rfl hF' hr'
  cases e₂ with
  | normal=>
   obtain ⟨v, w₄, hend, hR⟩:=hq₂
   exact ⟨.returned v, w₄, hR, (StepsIn.trans harr s1).trans (StepsIn.trans harr₂ (.one (fenced_calm (fr:=b.atR a₂ []) hF' hr' rfl) (stepR_round_end rfl rfl hend)))⟩
  | ret=>
   obtain ⟨v, w₄, hend, hR⟩:=hq₂
   obtain ⟨k₁, hs⟩:=harr₂.2 rfl
   exact ⟨.returned v, w₄, hR, (StepsIn.trans harr s1).trans (StepsIn.trans hs (.one (fenced_calm (fr:=b.atR a₂ (.code .ret :: k₁)) hF' hr' rfl) (stepR_round_ret rfl rfl hend)))⟩
  | exit id=>
   obtain ⟨v, w₄, hend, hR⟩:=hq₂
   obtain ⟨k₁, hk, hs⟩:=harr₂.2 rfl rfl
   exact ⟨.returned v, w₄, hR, (StepsIn.trans harr s1).trans (StepsIn.trans hs (.one (fenced_calm (fr:=b.atR a₂ (.code (.exit id) :: k₁)) hF' hr' rfl) (stepR_round_exit rfl rfl hk hend)))⟩
  | goto t=>
   obtain ⟨v, w₄, hend, hR⟩:=hq₂
   obtain ⟨k₁, hk, hs⟩:=harr₂.2 rfl rfl
   exact ⟨.returned v, w₄, hR, (StepsIn.trans harr s1).trans (StepsIn.trans hs (.one (fenced_calm (fr:=b.atR a₂ (.code (.goto t) :: k₁)) hF' hr' rfl) (stepR_round_goto rfl rfl hk hend)))⟩
  | panic chain=>
   obtain ⟨hd, hR⟩:=hq₂
   obtain ⟨todo, hs⟩:=harr₂
   have hl:Frame.leaving P { b.atR a₂ todo with mode:=.panicking chain } w₃ (.panicked chain):=⟨rfl, hd, fn, hf⟩
   exact ⟨.panicked chain, w₃, hR, (StepsIn.trans harr s1).trans (StepsIn.trans hs (.one (fenced_leaving (F:=F.inRound l) (n:=n) hF' hr' hl) (step_leave_panicked hl)))⟩
  | outgrown=>exact hq₂.elim
 | exit id=>exact hq.elim
 | goto t=>exact hq.elim
 | ret=>exact hq.elim
 | panic chain=>exact hq.elim
 | outgrown=>exact hq.elim
def zi8 (p:FuncId -> Prop) (F:Fence) (n:Nat) (P:Program) (l:Nat) (Q:Exit -> Act -> World -> Prop) (a':Act):Ending -> World -> Prop
  | .returned _, w₃ => ∃ jump w₄, (Instr.endLoop l).run P w₃ = .ok jump w₄ /\
      (match jump with
       | none=>Q .normal a' w₄
       | some c=>zdH p F n P c Q a' w₄)
  | .panicked chain, w₃=>Q (.panic chain) a' w₃
  | .outgrown, _=>LetsOut Q
theorem zfO {g:Operand} {ps:Array Tmp} {assign body:Code} {Q:Exit -> Act -> World -> Prop} {a:Act} {w:World}
  (h:∀ fn, p fn -> F.fn fn -> ∃ (l:Nat) (mark:List Deferred) (w₁:World) (d:Deferred) (w₁':World) (f:FuncId) (args:Array Value) (w₂:World),
   (Instr.enterLoop fn a.tmps ps assign body F.round).run P w = .ok (l, mark) w₁ /\
   (resolve a.eval (rangeCall g l) 0).run P w₁ = .ok d w₁' /\
   (∀ f', Target.leads P w₁' d.target d.args = some f' -> F.fn f') /\
   (invoke d.target d.args).run P w₁' = .ok (.enter f args) w₂ /\
   (F.depth.isSome = true -> 1 <= n) /\
   CallsIn F (n - 1) P f args w₂ (zi8 p F n P l Q { a with defers:=mark ++ a.defers })):
  zdH p F n P (Code.rangeFunc g ps assign body) Q a w:=by
 intro b k cs hro hp hb hr
 obtain ⟨l, mark, w₁, d, w₁', f, args, w₂, he, hres, hlead, hinv, hn, hF, hcall⟩:=h b.fn hp hb
 rw [← hro] at he
 have h0:(lone (b.atR a (.code (.rangeFunc g ps assign body) :: k)) cs w).fenced P F:=by
  refine fenced_lone (.inl hb) (fun f' hf'=>hlead f' ?_) (Fence.room_le hr (by omega))
  have hev:=Frame.eval_atR b a (.code (.rangeFunc g ps assign body) :: k)
  simp only[Frame.atR] at hev
  simp only[Frame.about, Frame.atR, he, hev, hres] at hf'
  exact hf'
 have henter:=stepR_rangeFunc (P:=P) (b:=b) (a:=a) (k:=k) (cs:=cs) (w:=w) he hres hinv
 have hroom:F.room ((b.atR { a with defers:=mark ++ a.defers } (.inRangeFunc l :: k) :: cs).length + 1 + (n - 1)):=Fence.room_enter hr hn
 obtain ⟨e, w₃, fr, hR, hsteps, hfn, hleave⟩:=hcall (b.atR { a with defers:=mark ++ a.defers } (.inRangeFunc l :: k) :: cs) hroom
 cases e with
 | outgrown=>
  obtain ⟨a₀, w₀, hq⟩:=hR
  exact ⟨.outgrown, a₀, w₀, hq, .inr (Outgrown.of_steps (.one henter) hsteps)⟩
 | returned v=>
  have hl:(lone fr (b.atR { a with defers:=mark ++ a.defers } (.inRangeFunc l :: k) :: cs) w₃).fenced P F:=fenced_leaving (hfn ▸ hF) hroom hleave
  obtain ⟨jump, w₄, hend, hj⟩:=hR
  have sback:StepsIn (Machine.fenced P F) P (lone (b.atR a (.code (.rangeFunc g ps assign body) :: k)) cs w) (lone (b.atR { a with defers:=mark ++ a.defers } ((jump.map Item.code).toList ++ k)) cs w₄):=by
   refine .head h0 henter (StepsIn.trans hsteps (.head hl ?_ (.one (fenced_calm (fr:=b.atR { a with defers:=mark ++ a.defers } (.endRangeFunc l :: k)) hb hr rfl) (stepR_endRangeFunc hend))))
   rw [← finish_atR_inRangeFunc l v]; exact step_leave_returned hleave
  cases jump with
  | none=>exact ⟨.normal, _, w₄, hj, sback⟩
  | some c=>
   obtain ⟨e', a'', w₅, hq, harr⟩:=hj b k cs hro hp hb hr
   exact ⟨e', a'', w₅, hq, .of_steps sback harr⟩
 | panicked chain=>
  have hl:(lone fr (b.atR { a with defers:=mark ++ a.defers } (.inRangeFunc l :: k) :: cs) w₃).fenced P F:=fenced_leaving (hfn ▸ hF) hroom hleave
  refine ⟨.panic chain, _, w₃, hR, .inRangeFunc l :: k, .head h0 henter (StepsIn.trans hsteps (.one hl ?_))⟩
  rw [← Frame.raise_atR]; exact step_leave_panicked hleave
theorem zeG {f:FuncId} {fn:Func} {c:Code} {args:Array Value} {w:World} {R:Ending -> World -> Prop}
  (hf:P.funcs[f]? = some fn) (hb:fn.body = some c) (hF:F.fn f)
  (h:zdH (· = f) F n P c (bodyPostM F n P fn R) { tmps:=args ++ Array.replicate (fn.ntmps - args.size) undef, defers:=[] } w) (hro:F.round = none:=by rfl):CallsIn F n P f args w R:=by
 refine ⟨hF, fun cs hr=>?_⟩
 let b:Frame:={ (default:Frame) with fn:=f, kind:=.normal, roundOf:=none }
 have henter:Frame.enter P f args .normal =
   b.atR { tmps:=args ++ Array.replicate (fn.ntmps - args.size) undef, defers:=[] } [.code c]:=by
  simp [Frame.enter, Frame.atR, hf, hb, b]
 obtain ⟨e, a', w', hq, harr⟩:=h b [] cs hro.symm rfl hF hr
 rw [← henter] at harr
 cases e with
 | normal=>
  obtain ⟨e', w'', fr', hR, hs, hfn, hl⟩:=leaves_stepsInM a'.defers .returning w' { b.atR a' [] with mode:=.returning } cs rfl rfl rfl hf rfl hF hr hq
  exact ⟨e', w'', fr', hR, ComesIn.of_steps (StepsIn.trans harr (.one (fenced_calm (fr:=b.atR a' []) hF hr rfl) (stepR_end rfl))) hs, hfn, hl⟩
 | ret=>
  obtain ⟨todo, hs₀⟩:=harr.1 rfl
  obtain ⟨e', w'', fr', hR, hs, hfn, hl⟩:=leaves_stepsInM a'.defers .returning w' { b.atR a' todo with mode:=.returning } cs rfl rfl rfl hf rfl hF hr hq
  exact ⟨e', w'', fr', hR, ComesIn.of_steps hs₀ hs, hfn, hl⟩
 | panic chain=>
  obtain ⟨todo, hs₀⟩:=harr
  obtain ⟨e', w'', fr', hR, hs, hfn, hl⟩:=leaves_stepsInM a'.defers (.panicking chain) w' { b.atR a' todo with mode:=.panicking chain } cs rfl rfl rfl hf rfl hF hr hq
  exact ⟨e', w'', fr', hR, ComesIn.of_steps hs₀ hs, hfn, hl⟩
 | exit id=>exact hq.elim
 | goto l=>exact hq.elim
 | outgrown=>exact ⟨.outgrown, w', b, hq, harr.resolve_left (by simp [b]), rfl, trivial⟩
end
end Go.Av
end
section
namespace Go.Av.Pn
open Go.Av Go.RowKit
inductive Ph where
 | on (k:Nat)
 | off (k:Nat)
 | pan (ch:List PanicEntry)
structure Cx (P:Program) (G:Glob) where
 l:Nat
 qs:List (List AV)
 J:Ph -> (Nat -> Prop) -> World -> Prop
 okS:Nat -> Prop
 lt:∀ p M W, J p M W -> ∀ x, M x -> x < W.heap.size
 up:∀ p M W x, J p M W -> W.heap.size <= x -> okS x
 abides:∀ p M W W', J p M W -> Below W.heap.size W W' -> J p M W'
 round:∀ (k:Nat) (M:Nat -> Prop) (W:World) (ok:Nat -> Prop) (us:List Value) (q:List AV) (gh:List (AV × Value)), qs[k]? = some q -> J (.on k) M W -> G.holds W ->
  (∀ x, ok x -> x < W.heap.size /\ ¬ M x /\ okS x) -> FitsL ok W q us -> (∀ p ∈ gh, Fits ok W p.1 p.2) ->
  ∃ fn tmps assign body, (Instr.yield l us.toArray).run P W = .ok (.round l fn tmps assign body) W /\
   RoundIn (FW none) 0 P l fn tmps assign body W (fun e W'=>(∃ (b:Bool) (M' ok':Nat -> Prop), e = .returned (.bool b) /\ J (if b then .on (k + 1) else .off k) M' W' /\ G.holds W' /\
    (∀ x, ok' x -> x < W'.heap.size /\ ¬ M' x /\ okS x) /\ ∀ p ∈ gh, Fits ok' W' p.1 p.2) ∨ ∃ (ch:List PanicEntry) (M':Nat -> Prop), e = .panicked ch /\ J (.pan ch) M' W' /\ G.holds W')
section
variable {P:Program} {G:Glob} (C:Cx P G)
def Cx.At (ph:Ph) (w0:World) (ok0:Nat -> Prop):Prop:=∃ M, C.J ph M w0 /\ G.holds w0 /\ ∀ x, ok0 x -> x < w0.heap.size /\ ¬ M x /\ C.okS x
def Cx.lift (Q:Exit -> Ph -> ASt -> Prop):Exit -> Act -> World -> Prop:=fun e a w=>∃ ph w0 ok0 st, C.At ph w0 ok0 /\ Sit w0 ok0 st a w /\ Q e ph st
def qW (c:Code) (ph:Ph) (st:ASt) (Q:Exit -> Ph -> ASt -> Prop):Prop:=
 ∀ (w0:World) (ok0:Nat -> Prop) (a:Act) (w:World), C.At ph w0 ok0 -> Sit w0 ok0 st a w -> c.wpIn (FW none) 0 P (C.lift Q) a w
def wz (ops:Array Oper) (l:List Oper) (ph:Ph) (st:ASt) (Q:Exit -> Ph -> ASt -> Prop):Prop:=
 ∀ (w0:World) (ok0:Nat -> Prop) (a:Act) (w:World), C.At ph w0 ok0 -> Sit w0 ok0 st a w -> wpListIn (FW none) 0 P ops (C.lift Q) l a w
end
section
variable {P:Program} {G:Glob} {C:Cx P G} {ph:Ph} {st st':ASt} {Q:Exit -> Ph -> ASt -> Prop} {ops:Array Oper} {l:List Oper} {o:Oper}
theorem Cx.At.ok {w0:World} {ok0:Nat -> Prop} (h:C.At ph w0 ok0):∀ b, ok0 b -> b < w0.heap.size:=fun b hb=>by
 obtain ⟨M, _, _, h3⟩:=h; exact (h3 b hb).1
theorem Cx.At.g {w0:World} {ok0:Nat -> Prop} (h:C.At ph w0 ok0):G.holds w0:=by obtain ⟨M, _, h2, _⟩:=h; exact h2
theorem yf {c:Code} (h:jl (r:=none) P G c st (fun e s=>Q e ph s)):qW C c ph st Q:=fun w0 ok0 a w hc hs=>
 wpIn_mono (h w0 ok0 a w hc.g hc.ok hs) fun _ _ _ ⟨s, hs', hq⟩=>⟨ph, w0, ok0, s, hc, hs', hq⟩
theorem y5 (h:Q .normal ph st):qW C .skip ph st Q:=fun _ _ _ _ hc hs=>wpIn_skip ⟨_, _, _, st, hc, hs, h⟩
theorem zhR (h:Q .ret ph st):qW C .ret ph st Q:=fun _ _ _ _ hc hs=>wpIn_ret ⟨_, _, _, st, hc, hs, h⟩
theorem zeV {id:Nat} (h:Q (.exit id) ph st):qW C (.exit id) ph st Q:=fun _ _ _ _ hc hs=>wpIn_exit ⟨_, _, _, st, hc, hs, h⟩
def zbJ (K:Ph -> ASt -> Prop) (Q:Exit -> Ph -> ASt -> Prop):Exit -> Ph -> ASt -> Prop
 | .normal, p, s=>K p s
 | e, p, s=>Q e p s
theorem qE {K:Ph -> ASt -> Prop} (h:K ph st):zbJ K Q .normal ph st:=h
theorem zc1 {K:Ph -> ASt -> Prop} (h:Q .ret ph st):zbJ K Q .ret ph st:=h
theorem zbc {K:Ph -> ASt -> Prop} {id:Nat} (h:Q (.exit id) ph st):zbJ K Q (.exit id) ph st:=h
theorem jU {x y:Code} (h:qW C x ph st (zbJ (fun p s=>qW C y p s Q) Q)):qW C (.seq x y) ph st Q:=by
 intro w0 ok0 a w hc hs
 refine wpIn_seq (wpIn_mono (h w0 ok0 a w hc hs) fun e a' w' ⟨p, w1, ok1, s, hc', hs', hq⟩=>?_)
 cases e <;> first | exact hq w1 ok1 a' w' hc' hs' | exact ⟨p, w1, ok1, s, hc', hs', hq⟩
def yt (id:Nat) (Q:Exit -> Ph -> ASt -> Prop):Exit -> Ph -> ASt -> Prop
 | .exit i, p, s=>if i = id then Q .normal p s else Q (.exit i) p s
 | e, p, s=>Q e p s
theorem yS {id:Nat} (h:Q .normal ph st):yt id Q .normal ph st:=h
theorem zc9 {id:Nat} (h:Q .ret ph st):yt id Q .ret ph st:=h
theorem zeP {id:Nat} (h:Q .normal ph st):yt id Q (.exit id) ph st:=by simpa [yt] using h
theorem xG {id:Nat} {c:Code} (h:qW C c ph st (yt id Q)):qW C (.block id c) ph st Q:=by
 intro w0 ok0 a w hc hs
 refine wpIn_block (wpIn_mono (h w0 ok0 a w hc hs) fun e a' w' ⟨p, w1, ok1, s, hc', hs', hq⟩=>?_)
 cases e with
 | exit i=>
  by_cases hi:i = id
  ·simp only[Exit.inBlock, yt, if_pos hi] at hq ⊢; exact ⟨p, w1, ok1, s, hc', hs', hq⟩
  ·simp only[Exit.inBlock, yt, if_neg hi] at hq ⊢; exact ⟨p, w1, ok1, s, hc', hs', hq⟩
 | _=>exact ⟨p, w1, ok1, s, hc', hs', hq⟩
theorem vW {c:Operand} {x y:Code} {b:Bool} (hb:evO st.fr c = .pub (.v (.bool b))) (h1:b = true -> qW C x ph st Q) (h2:b = false -> qW C y ph st Q):qW C (.cond c x y) ph st Q:=by
 intro w0 ok0 a w hc hs
 obtain ⟨ok, bs, _, _, h5, h6⟩:=hs.ex
 have he:=qO (fr:=st.fr) (a:=a) (x:=c) fun t _=>h6.1 t
 rw [hb] at he
 simp only[FitsE, Fits] at he
 cases b with
 | true=>exact wpIn_cond_true he.1 (h1 rfl w0 ok0 a w hc hs)
 | false=>exact wpIn_cond_false he.1 (h2 rfl w0 ok0 a w hc hs)
theorem zeM {ι:Type} (I:ι -> ASt) (p:ι -> Ph) (μ:ι -> Nat) {c:Code} (i0:ι) (hp:p i0 = ph) (h0:Weak st (I i0))
  (round:∀ i, qW C c (p i) (I i) (zbJ (fun q s=>∃ j, μ j < μ i /\ p j = q /\ Weak s (I j)) Q)):qW C (.loop c) ph st Q:=by
 intro w0 ok0 a w hc hs
 refine zds (fun i a w=>∃ w0 ok0, C.At (p i) w0 ok0 /\ Sit w0 ok0 (I i) a w) μ i0 ⟨w0, ok0, by rw [hp]; exact hc, h0 w0 ok0 a w hs⟩ fun i a w ⟨w1, ok1, hc1, hs1⟩=>?_
 refine wpIn_mono (round i w1 ok1 a w hc1 hs1) fun e a' w' ⟨q, w2, ok2, s, hc2, hs2, hq⟩=>?_
 cases e <;> try exact ⟨q, w2, ok2, s, hc2, hs2, hq⟩
 obtain ⟨j, hj, rfl, hw⟩:=hq
 exact ⟨j, hj, w2, ok2, hc2, hw _ _ _ _ hs2⟩
theorem yT {id:Nat} {l:List Oper} (h:wz C l.toArray l ph st Q):qW C (.region id l.toArray false) ph st Q:=
 fun w0 ok0 a w hc hs=>wpIn_region_lit (h w0 ok0 a w hc hs)
theorem zas (h:Q .normal ph st):wz C ops [] ph st Q:=fun _ _ _ _ hc hs=>⟨_, _, _, st, hc, hs, h⟩
theorem vX {x:EV} (hg:yu o = true) (hd:jO o st.n = true) (ho:OpY P G st.fr st.mem o x) (h:wz C ops l ph ⟨st.n, qX st.fr o.dst x, st.mem⟩ Q):wz C ops (o :: l) ph st Q:=by
 intro w0 ok0 a w hc hs
 exact wpListIn_plain (kH hg) fun K hK=>yg (kF hg) <| (ho.toM (qC hd)) w0 ok0 a w hc.g hc.ok hs K _ fun a' w' hs'=>hK _ _ (h w0 ok0 a' w' hc hs')
theorem qN {x:EV} {c:Bool} (hn:wV ops st.n = true) (hg:qQ ops st.fr o = some c) (hd:jO o st.n = true) (ho:c = true -> OpY P G st.fr st.mem o x)
  (h:wz C ops l ph ⟨st.n, qX st.fr o.dst (if c = true then x else .pub (.tup [])), st.mem⟩ Q):wz C ops (o :: l) ph st Q:=by
 intro w0 ok0 a w hc hs
 refine wpListIn_step fun K hK=>?_
 obtain ⟨ok, bs, _, _, h5, h6⟩:=hs.ex
 have hw:=yD h6.1 (fun j o t h1 h2=>by rw [hs.size]; exact wM hn j o t h1 h2) hg
 cases c with
 | true=>
  simp only[if_true] at h
  rw [if_pos hw]
  exact yg (xx hd) <| ((ho rfl).toM (qC hd)) w0 ok0 a w hc.g hc.ok hs K _ fun a' w' hs'=>hK _ _ (h w0 ok0 a' w' hc hs')
 | false=>
  simp only[Bool.false_eq_true, if_false] at h
  rw [if_neg (by rw [hw]; simp)]
  obtain ⟨h0, h1, h2, ok, bs, h3, h4, h5, h6⟩:=hs
  exact ⟨fun _ _=>trivial, hK _ _ (h w0 ok0 _ w hc (Sit.put h0 h1 h2 h3 h4 h5 h6 (Below.refl _ _) (by simp [FitsE, Fits, FitsL, undef]) (qC hd)))⟩
theorem xJ {fop:Operand} {args:Array Operand} {tys:Array TypeId} {k:Nat} {q:List AV} {c:Bool} (hn:wV ops st.n = true) (hg:qQ ops st.fr o = some c) (hd:jO o st.n = true)
  (ho:o.op = .call { callee:=.value fop, args:=args, argTypes:=tys }) (hf:c = true -> evO st.fr fop = .pub (.v (.func (.yield C.l) #[] #[]))) (ha:c = true -> args.toList.map (evO st.fr) = q.map .pub) (hq:c = true -> C.qs[k]? = some q)
  (hmem:st.mem = []) (hgh:st.n.gh = []) (hmk:st.n.mks = false) (hdf:st.n.dfs = []) (hh:st.n.hold = [])
  (h0:c = false -> wz C ops l (.on k) ⟨st.n, qX st.fr o.dst (.pub (.tup [])), []⟩ Q)
  (h1:c = true -> wz C ops l (.on (k + 1)) ⟨st.n, qX (fun t=>fgt (st.fr t)) o.dst (B true), []⟩ Q)
  (h2:c = true -> wz C ops l (.off k) ⟨st.n, qX (fun t=>fgt (st.fr t)) o.dst (B false), []⟩ Q)
  (h3:c = true -> ∀ ch, Q (.panic ch) (.pan ch) ⟨st.n, fun _=>.pub .top, []⟩):wz C ops (o :: l) (.on k) st Q:=by
 intro w0 ok0 a w hc hs
 refine wpListIn_step fun K hK=>?_
 obtain ⟨s0, s1, s2, ok, bs, s3, s4, s5, s6⟩:=hs
 have hw:=yD s6.1 (fun j o t h1 h2=>by rw [s0]; exact wM hn j o t h1 h2) hg
 have hdef:a.defers = []:=by
  have:=s1.1
  rw [hmk, hdf] at this
  cases hds:a.defers with
  | nil=>rfl
  | cons d ds=>
   rw [hds] at this
   simp only[Dfs] at this
   rcases this with ⟨h, _⟩ | ⟨t, l', e, _⟩
   ·cases h
   ·cases e
 cases c with
 | false=>
  rw [if_neg (by rw [hw]; simp)]
  rw [hmem] at s5 s6
  exact ⟨fun _ _=>trivial, hK _ _ (h0 rfl w0 ok0 _ w hc (Sit.put s0 s1 s2 s3 s4 s5 s6 (Below.refl _ _) (by simp [FitsE, Fits, FitsL, undef]) (qC hd)))⟩
 | true=>
  rw [if_pos hw]
  obtain ⟨M, hJ, hG, hok⟩:=hc
  have hJw:=C.abides _ _ _ _ hJ s2
  have hGw:=G.stable _ _ hG s2
  have hok':∀ x, ok x -> x < w.heap.size /\ ¬ M x /\ C.okS x:=fun x hx=>by
   rcases s4 x hx with h | h
   ·exact ⟨s5.lt x hx, (hok x h).2.1, (hok x h).2.2⟩
   ·exact ⟨s5.lt x hx, fun hm=>by have:=C.lt _ _ _ hJ x hm; omega, C.up _ _ _ x hJ h⟩
  have hfv:=qO (fr:=st.fr) (a:=a) (x:=fop) fun t _=>s6.1 t
  rw [hf rfl] at hfv
  simp only[FitsE, Fits] at hfv
  have key:∀ (l:List Operand) (xs:List AV), l.map (evO st.fr) = xs.map .pub -> FitsL ok w xs (l.map a.eval):=by
   intro l
   induction l with
   | nil=>intro xs h; cases xs with
    | nil=>simp [FitsL]
    | cons=>simp at h
   | cons y l ih=>intro xs h; cases xs with
    | nil=>simp at h
    | cons x xs=>
     simp only[List.map_cons, List.cons.injEq] at h
     simp only[List.map_cons, FitsL]
     have:=qO (fr:=st.fr) (a:=a) (x:=y) fun t _=>s6.1 t
     rw [h.1] at this
     exact ⟨_, _, rfl, by simpa only [FitsE] using this, ih xs h.2⟩
  let gh:List (AV × Value):=(List.range a.tmps.size).map fun t=>(xg (st.fr t), a.tmps.getD t undef)
  have hgh':∀ p ∈ gh, Fits ok w p.1 p.2:=fun p hp=>by
   obtain ⟨t, _, rfl⟩:=List.mem_map.1 hp
   have:=s6.1 t
   cases he:st.fr t with
   | pub x=>rw [he] at this; simpa only [FitsE, xg] using this
   | _=>simp only[xg, Fits]
  obtain ⟨fn, tmps, assign, body, hy, hr⟩:=C.round k M w ok (args.toList.map a.eval) q gh (hq rfl) hJw hGw hok' (key _ _ (ha rfl)) hgh'
  refine ⟨fun _ _=>trivial, ?_⟩
  rw [Oper.semAt_eq _ _ _ (xx hd)]
  have hex:(execOp a.eval o).run P w = .ok (.round C.l fn tmps assign body) w:=by
   have hargs:args.map a.eval = (args.toList.map a.eval).toArray:=by rw [← Array.toList_map]
   simp only[execOp, ho, resolve, hfv.1, Deferred.ofValue, invoke, Sem.run_bind, Sem.run_pure, Result.andThen_ok]
   simp only[Array.empty_append] at *
   rw [hargs]
   exact hy
  rw [hex, Oper.uponIn_round]
  refine ⟨fun h=>by simp [FW, Fence.wide] at h, hr.mono fun e W' hrr=>?_⟩
  rcases hrr with ⟨b, M', ok', he, hJ', hG', hok2, hg2⟩ | ⟨ch, M', he, hJ', hG'⟩
  case inr=>
   subst he
   exact ⟨.pan ch, W', fun _=>False, ⟨st.n, fun _=>.pub .top, []⟩, ⟨M', hJ', hG', fun x hx=>hx.elim⟩, ⟨s0, ⟨by show Dfs _ _ _ _ a.defers _ _; rw [hdef]; exact hdf, fun p hp=>(by rw [hh] at hp; cases hp)⟩, Below.refl _ _, fun _=>False, [], fun _ h=>h, fun _ h=>h.elim, ⟨rfl, fun x hx=>hx.elim, by simp, by simp, by simp, by simp⟩, fun t=>by simp [FitsE, Fits], fun p hp=>(by rw [hgh] at hp; cases hp)⟩, h3 rfl ch⟩
  subst he
  have hsit:∀ x:EV, FitsE ok' W' [] [] x (.bool b) -> Sit W' ok' ⟨st.n, qX (fun t=>fgt (st.fr t)) o.dst x, []⟩ (a.put o.dst (.bool b)) W':=fun x hx=>by
   refine ⟨(size_put ..).trans s0, ⟨?_, fun p hp=>by rw [hh] at hp; cases hp⟩, Below.refl _ _, ok', [], fun _ h=>h, fun _ h=>.inl h, ⟨rfl, fun x hx=>(hok2 x hx).1, by simp, by simp, by simp, by simp⟩, ?_⟩
   ·rw [defers_put, hdef]; exact hdf
   ·refine wo (n:=st.n) ⟨fun t=>?_, fun p hp=>by rw [hgh] at hp; cases hp⟩ hx (fun d e=>by rw [s0]; exact (qC hd d e).1)
    by_cases ht:t < a.tmps.size
    ·have:=hg2 _ (List.mem_map_of_mem (f:=fun t=>(xg (st.fr t), a.tmps.getD t undef)) (List.mem_range.2 ht))
     simpa only [fgt, FitsE] using this
    ·have hu:a.tmps.getD t undef = undef:=by simp [Array.getD_eq_getD_getElem?, Array.getElem?_eq_none (Nat.le_of_not_lt ht)]
     have h7:=s6.1 t
     rw [hu] at h7 ⊢
     simp only[fgt, FitsE]
     exact zfY h7
  cases b with
  | true=>
   simp only[if_true] at hJ'
   exact hK _ _ (h1 rfl W' ok' _ W' ⟨M', hJ', hG', hok2⟩ (hsit _ (by simp [FitsE, Fits, Value.oneCell'])))
  | false=>
   simp only[Bool.false_eq_true, if_false] at hJ'
   exact hK _ _ (h2 rfl W' ok' _ W' ⟨M', hJ', hG', hok2⟩ (hsit _ (by simp [FitsE, Fits, Value.oneCell'])))
def zcM (P:Program) (G:Glob) (f:FuncId) (fs cs:List AV) (qs:List (List AV)):Prop:=
 Enters P f /\ ∀ (C:Cx P G) (w:World) (ok:Nat -> Prop) (us vs:List Value), C.qs = qs -> C.At (.on 0) w ok -> FitsL ok w fs us -> FitsL ok w cs vs ->
  CallsIn (FW none) 0 P f (us ++ [Value.func (.yield C.l) #[] #[]] ++ vs).toArray w (fun e w'=>(∃ v ph M, e = .returned v /\ C.J ph M w' /\ (ph = .on qs.length ∨ ∃ k, ph = .off k)) ∨ ∃ ch M, e = .panicked ch /\ C.J (.pan ch) M w')
theorem ze2 {f:FuncId} {fn:Func} {c:Code} {fs cs:List AV} {qs:List (List AV)} (hf:P.funcs[f]? = some fn) (hb:fn.body = some c) (hnm:(fn.name == "runtime.NumGoroutine") = false) (hlen':Nat.ble (fs ++ [AV.top] ++ cs).length fn.ntmps = true) (hres:fn.results = #[])
  (h:∀ C:Cx P G, C.qs = qs -> qW C c (.on 0) ⟨fn.ntmps, zmR (fs ++ [.v (.func (.yield C.l) #[] #[])] ++ cs), []⟩ (fun e ph st=>st.n = fn.ntmps /\ (((e = .normal ∨ e = .ret) /\ (ph = .on qs.length ∨ ∃ k, ph = .off k)) ∨ ∃ ch, e = .panic ch /\ ph = .pan ch))):zcM P G f fs cs qs:=by
 have hlen:=zLb hlen'
 refine ⟨⟨fn, hf, hnm, by simp [hb]⟩, fun C w ok us vs hC hat hfs hcs=>callsIn_of_wp hf hb trivial ?_⟩
 have hfit:FitsL ok w (fs ++ [.v (.func (.yield C.l) #[] #[])] ++ cs) (us ++ [Value.func (.yield C.l) #[] #[]] ++ vs):=(hfs.append (by simp [FitsL, Fits, Value.oneCell'])).append hcs
 have hl:=hfit.length
 have hlen2:(fs ++ [AV.v (.func (.yield C.l) #[] #[])] ++ cs).length <= fn.ntmps:=by simpa using hlen
 refine wpIn_mono (h C hC w ok _ w hat ?_) fun e a' w' ⟨ph, w1, ok1, st, hc', hs, hn, hep⟩=>?_
 ·refine ⟨by simp only[Array.size_append, Array.size_replicate, List.size_toArray, hl]; omega, ⟨rfl, fun p hp=>by cases hp⟩, Below.refl _ _, ok, [], fun _ h=>h, fun _ h=>.inl h, ⟨rfl, hat.ok, by simp, by simp, by simp, by simp⟩, fun t=>?_, fun p hp=>by cases hp⟩
  generalize hxs:fs ++ [AV.v (.func (.yield C.l) #[] #[])] ++ cs = xs at *
  generalize hvs:us ++ [Value.func (.yield C.l) #[] #[]] ++ vs = ws at *
  show FitsE ok w [] [] (match xs[t]? with | some x=>.pub x | none=>.pub .top) _
  by_cases ht:t < xs.length
  ·rw [List.getElem?_eq_getElem ht]
   obtain ⟨u, h1, h2⟩:=hfit.get (List.getElem?_eq_getElem ht)
   simp only[FitsE]
   have h3:t < ws.length:=(zLg h1).1
   have h4:ws[t] = u:=(zLg h1).2
   simp only[Array.getD_eq_getD_getElem?]
   rw [Array.getElem?_append_left (by simpa using h3)]
   simp [h3, h4, h2]
  ·rw [List.getElem?_eq_none (by omega)]
   simp [FitsE, Fits]
 ·obtain ⟨s0, s1, s2, _⟩:=hs
  have hdef:a'.defers = []:=by
   have:=s1.1
   rw [hn] at this
   cases hds:a'.defers with
   | nil=>rfl
   | cons d ds=>
    rw [hds] at this
    simp only[Dfs] at this
    rcases this with ⟨h, _⟩ | ⟨t, l', e, _⟩
    ·cases h
    ·cases e
  obtain ⟨M, hJ, _, _⟩:=hc'
  rcases hep with ⟨he, hph⟩ | ⟨ch, rfl, rfl⟩
  ·have hR:∃ v, (results fn a'.tmps).run P w' = .ok v w' /\ ((∃ v' ph M, Ending.returned v = .returned v' /\ C.J ph M w' /\ (ph = .on qs.length ∨ ∃ k, ph = .off k)) ∨ ∃ ch M, Ending.returned v = .panicked ch /\ C.J (.pan ch) M w'):=
    ⟨_, results_none hres _ _ _, .inl ⟨_, ph, M, rfl, C.abides _ _ _ _ hJ s2, hph⟩⟩
   obtain ⟨v, hv, hR⟩:=hR
   rcases he with rfl | rfl
   ·exact ⟨hdef, v, hv, hR⟩
   ·exact ⟨hdef, v, hv, hR⟩
  ·exact ⟨hdef, .inr ⟨ch, M, rfl, C.abides _ _ _ _ hJ s2⟩⟩
end
end Go.Av.Pn
end
section
namespace Go.Av.Pn
open Go.Av Go.RowKit
def zlV (N Nr:NS) (fr:Nat -> EV) (V:Prop) (I':List PO) (Q:Exit -> ASt -> Prop):Exit -> ASt -> Prop
 | .panic ch, s=>∃ v u, ch = pnc u /\ s.n = Nr.pan v u /\ Q (.panic ch) ⟨N.pan v u, fr, s.mem⟩
 | .normal, s=>zd2 N Nr fr V I' Q .normal s
 | .ret, s=>zd2 N Nr fr V I' Q .ret s
 | .exit id, s=>zd2 N Nr fr V I' Q (.exit id) s
 | .goto i, s=>zd2 N Nr fr V I' Q (.goto i) s
 | .outgrown, _=>False
def yM (p:FuncId -> Prop) (P:Program) (G:Glob) (c:Code) (st:ASt) (Q:Exit -> ASt -> Prop):Prop:=
 ∀ (w0:World) (ok0:Nat -> Prop) (a:Act) (w:World), G.holds w0 -> (∀ b, ok0 b -> b < w0.heap.size) -> Sit w0 ok0 st a w -> zdH p (FW none) 0 P c (lift w0 ok0 Q) a w
section
variable {P:Program} {G:Glob} {p:FuncId -> Prop} {st st':ASt} {Q:Exit -> ASt -> Prop} {x y c:Code}
theorem znP (h:jl (r:=none) P G c st Q):yM p P G c st Q:=fun w0 ok0 a w hG hok hs=>zeT (h w0 ok0 a w hG hok hs)
theorem zqS (hw:Weak st st') (h:yM p P G c st' Q):yM p P G c st Q:=fun w0 ok0 a w hG hok hs=>h w0 ok0 a w hG hok (hw w0 ok0 a w hs)
theorem zkW (h:yM p P G x st (zdt (fun st'=>yM p P G y st' Q) Q)):yM p P G (.seq x y) st Q:=by
 intro w0 ok0 a w hG hok hs
 refine znI (zaD (h w0 ok0 a w hG hok hs) fun e a' w' ⟨st', hs', hq⟩=>?_)
 cases e <;> first | exact hq w0 ok0 a' w' hG hok hs' | exact ⟨st', hs', hq⟩
theorem znB {id:Nat} (h:yM p P G c st (zav id Q)):yM p P G (.block id c) st Q:=by
 intro w0 ok0 a w hG hok hs
 refine zkI (zaD (h w0 ok0 a w hG hok hs) fun e a' w' ⟨st', hs', hq⟩=>?_)
 cases e with
 | exit i=>
  by_cases hi:i = id
  ·simp only[Exit.inBlock, zav, if_pos hi] at hq ⊢; exact ⟨st', hs', hq⟩
  ·simp only[Exit.inBlock, zav, if_neg hi] at hq ⊢; exact ⟨st', hs', hq⟩
 | _=>exact ⟨st', hs', hq⟩
end
section
variable {P:Program} {G:Glob}
theorem zgB {f0:FuncId} {F0:Func} (hf0:P.funcs[f0]? = some F0) {st:ASt} {Q:Exit -> ASt -> Prop} {g:Operand} {ps:Array Tmp} {as bo:Code} {f:FuncId} {fs cs:List AV} {qs:List (List AV)} (live:List Tmp) (V:Nat -> Prop) (I:Nat -> List PO) (hV0:V 0)
  (hg:evO st.fr g = .pub (.fn f fs cs)) (hit:zcM P G f fs cs qs) (hm:st.mem = I 0) (hlen:∀ q ∈ qs, q.length = ps.size) (hpd:(ps.toList.all fun t=>Nat.blt t st.n.n) = true) (hlv:(live.all fun t=>Nat.blt t st.n.n) = true)
  (round:∀ (k:Nat) (q:List AV) (gh:List (EV × Value)) (l:Nat) (h1 h2:List (Nat × Obj)), qs[k]? = some q -> V k ->
   jl (r:=some l) P G as ⟨NS.round st.n.n gh h1, zb8 (jh st.fr live) ps.toList q, I k⟩ (fun e s=>e = .normal /\ s.n = NS.round st.n.n gh h1 /\
    jl (r:=some l) P G bo ⟨NS.round st.n.n gh h2, s.fr, s.mem⟩ (zlV st.n.marked (NS.round st.n.n gh h2) (jh st.fr live) (V (k + 1)) (I (k + 1)) Q)))
  (hdone:V qs.length -> Q .normal ⟨st.n.marked, jh st.fr live, I qs.length⟩):yM (· = f0) P G (.rangeFunc g ps as bo) st Q:=by
 intro w0 ok0 a w hG hok hs
 obtain ⟨s0, s1, s2, ok, bs, s3, s4, s5, s6⟩:=hs
 have hgv:=qO (fr:=st.fr) (a:=a) (x:=g) fun t _=>s6.1 t
 rw [hg] at hgv
 simp only[FitsE, Fits] at hgv
 obtain ⟨us, vs, ge, hus, hvs⟩:=hgv
 refine zfO ?_
 intro fn hfp hfn
 subst hfp
 obtain ⟨rec, hrec⟩:∃ rec:LoopState -> Option Code -> Loop, rec = fun st pe=>{ state:=st, pending:=pe, fn, tmps:=a.tmps, params:=ps, assign:=as, body:=bo, defers:=w.heap.size }:=⟨_, rfl⟩
 obtain ⟨W1, hW1⟩:∃ W1, (w.alloc (.deferred (some []))).alloc (.loop (rec .ready none)) = W1:=⟨_, rfl⟩
 have hb1:Below w.heap.size w W1:=by
  rw [← hW1]
  exact ((Below.refl w.heap.size w).alloc (Nat.le_refl _) _).alloc (by simp) _
 have hL1:W1.heap[w.heap.size + 1]? = some (.loop (rec .ready none)):=by
  rw [← hW1]; have:=World.alloc_heap_new (w.alloc (.deferred (some []))) (.loop (rec .ready none)); rwa [World.size_alloc] at this
 have hK1:W1.heap[w.heap.size]? = some (.deferred (some [])):=by
  rw [← hW1]; exact (Below.heap_alloc _ _ _ (by simp)).trans (World.alloc_heap_new w _)
 have hsz1:W1.heap.size = w.heap.size + 2:=by rw [← hW1]; simp
 let hold0:List (Nat × Obj):=(w.heap.size, .deferred (some [])) :: (st.n.hold ++ (marksOf a.defers).map fun D=>(D, .deferred (some [])))
 have hhold:∀ p ∈ hold0, stl w0.heap.size [] p /\ p.1 < w.heap.size + 1 /\ W1.heap[p.1]? = some p.2:=fun p hp=>by
  simp only[hold0, List.mem_cons, List.mem_append, List.mem_map] at hp
  rcases hp with rfl | hp | ⟨D, hD, rfl⟩
  ·exact ⟨⟨⟨rfl, by simp [marksOf]⟩, s2.size⟩, by simp, hK1⟩
  ·obtain ⟨h1, h2⟩:=s1.2 p hp
   have hlt:=(Array.getElem?_eq_some_iff.1 h2).1
   exact ⟨⟨⟨h1.1.1, by simp [marksOf]⟩, h1.2⟩, by omega, by rw [hb1.block _ hlt]; exact h2⟩
  ·obtain ⟨h0, h1, h2⟩:=s1.1.marks D hD
   exact ⟨⟨⟨rfl, by simp [marksOf]⟩, h0⟩, by simp only; omega, by rw [hb1.block _ h1]; exact h2⟩
 let gh0:List (EV × Value):=(List.range a.tmps.size).map (fun t=>(jh st.fr live t, a.tmps.getD t undef)) ++ st.n.gh
 have hgh0:∀ p ∈ gh0, FitsE ok w bs st.mem p.1 p.2:=fun p hp=>by
  simp only[gh0, List.mem_append, List.mem_map] at hp
  rcases hp with ⟨t, _, rfl⟩ | hp
  ·simp only[jh]
   cases live.contains t with
   | true=>exact s6.1 t
   | false=>simp [FitsE, Fits]
  ·exact s6.2 p hp
 let frl:=jh st.fr live
 let Kx:Code -> List PO -> Prop:=fun c mem=>jl (r:=none) P G c ⟨st.n.marked, frl, mem⟩ Q
 let Core:List (EV × Value) -> (Nat -> Prop) -> List PO -> World -> Prop:=fun ex M mem W=>Below w0.heap.size w0 W /\ (∀ p ∈ hold0, W.heap[p.1]? = some p.2) /\ ∃ (ok:Nat -> Prop) (bs:List PB), (∀ b, ok0 b -> ok b) /\ (∀ b, ok b -> ok0 b ∨ w0.heap.size <= b) /\
  MemOK w0.heap.size ok W bs mem /\ (∀ p ∈ ex ++ gh0, FitsE ok W bs mem p.1 p.2) /\ ∀ x, M x ↔ ∃ (l:Nat) (b:PB) (o:PO), bs[l]? = some b /\ mem[l]? = some o /\ o.live = true /\ b.blk = some x
 let J:Ph -> (Nat -> Prop) -> World -> Prop:=fun ph M W=>match ph with
  | .on k=>(V k /\ Core [] M (I k) W) /\ W.heap[w.heap.size + 1]? = some (.loop (rec .ready none))
  | .off _=>∃ c mem, Core [] M mem W /\ Kx c mem /\ W.heap[w.heap.size + 1]? = some (.loop (rec .done (some c)))
  | .pan ch=>∃ v u mem, ch = pnc u /\ Core [(.pub v, u)] M mem W /\ Q (.panic ch) ⟨st.n.marked.pan v u, frl, mem⟩
 have core_lt:∀ ex M mem W, Core ex M mem W -> ∀ x, M x -> x < W.heap.size:=fun ex M mem W h x hx=>by
  obtain ⟨_, _, ok, bs, _, _, h5, _, h7⟩:=h
  obtain ⟨l, b, o, e1, e2, e0, e3⟩:=(h7 x).1 hx
  exact h5.live_lt e1 e2 e0 e3
 have core_ab:∀ ex M mem W W', Core ex M mem W -> Below W.heap.size W W' -> Core ex M mem W':=fun ex M mem W W' h hb=>by
  obtain ⟨h1, h2, ok, bs, h3, h4, h5, h6, h7⟩:=h
  refine ⟨wI h1 h1.size hb, fun p hp=>by rw [hb.block _ (Array.getElem?_eq_some_iff.1 (h2 p hp)).1]; exact h2 p hp, okN ok W W', bs, fun b hb=>.inl (h3 b hb), fun b hb'=>?_, h5.grow hb, fun p hp=>(h6 p hp).grow h5.lt hb, h7⟩
  rcases hb' with h | h
  ·exact h4 b h
  ·exact .inr (Nat.le_trans h1.size h.1)
 have core_put:∀ ex M mem W o o', Core ex M mem W -> W.heap[w.heap.size + 1]? = some o -> still o = true -> still o' = true -> Core ex M mem (W.putObj (w.heap.size + 1) o'):=fun ex M mem W o o' h hl ho ho'=>by
  obtain ⟨h1, h2, ok, bs, h3, h4, h5, h6, h7⟩:=h
  refine ⟨h1.trans ⟨rfl, rfl, rfl, Nat.le_of_eq size_put'.symm, fun k hk=>ja (by have:=s2.size; omega)⟩, fun p hp=>by rw [ja (by have:=(hhold p hp).2.1; omega)]; exact h2 p hp, ok, bs, h3, h4, h5.put hl ho ho', fun p hp=>(h6 p hp).congr (vU hl ho ho'), h7⟩
 have hs2:=s2.size
 have hround:∀ (k:Nat) (M:Nat -> Prop) (W:World) (okI:Nat -> Prop) (xs:List Value) (q:List AV) (gh:List (AV × Value)), qs[k]? = some q -> J (.on k) M W -> G.holds W ->
   (∀ x, okI x -> x < W.heap.size /\ ¬ M x /\ (ok0 x ∨ w0.heap.size <= x)) -> FitsL okI W q xs -> (∀ p ∈ gh, Fits okI W p.1 p.2) ->
   ∃ fn tmps assign body, (Instr.yield (w.heap.size + 1) xs.toArray).run P W = .ok (.round (w.heap.size + 1) fn tmps assign body) W /\
    RoundIn (FW none) 0 P (w.heap.size + 1) fn tmps assign body W (fun e W'=>(∃ (b:Bool) (M' ok':Nat -> Prop), e = .returned (.bool b) /\ J (if b then .on (k + 1) else .off k) M' W' /\ G.holds W' /\
     (∀ x, ok' x -> x < W'.heap.size /\ ¬ M' x /\ (ok0 x ∨ w0.heap.size <= x)) /\ ∀ p ∈ gh, Fits ok' W' p.1 p.2) ∨ ∃ (ch:List PanicEntry) (M':Nat -> Prop), e = .panicked ch /\ J (.pan ch) M' W' /\ G.holds W'):=by
  intro k M W okI xs q gh hq hJ hGW hokI hfit hgh
  obtain ⟨⟨hVk, hc⟩, hL⟩:=hJ
  have hxl:xs.length = q.length:=hfit.length
  have hy:=run_yield (P:=P) (args:=xs.toArray) hL (by rw [hrec]; simp [hxl, hlen q (List.mem_of_getElem? hq)])
  rw [hrec] at hy
  obtain ⟨h1, h2, ok2, bs2, h3, h4, h5, h6, h7⟩:=hc
  let ghA:List (EV × Value):=gh0 ++ gh.map fun p=>(.pub p.1, p.2)
  let okR:Nat -> Prop:=fun b=>ok2 b ∨ okI b
  have h5R:MemOK w0.heap.size okR W bs2 (I k):=h5.more (fun b hb=>(hokI b hb).1) (fun l b o g e1 e2 e0 e3 he=>(hokI g he).2.1 ((h7 g).2 ⟨l, b, o, e1, e2, e0, e3⟩))
  have hghA:∀ p ∈ ghA, FitsE okR W bs2 (I k) p.1 p.2:=fun p hp=>by
   simp only[ghA, List.mem_append, List.mem_map] at hp
   rcases hp with hp | ⟨p', hp, rfl⟩
   ·exact (h6 p hp).mono (fun b hb=>.inl hb) (fun _ _=>rfl) (Turn.refl _ _)
   ·simp only[FitsE]; exact (hgh p' hp).mono (fun b hb=>.inr hb) (fun _ _=>rfl)
  have hslots:Slots okR W bs2 (I k) (NS.round st.n.n ghA ((w.heap.size + 1, .loop (rec .ready none)) :: hold0)) (jh st.fr live) ⟨a.tmps, []⟩:=by
   refine ⟨fun t=>?_, hghA⟩
   by_cases ht:t < a.tmps.size
   ·exact hghA (jh st.fr live t, a.tmps.getD t undef) (by simp only[ghA, gh0, List.mem_append, List.mem_map]; exact .inl (.inl ⟨t, List.mem_range.2 ht, rfl⟩))
   ·have:live.contains t = false:=by
     cases hc:live.contains t with
     | false=>rfl
     | true=>
      rw [List.all_eq_true] at hlv
      have:=hlv t (by simpa using hc)
      simp only[Nat.blt_eq] at this
      omega
    rw [xO this]; simp [FitsE, Fits]
  have hset:=zcW (ps:=ps.toList) (qs:=q) (us:=xs) hslots (hfit.mono (fun b hb=>.inr hb) (fun _ _=>rfl)) (fun p hp=>by
   rw [List.all_eq_true] at hpd
   have:=hpd p hp
   simp only[Nat.blt_eq] at this
   exact Nat.lt_of_lt_of_eq this s0.symm)
  have hfold:(ps.zip xs.toArray).foldl (fun t (x:Tmp × Value)=>t.setIfInBounds x.1 x.2) a.tmps = (ps.toList.zip xs).foldl (fun t (x:Tmp × Value)=>t.setIfInBounds x.1 x.2) a.tmps:=by
   rw [← Array.foldl_toList, Array.toList_zip]
  refine ⟨fn, _, as, bo, hy, zeI (F:=FW none) hf0 trivial ?_⟩
  have hr:=round k q ghA (w.heap.size + 1) ((w.heap.size + 1, .loop (rec .ready none)) :: hold0) ((w.heap.size + 1, .loop { rec .ready none with state:=.busy }) :: hold0) hq hVk
  have hsit0:Sit w0 ok0 ⟨NS.round st.n.n ghA ((w.heap.size + 1, .loop (rec .ready none)) :: hold0), zb8 (jh st.fr live) ps.toList q, I k⟩ { tmps:=(ps.zip xs.toArray).foldl (fun t (x:Tmp × Value)=>t.setIfInBounds x.1 x.2) a.tmps, defers:=[] } W:=by
   rw [hfold]
   refine ⟨hset.2.trans s0, ⟨rfl, fun p hp=>?_⟩, h1, okR, bs2, fun b hb=>.inl (h3 b hb), fun b hb=>hb.elim (h4 b) (fun h=>(hokI b h).2.2), h5R, hset.1⟩
   rcases List.mem_cons.1 hp with rfl | hp
   ·exact ⟨⟨⟨rfl, by simp [marksOf]⟩, by have:=s2.size; simp only; omega⟩, hL⟩
   ·exact ⟨(hhold p hp).1, h2 p hp⟩
  refine zaD (zeT (hr w0 ok0 _ W hG hok (by rw [hrec] at hsit0 ⊢; exact hsit0))) fun e a1 w1 ⟨s, hs, he, hn, hbody⟩=>?_
  subst he
  have hheld:∀ p ∈ (w.heap.size + 1, Obj.loop (rec .ready none)) :: hold0, w1.heap[p.1]? = some p.2:=fun p hp=>by
   have:=hs.nod.2
   rw [hn] at this
   exact (this p hp).2
  have hL1':=hheld _ (List.mem_cons_self ..)
  simp only at hL1'
  refine ⟨_, run_beginRound hL1' (by rw [hrec]), ?_⟩
  obtain ⟨t0, t1, t2, ok3, bs3, t3, t4, t5, t6⟩:=hs
  rw [hn] at t0 t1 t6
  have hput:∀ k, k < w0.heap.size -> (w1.putObj (w.heap.size + 1) (.loop { rec .ready none with state:=.busy })).heap[k]? = w1.heap[k]?:=fun k hk=>ja (by omega)
  have hsit1:Sit w0 ok0 ⟨NS.round st.n.n ghA ((w.heap.size + 1, .loop { rec .ready none with state:=.busy }) :: hold0), s.fr, s.mem⟩ a1 (w1.putObj (w.heap.size + 1) (.loop { rec .ready none with state:=.busy })):=by
   have hd0:a1.defers = []:=by
    have:=t1.1
    cases hd:a1.defers with
    | nil=>rfl
    | cons d ds=>
     rw [hd] at this
     simp only[Dfs] at this
     rcases this with ⟨h, _⟩ | ⟨t, l', e, _⟩
     ·cases h
     ·cases e
   refine ⟨t0, ⟨?_, fun p hp=>?_⟩, t2.trans ⟨rfl, rfl, rfl, Nat.le_of_eq size_put'.symm, hput⟩, ok3, bs3, t3, t4, t5.put hL1' rfl rfl, t6.map fun _ _ h=>h.congr (vU hL1' rfl rfl)⟩
   ·rw [hd0]; rfl
   ·rw [hd0]
    rcases List.mem_cons.1 hp with rfl | hp
    ·exact ⟨⟨⟨rfl, by simp [marksOf]⟩, by have:=s2.size; simp only; omega⟩, kK hL1'⟩
    ·exact ⟨(hhold p hp).1, by rw [ja (by have:=(hhold p hp).2.1; omega)]; exact hheld p (List.mem_cons_of_mem _ hp)⟩
  refine zaD (zeT (hbody w0 ok0 a1 _ hG hok hsit1)) fun e a2 w2 ⟨s2', hs2', hq2⟩=>?_
  have fin:∀ (jump:Option Code) (mem:List PO), s2'.n = NS.round st.n.n ghA ((w.heap.size + 1, .loop { rec .ready none with state:=.busy }) :: hold0) ->
    (∃ fr', Sit w0 ok0 ⟨s2'.n, fr', mem⟩ a2 w2) -> ∃ W', (Instr.endRound (w.heap.size + 1) jump).run P w2 = .ok (.bool jump.isNone) W' /\
     W'.heap[w.heap.size + 1]? = some (.loop (rec (if jump.isNone then .ready else .done) jump)) /\ G.holds W' /\
     ∃ M' ok', Core [] M' mem W' /\ (∀ x, ok' x -> x < W'.heap.size /\ ¬ M' x /\ (ok0 x ∨ w0.heap.size <= x)) /\ ∀ p ∈ gh, Fits ok' W' p.1 p.2:=fun jump mem hn2 ⟨fr', hs3⟩=>by
   obtain ⟨v0, v1, v2, ok4, bs4, v3, v4, v5, v6⟩:=hs3
   rw [hn2] at v1 v6
   have hL2:=(v1.2 _ (List.mem_cons_self ..)).2
   simp only at hL2
   have hbel:Below w0.heap.size w0 (w2.putObj (w.heap.size + 1) (.loop (rec (if jump.isNone then .ready else .done) jump))):=v2.trans ⟨rfl, rfl, rfl, Nat.le_of_eq size_put'.symm, fun k hk=>ja (by omega)⟩
   refine ⟨w2.putObj (w.heap.size + 1) (.loop (rec (if jump.isNone then .ready else .done) jump)), ?_, kK hL2, G.stable _ _ hG hbel, _, ok4, ⟨hbel, fun p hp=>?_, ok4, bs4, v3, v4, v5.put hL2 rfl rfl, fun p hp=>(v6.2 p (by simp only[ghA, List.mem_append]; exact .inl hp)).congr (vU hL2 rfl rfl), fun x=>Iff.rfl⟩, fun x hx=>⟨by rw [size_put']; exact v5.lt x hx, fun ⟨l, b, o, e1, e2, e0, e3⟩=>(v5.own' l b o x e1 e2 e0 e3).2 hx, v4 x hx⟩, fun p hp=>?_⟩
   ·have:=run_endRound (P:=P) jump hL2
    rw [hrec] at this ⊢
    exact this
   ·rw [ja (by have:=(hhold p hp).2.1; omega)]
    exact (v1.2 p (List.mem_cons_of_mem _ hp)).2
   ·have:=v6.2 (.pub p.1, p.2) (by simp only[ghA, List.mem_append, List.mem_map]; exact .inr ⟨p, hp, rfl⟩)
    simp only[FitsE] at this
    exact this.congr (vU hL2 rfl rfl)
  cases e with
  | normal=>
   obtain ⟨hn2, hV2, hwk⟩:=hq2
   obtain ⟨W', e1, e2, e3, M', ok', e4, e5, e6⟩:=fin none (I (k + 1)) hn2 ⟨_, hwk _ _ _ _ hs2'⟩
   exact ⟨_, W', e1, .inl ⟨true, M', ok', rfl, ⟨⟨hV2, e4⟩, e2⟩, e3, e5, e6⟩⟩
  | ret=>
   obtain ⟨hn2, hq2⟩:=hq2
   obtain ⟨W', e1, e2, e3, M', ok', e4, e5, e6⟩:=fin (some .ret) s2'.mem hn2 ⟨_, hs2'⟩
   exact ⟨_, W', e1, .inl ⟨false, M', ok', rfl, ⟨.ret, s2'.mem, e4, zN hq2, e2⟩, e3, e5, e6⟩⟩
  | exit id=>
   obtain ⟨hn2, hq2⟩:=hq2
   obtain ⟨W', e1, e2, e3, M', ok', e4, e5, e6⟩:=fin (some (.exit id)) s2'.mem hn2 ⟨_, hs2'⟩
   exact ⟨_, W', e1, .inl ⟨false, M', ok', rfl, ⟨.exit id, s2'.mem, e4, qg hq2, e2⟩, e3, e5, e6⟩⟩
  | goto i=>
   obtain ⟨hn2, hq2⟩:=hq2
   obtain ⟨W', e1, e2, e3, M', ok', e4, e5, e6⟩:=fin (some (.goto i)) s2'.mem hn2 ⟨_, hs2'⟩
   exact ⟨_, W', e1, .inl ⟨false, M', ok', rfl, ⟨.goto i, s2'.mem, e4, zlk hq2, e2⟩, e3, e5, e6⟩⟩
  | panic ch=>
   obtain ⟨v, u, hch, hn2, hq2⟩:=hq2
   obtain ⟨v0, v1, v2, ok4, bs4, v3, v4, v5, v6⟩:=hs2'
   rw [hn2] at v1 v6
   have hd2:a2.defers = []:=by
    have:=v1.1
    cases hd:a2.defers with
    | nil=>rfl
    | cons d ds=>
     rw [hd] at this
     simp only[Dfs] at this
     rcases this with ⟨h, _⟩ | ⟨t, l', e, _⟩
     ·cases h
     ·cases e
   refine ⟨hd2, .inr ⟨ch, _, rfl, ⟨v, u, s2'.mem, hch, ⟨v2, fun p hp=>(v1.2 p (List.mem_cons_of_mem _ hp)).2, ok4, bs4, v3, v4, v5, fun p hp=>?_, fun x=>Iff.rfl⟩, hq2⟩, G.stable _ _ hG v2⟩⟩
   refine v6.2 p ?_
   simp only[List.cons_append, List.nil_append, List.mem_cons] at hp ⊢
   rcases hp with hp | hp
   ·exact .inl hp
   ·exact .inr (List.mem_append.2 (.inl hp))
  | outgrown=>exact hq2.elim
 let C:Cx P G:={
  l:=w.heap.size + 1
  qs:=qs
  J:=J
  okS:=fun x=>ok0 x ∨ w0.heap.size <= x
  lt:=fun ph M W h=>by
   cases ph with
   | on k=>exact core_lt _ _ _ _ h.1.2
   | off k=>obtain ⟨c, mem, h1, _⟩:=h; exact core_lt _ _ _ _ h1
   | pan ch=>obtain ⟨v, u, mem, _, h1, _⟩:=h; exact core_lt _ _ _ _ h1
  up:=fun ph M W x h hx=>by
   have hb:Below w0.heap.size w0 W:=by
    cases ph with
    | on k=>exact h.1.2.1
    | off k=>obtain ⟨c, mem, h1, _⟩:=h; exact h1.1
    | pan ch=>obtain ⟨v, u, mem, _, h1, _⟩:=h; exact h1.1
   exact .inr (Nat.le_trans hb.size hx)
  abides:=fun ph M W W' h hb=>by
   cases ph with
   | on k=>exact ⟨⟨h.1.1, core_ab _ _ _ _ _ h.1.2 hb⟩, by rw [hb.block _ (Array.getElem?_eq_some_iff.1 h.2).1]; exact h.2⟩
   | off k=>obtain ⟨c, mem, h1, h2, h3⟩:=h; exact ⟨c, mem, core_ab _ _ _ _ _ h1 hb, h2, by rw [hb.block _ (Array.getElem?_eq_some_iff.1 h3).1]; exact h3⟩
   | pan ch=>obtain ⟨v, u, mem, h0, h1, h2⟩:=h; exact ⟨v, u, mem, h0, core_ab _ _ _ _ _ h1 hb, h2⟩
  round:=hround }
 refine ⟨w.heap.size + 1, [{ target:=.collected w.heap.size, args:=#[] }], W1, { target:=.fn (.func f) vs.toArray, args:=(us ++ [Value.func (.yield (w.heap.size + 1)) #[] #[]]).toArray }, W1, f, (us ++ [Value.func (.yield (w.heap.size + 1)) #[] #[]] ++ vs).toArray, W1, ?_, ?_, fun _ _=>trivial, ?_, fun h=>by simp [FW, Fence.wide] at h, ?_⟩
 ·rw [← hW1, hrec]; exact run_enterLoop_outer _ _ _ _ _
 ·simp only[resolve, ge, Deferred.ofValue, Sem.run_bind, Sem.run_pure, Result.andThen_ok]
  congr 3
  apply Array.toList_inj.1
  simp [Act.eval]
 ·simp only[invoke]
  rw [show (us ++ [Value.func (.yield (w.heap.size + 1)) #[] #[]]).toArray ++ vs.toArray = (us ++ [Value.func (.yield (w.heap.size + 1)) #[] #[]] ++ vs).toArray from by simp]
  exact enter_run hit.1 _ _
 ·have hcore1:Core [] (fun x=>∃ (l:Nat) (b:PB) (o:PO), bs[l]? = some b /\ (I 0)[l]? = some o /\ o.live = true /\ b.blk = some x) (I 0) W1:=by
   rw [hm] at s5 hgh0
   refine ⟨wI s2 s2.size hb1, fun p hp=>(hhold p hp).2.2, okN ok w W1, bs, fun b hb=>.inl (s3 b hb), fun b hb'=>?_, s5.grow hb1, fun p hp=>(hgh0 p hp).grow s5.lt hb1, fun x=>Iff.rfl⟩
   rcases hb' with h | h
   ·exact s4 b h
   ·exact .inr (Nat.le_trans s2.size h.1)
  have hat:C.At (.on 0) W1 ok:=by
   refine ⟨_, ⟨⟨hV0, hcore1⟩, hL1⟩, G.stable _ _ (G.stable _ _ hG s2) hb1, fun x hx=>⟨Nat.lt_of_lt_of_le (s5.lt x hx) hb1.size, fun ⟨l, b, o, e1, e2, e0, e3⟩=>?_, s4 x hx⟩⟩
   rw [← hm] at e2
   exact (s5.own' l b o x e1 e2 e0 e3).2 hx
  have hlow:∀ (l:List AV) (xs:List Value), FitsL ok w l xs -> FitsL ok W1 l xs:=fun l xs h=>h.mono (fun _ hb=>hb) (fun b hb=>hb1.block b (s5.lt b hb))
  refine (hit.2 C W1 ok us vs rfl hat (hlow _ _ hus) (hlow _ _ hvs)).mono fun e W2 hend=>?_
  rcases hend with ⟨v, ph, M, he, hJ, hph⟩ | ⟨ch, M, he, v, u, mem, hch, hc, hq⟩
  ·subst he
   have fin:∀ (mem:List PO) (L:Loop), Core [] M mem W2 -> W2.heap[w.heap.size + 1]? = some (.loop L) -> Sit w0 ok0 ⟨st.n.marked, frl, mem⟩ { a with defers:=[{ target:=.collected w.heap.size, args:=#[] }] ++ a.defers } (W2.putObj (w.heap.size + 1) (.loop { L with state:=.exhausted })):=fun mem L hc hL=>by
    obtain ⟨h1, h2, ok2, bs2, h3, h4, h5, h6, h7⟩:=core_put _ _ _ _ _ (.loop { L with state:=.exhausted }) hc hL rfl rfl
    refine ⟨s0, ⟨?_, fun p hp=>⟨⟨⟨(s1.2 p hp).1.1.1, by
     have hlt:=(Array.getElem?_eq_some_iff.1 (s1.2 p hp).2).1
     simp only[List.cons_append, List.nil_append, marksOf, List.mem_cons, not_or]
     exact ⟨by omega, (s1.2 p hp).1.1.2⟩⟩, (s1.2 p hp).1.2⟩, h2 p (by simp only[hold0, List.mem_cons, List.mem_append]; exact .inr (.inl hp))⟩⟩, h1, ok2, bs2, h3, h4, h5, fun t=>?_, fun p hp=>h6 p (by simp only[gh0, List.mem_append]; exact .inr (.inr hp))⟩
    ·simp only[List.cons_append, List.nil_append, Dfs]
     refine .inl ⟨trivial, w.heap.size, rfl, s2.size, ?_, h2 (w.heap.size, .deferred (some [])) (by simp [hold0]), s1.1.again (fun D hD=>h2 (D, _) (by simp only[hold0, List.mem_cons, List.mem_append, List.mem_map]; exact .inr (.inr ⟨D, hD, rfl⟩))) (Nat.le_refl _)⟩
     have:=(Array.getElem?_eq_some_iff.1 (h2 (w.heap.size, .deferred (some [])) (by simp [hold0]))).1
     exact this
    ·by_cases ht:t < a.tmps.size
     ·exact h6 (jh st.fr live t, a.tmps.getD t undef) (by simp only[gh0, List.mem_append, List.mem_map]; exact .inr (.inl ⟨t, List.mem_range.2 ht, rfl⟩))
     ·have:live.contains t = false:=by
       cases hc:live.contains t with
       | false=>rfl
       | true=>
        rw [List.all_eq_true] at hlv
        have:=hlv t (by simpa using hc)
        simp only[Nat.blt_eq] at this
        omega
      show FitsE _ _ _ _ (jh st.fr live t) _
      rw [xO this]; simp [FitsE, Fits]
   cases ph with
   | on k=>
    rcases hph with hph | ⟨k', hph⟩
    ·injection hph with hph
     subst hph
     obtain ⟨⟨hVn, hc⟩, hL⟩:=hJ
     refine ⟨none, _, run_endLoop hL (by rw [hrec]; simp) ▸ (by rw [hrec]), ⟨_, fin _ _ hc hL, hdone hVn⟩⟩
    ·cases hph
   | off k=>
    obtain ⟨c, mem, hc, hk, hL⟩:=hJ
    refine ⟨some c, _, run_endLoop hL (by rw [hrec]; simp) ▸ (by rw [hrec]), zeT (hk w0 ok0 _ _ hG hok (fin _ _ hc hL))⟩
   | pan ch=>
    rcases hph with hph | ⟨k', hph⟩ <;> cases hph
  ·subst he
   obtain ⟨h1, h2, ok2, bs2, h3, h4, h5, h6, h7⟩:=hc
   refine ⟨⟨st.n.marked.pan v u, frl, mem⟩, ⟨s0, ⟨?_, fun p hp=>⟨⟨⟨(s1.2 p hp).1.1.1, by
    have hlt:=(Array.getElem?_eq_some_iff.1 (s1.2 p hp).2).1
    simp only[List.cons_append, List.nil_append, marksOf, List.mem_cons, not_or]
    exact ⟨by omega, (s1.2 p hp).1.1.2⟩⟩, (s1.2 p hp).1.2⟩, h2 p (by simp only[hold0, List.mem_cons, List.mem_append]; exact .inr (.inl hp))⟩⟩, h1, ok2, bs2, h3, h4, h5, fun t=>?_, fun p hp=>h6 p (by
     simp only[List.cons_append, List.nil_append, List.mem_cons] at hp ⊢
     rcases hp with hp | hp
     ·exact .inl hp
     ·exact .inr (by simp only[gh0, List.mem_append]; exact .inr hp))⟩, hq⟩
   ·simp only[List.cons_append, List.nil_append, Dfs]
    refine .inl ⟨trivial, w.heap.size, rfl, s2.size, ?_, h2 (w.heap.size, .deferred (some [])) (by simp [hold0]), s1.1.again (fun D hD=>h2 (D, _) (by simp only[hold0, List.mem_cons, List.mem_append, List.mem_map]; exact .inr (.inr ⟨D, hD, rfl⟩))) (Nat.le_refl _)⟩
    have:=(Array.getElem?_eq_some_iff.1 (h2 (w.heap.size, .deferred (some [])) (by simp [hold0]))).1
    exact this
   ·by_cases ht:t < a.tmps.size
    ·exact h6 (jh st.fr live t, a.tmps.getD t undef) (by simp only[List.cons_append, List.nil_append, List.mem_cons, gh0, List.mem_append, List.mem_map]; exact .inr (.inl ⟨t, List.mem_range.2 ht, rfl⟩))
    ·have:live.contains t = false:=by
      cases hc:live.contains t with
      | false=>rfl
      | true=>
       rw [List.all_eq_true] at hlv
       have:=hlv t (by simpa using hc)
       simp only[Nat.blt_eq] at this
       omega
     show FitsE _ _ _ _ (jh st.fr live t) _
     rw [xO this]; simp [FitsE, Fits]
end
end Go.Av.Pn
end
section
namespace Go.Av.Pn
open Go.Av Go.RowKit
section
variable {P:Program} {G:Glob}
theorem zkR {f:FuncId} {fn:Func} {c:Code} {args:List EV} {mem:List PO} {out:MOut} (hf:P.funcs[f]? = some fn) (hb:fn.body = some c) (hnm:(fn.name == "runtime.NumGoroutine") = false) (hlen':Nat.ble args.length fn.ntmps = true)
  (h:∀ gh hold, yM (· = f) P G c ⟨⟨fn.ntmps, [], gh, false, hold⟩, frE args, mem⟩ (zp5 P fn gh hold mem.length out)):zeq P G f args mem out:=by
 have hlen:=zLb hlen'
 refine ⟨⟨fn, hf, hnm, by simp [hb]⟩, fun w0 ok0 ok bs w vs gh hold hG hok ⟨o1, o2, o3, o4, o5, o6⟩ hfit=>callsIn_wide.1 (zeG (n:=0) hf hb trivial ?_)⟩
 have hl:=hfit.length
 refine zaD (h gh hold w0 ok0 _ w hG hok ?_) fun e a' w' ⟨st, hs, hq⟩=>?_
 ·refine ⟨by simp [hl]; omega, ⟨rfl, fun p hp=>⟨⟨⟨(o6 p hp).1.1, by simp [marksOf]⟩, (o6 p hp).1.2⟩, (o6 p hp).2⟩⟩, o1, ok, bs, o2, o3, o4, fun t=>?_, o5⟩
  show FitsE ok w bs mem (match args[t]? with | some x=>x | none=>.pub .top) _
  by_cases ht:t < args.length
  ·rw [List.getElem?_eq_getElem ht]
   obtain ⟨u, h1, h2⟩:=hfit.get (List.getElem?_eq_getElem ht)
   have h3:t < vs.length:=(zLg h1).1
   have h4:vs[t] = u:=(zLg h1).2
   simp only[Array.getD_eq_getD_getElem?]
   rw [Array.getElem?_append_left (by simpa using h3)]
   simp [h3, h4, h2]
  ·rw [List.getElem?_eq_none (by omega)]
   simp [FitsE, Fits]
 ·obtain ⟨⟨more, hmore⟩, hmk, hk0, hdf, hgh, hho, hout⟩:=hq
  obtain ⟨h0, h1, h2, ok', bs', h3, h4, h5, h6⟩:=hs
  have h1m:=h1.1
  rw [hdf] at h1m
  have hlen5:=h5.len
  -- behind the marks, and without what lies behind
  have cut:∀ (w2:World) (X:List (EV × Value)), MK w0 w' w2 -> (∀ k, k ∉ marksOf a'.defers -> w2.heap[k]? = w'.heap[k]?) -> (∀ p ∈ X, FitsE ok' w2 bs' st.mem p.1 p.2) -> (∀ p ∈ X, p.1.lt out.mem.length) ->
    ∃ okx bs2, Own w0 ok0 out.mem gh hold okx bs2 w2 /\ ∀ p ∈ X, FitsE okx w2 bs2 out.mem p.1 p.2:=fun w2 X hw2 hkk hX hXl=>by
   have htk:st.mem.take out.mem.length = out.mem:=by rw [hmore]; simp
   have hghl:∀ p ∈ gh, p.1.lt out.mem.length:=fun p hp=>EV.lt_mono hk0 (by have:=zcZ (o5 p hp); rwa [o4.len] at this)
   have hsit:Sit w0 ok0 ⟨⟨a'.tmps.size, [], X ++ gh, st.n.mks, []⟩, fun _=>.pub .top, st.mem⟩ { a' with defers:=[] } w2:=by
    refine ⟨rfl, ⟨rfl, fun p hp=>by cases hp⟩, h2.trans hw2.below, ok', bs', h3, h4, h5.marked hw2, fun t=>by simp [FitsE, Fits], fun p hp=>?_⟩
    rcases List.mem_append.1 hp with hp | hp
    ·exact hX p hp
    ·exact (h6.2 p (hgh p hp)).congr hw2.cell
   have hw:=zc6 (n:=⟨a'.tmps.size, [], X ++ gh, st.n.mks, []⟩) (fr:=fun _=>.pub .top) (mem:=st.mem) out.mem.length (fun t=>by simp [EV.lt]) (fun l rows hl hr r hrr x hx=>by
     have:=yA hmk (i:=l) (o:=.row rows) (by rw [← htk, List.getElem?_take, if_pos hl]; exact hr)
     exact this r hrr x hx) (fun p hp=>by
     rcases List.mem_append.1 hp with hp | hp
     ·exact hXl p hp
     ·exact hghl p hp) (fun l es hl hes=>yA hmk (i:=l) (o:=.map es) (by rw [← htk, List.getElem?_take, if_pos hl]; exact hes))
   obtain ⟨_, _, t2, okx, bsx, t3, t4, t5, t6⟩:=hw w0 ok0 _ w2 hsit
   simp only[htk] at t5 t6
   refine ⟨okx, bsx, ⟨t2, t3, t4, t5, fun p hp=>t6.2 p (List.mem_append_right _ hp), fun p hp=>?_⟩, fun p hp=>t6.2 p (List.mem_append_left _ hp)⟩
   obtain ⟨k1, k2⟩:=h1.2 p (hho p hp)
   exact ⟨⟨k1.1.1, k1.2⟩, by rw [hkk _ k1.1.2]; exact k2⟩
  cases out with
  | ret r m=>
   obtain ⟨he, hrl, hret⟩:=hout
   have hlv:LeavesInM Fence.wide 0 P fn a'.tmps (fun e w'=>∃ ok' bs', Own w0 ok0 m gh hold ok' bs' w' /\ ∃ u, e = .returned u /\ FitsE ok' w' bs' m r u) a'.defers .returning w':=zau h1m fun w2 hw2 hkk=>by
    obtain ⟨u, hu1, hu2⟩:=zeu (P:=P) (st:=st) (h5.marked hw2) (tm:=a'.tmps) (fun t=>(h6.1 t).congr hw2.cell) hret
    obtain ⟨okx, bsx, hown, hX⟩:=cut w2 [(r, u)] hw2 hkk (fun p hp=>by rw [List.mem_singleton] at hp; subst hp; exact hu2) (fun p hp=>by rw [List.mem_singleton] at hp; subst hp; exact hrl)
    exact ⟨u, hu1, okx, bsx, hown, u, rfl, hX _ (List.mem_singleton_self _)⟩
   rcases he with rfl | rfl
   ·exact hlv
   ·exact hlv
  | pan v m=>
   obtain ⟨u, v', rfl, hu, hv⟩:=hout
   refine xE h1m fun w2 hw2 hkk=>?_
   obtain ⟨okx, bsx, hown, hX⟩:=cut w2 [(.pub v', u)] hw2 hkk (fun p hp=>by
    rw [List.mem_singleton] at hp; subst hp; exact (h6.2 _ hu).congr hw2.cell) (fun p hp=>by rw [List.mem_singleton] at hp; subst hp; simp [EV.lt])
   have:=hX _ (List.mem_singleton_self _)
   simp only[FitsE] at this
   exact ⟨okx, bsx, hown, u, rfl, hv _ _ _ this⟩theorem zaj {C:Cx P G} {c:Code} {ph:Ph} {st st':ASt} {Q:Exit -> Ph -> ASt -> Prop} (hw:Weak st st') (h:qW C c ph st' Q):qW C c ph st Q:=fun w0 ok0 a w hc hs=>h w0 ok0 a w hc (hw w0 ok0 a w hs)
end
section
variable {P:Program} {G:Glob}
theorem zgg {f0:FuncId} {F0:Func} (hf0:P.funcs[f0]? = some F0) {α:Type} {st:ASt} {Q:Exit -> ASt -> Prop} {g:Operand} {ps:Array Tmp} {asg bo:Code} {f:FuncId} {fs cs:List AV} (xs:List α) (qf:α -> List AV) (live:List Tmp) (V:Nat -> Prop) (I:Nat -> List PO) (hV0:V 0)
  (hg:evO st.fr g = .pub (.fn f fs cs)) (hit:zcM P G f fs cs (xs.map qf)) (hm:st.mem = I 0) (hlen:∀ x, (qf x).length = ps.size) (hpd:(ps.toList.all fun t=>Nat.blt t st.n.n) = true) (hlv:(live.all fun t=>Nat.blt t st.n.n) = true)
  (round:∀ (k:Nat) (x:α) (gh:List (EV × Value)) (l:Nat) (h1 h2:List (Nat × Obj)), xs[k]? = some x -> V k ->
   jl (r:=some l) P G asg ⟨NS.round st.n.n gh h1, zb8 (jh st.fr live) ps.toList (qf x), I k⟩ (fun e s=>e = .normal /\ s.n = NS.round st.n.n gh h1 /\
    jl (r:=some l) P G bo ⟨NS.round st.n.n gh h2, s.fr, s.mem⟩ (zlV st.n.marked (NS.round st.n.n gh h2) (jh st.fr live) (V (k + 1)) (I (k + 1)) Q)))
  (hdone:V xs.length -> Q .normal ⟨st.n.marked, jh st.fr live, I xs.length⟩):yM (· = f0) P G (.rangeFunc g ps asg bo) st Q:=by
 refine zgB hf0 (qs:=xs.map qf) live V I hV0 hg hit hm ?_ hpd hlv ?_ ?_
 ·intro q hq
  obtain ⟨x, _, rfl⟩:=List.mem_map.1 hq
  exact hlen x
 ·intro k q gh l h1 h2 hq hV
  rw [List.getElem?_map] at hq
  cases hx:xs[k]? with
  | none=>rw [hx] at hq; cases hq
  | some x=>
   rw [hx] at hq
   simp only[Option.map_some, zLs] at hq
   subst hq
   exact round k x gh l h1 h2 hx hV
 ·intro h
  have:=hdone (by simpa using h)
  simpa using this
end
end Go.Av.Pn
end
