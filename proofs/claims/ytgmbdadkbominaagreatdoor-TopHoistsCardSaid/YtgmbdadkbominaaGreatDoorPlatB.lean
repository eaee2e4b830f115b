import Derived.Test.YtgmbdadkbominaaGreatDoorPlatA
set_option linter.unusedVariables false
set_option linter.unusedSimpArgs false
section
namespace Go.Av
open Go.RowKit
def Enters (P:Program) (f:FuncId):Prop:=∃ fn, P.funcs[f]? = some fn /\ (fn.name == "runtime.NumGoroutine") = false /\ fn.body.isNone = false
def ACall (P:Program) (G:Glob) (f:FuncId) (args:List AV) (r:AV):Prop:=
 Enters P f /\ ∀ (ok:Nat -> Prop) (w:World) (vs:List Value), G.holds w -> (∀ b, ok b -> b < w.heap.size) -> FitsL ok w args vs ->
  Calls P f vs.toArray w (fun e w'=>∃ u, e = .returned u /\ Below w.heap.size w w' /\ Fits (okN ok w w') w' r u)
def AVle (x y:AV):Prop:=∀ (ok:Nat -> Prop) (w:World) (u:Value), Fits ok w x u -> Fits ok w y u
theorem AVle.refl (x:AV):AVle x x:=fun _ _ _ h=>h
theorem AVle.of {x y:AV} (h:x = y):AVle x y:=h ▸ AVle.refl x
theorem AVle.top (x:AV):AVle x .top:=fun _ _ _ _=>by simp only[Fits]
theorem AVle.nil:AVle (.v (.slice none 0 0)) (.sl []):=fun ok w u h=>by
 simp only[Fits] at h ⊢
 exact ⟨none, 0, 0, h.1, by simp, by simp [maxLen], by simp, by simp⟩
def zbA (mem:List PO):EV -> AV -> Prop
 | .pub x, y=>AVle x y
 | .psl l n, y=>∃ rows:List (List AV), mem[l]? = some (.row (rows.map (·.map .pub))) /\ rows.length = n /\ y = .sl rows
 | .pp _ _ _ _, _=>False
 | .fnm .., y=>y = .top
 | .mpv _, y=>y = .top
 | .tpl _, y=>y = .top
 | .mix cs, y=>∃ ys:List AV, y = .agg ys /\ ys.length = cs.length /\ ∀ (i:Nat) (c:EV) (z:AV), cs[i]? = some c -> ys[i]? = some z ->
   ((∃ z0, c = .pub z0 /\ AVle z0 z) ∨ (∃ (l n:Nat) (rows:List (List AV)), c = .psl l n /\ mem[l]? = some (.row (rows.map (·.map .pub))) /\ rows.length = n /\ z = .sl rows) ∨ z = .top)
section
variable {ok ok':Nat -> Prop} {w:World} {bs:List PB} {mem:List PO}
theorem zjD {n:Nat} (hmo:MemOK n ok w bs mem) (hk:∀ b, ok b -> ok' b) (hp:∀ b, n <= b -> b < w.heap.size -> ok' b) {l k:Nat} {rows:List (List AV)} {u:Value} (h:FitsE ok w bs mem (.psl l k) u)
  (hm:mem[l]? = some (.row (rows.map (·.map .pub)))) (hn:rows.length = k):Fits ok' w (.sl rows) u:=by
 simp only[FitsE] at h
 obtain ⟨b, hb, h⟩:=h
 have e:=(h _ hm).2 (by simpa using hn)
 have hr:=hmo.row l b _ hb hm
 simp only[Fits]
 cases hg:b.blk with
 | none=>
  have h0:=hr.nil hg
  have h1:rows = []:=by simpa using h0
  subst h1
  simp only[PB.sl, hg] at e
  subst e
  exact ⟨none, 0, 0, rfl, by simp, by simp [maxLen], by simp, by simp⟩
 | some g=>
  obtain ⟨cur, hc, h1, h2, h3, h4⟩:=hr.blk g hg
  simp only[PB.sl, hg] at e
  subst e
  have hsz:∀ r ∈ rows, r.length = b.size:=fun r hr'=>by
   have:=hr.size (r.map .pub) (List.mem_map_of_mem hr')
   simpa using this
  refine ⟨_, b.cap, b.size, by rw [hn], by simpa using h2, h3, hsz, fun _=>⟨g, 0, rfl, hp g (hmo.own l b _ g hb hm hg).1 (hmo.own_lt hb hm hg), FitsR.of_get hsz fun i r hri=>FitsC.of_get fun j x hx=>?_⟩⟩
  obtain ⟨u, h5, h6, h7⟩:=h4 i j (r.map .pub) (.pub x) (by simp [hri]) (by simp [hx])
  refine ⟨u, ?_, h6, ?_⟩
  ·rw [cell_of_row w g _ cur _ _ hc]
   simpa using h5
  ·simp only[FitsE] at h7
   exact h7.mono hk (fun _ _=>rfl)
theorem ze1 {n:Nat} (hmo:MemOK n ok w bs mem) (hk:∀ b, ok b -> ok' b) (hp:∀ b, n <= b -> b < w.heap.size -> ok' b) {e:EV} {x:AV} {u:Value} (h:FitsE ok w bs mem e u) (hv:zbA mem e x):Fits ok' w x u:=by
 cases e with
 | pub y=>
  simp only[zbA] at hv
  simp only[FitsE] at h
  exact hv _ _ _ (h.mono hk (fun _ _=>rfl))
 | psl l k=>
  obtain ⟨rows, hm, hn, rfl⟩:=hv
  exact zjD hmo hk hp h hm hn
 | pp l k i j=>exact hv.elim
 | fnm f fs cs=>simp only[zbA] at hv; subst hv; simp only[Fits]
 | mpv l=>simp only[zbA] at hv; subst hv; simp only[Fits]
 | tpl cs=>simp only[zbA] at hv; subst hv; simp only[Fits]
 | mix cs=>
  obtain ⟨ys, rfl, hl, hz⟩:=hv
  simp only[FitsE] at h
  obtain ⟨vs, rfl, h1, h2⟩:=h
  simp only[Fits]
  refine ⟨vs, rfl, h1, FitsL.of_get (by rw [h2.length, hl]) fun i y v hy hv=>?_⟩
  have hi:i < cs.length:=by have:=(zLg hy).1; omega
  obtain ⟨v', hv', hf⟩:=h2.get (List.getElem?_eq_getElem hi)
  rw [hv] at hv'
  injection hv' with hv'
  subst hv'
  rcases hz i cs[i] y (List.getElem?_eq_getElem hi) hy with ⟨z0, hc, hle⟩ | ⟨l, k, rows, hc, hm, hn, rfl⟩ | rfl
  ·rw [hc] at hf
   simp only[FitsE] at hf
   exact hle _ _ _ (hf.mono hk (fun _ _=>rfl))
  ·rw [hc] at hf
   exact zjD hmo hk hp hf hm hn
  ·simp only[Fits]
end
def AV.flat:AV -> Bool
 | .v _=>true
 | .top=>true
 | .tup l=>l.all fun | .v _=>true | .top=>true | _=>false
 | .agg l=>l.all fun | .v _=>true | .top=>true | _=>false
 | _=>false
section
variable {ok ok':Nat -> Prop} {w w':World}
theorem zpo:∀ {l:List AV} {us:List Value}, (l.all fun | .v _=>true | .top=>true | _=>false) = true -> FitsL ok w l us -> FitsL ok' w' l us
 | [], us, _, h=>by simpa only [FitsL] using h
 | x :: xs, us, hf, h=>by
  simp only[List.all_cons, zLa] at hf
  simp only[FitsL] at h ⊢
  obtain ⟨u, us', e, h1, h2⟩:=h
  refine ⟨u, us', e, ?_, zpo hf.2 h2⟩
  cases x with
  | v x=>simpa only [Fits] using h1
  | top=>simp only[Fits]
  | _=>exact absurd hf.1 (by simp)
theorem zmC {x:AV} {u:Value} (hf:x.flat = true) (h:Fits ok w x u):Fits ok' w' x u:=by
 cases x with
 | v x=>simpa only [Fits] using h
 | top=>simp only[Fits]
 | tup l=>
  simp only[Fits] at h ⊢
  obtain ⟨vs, e, h⟩:=h
  exact ⟨vs, e, zpo hf h⟩
 | agg l=>
  simp only[Fits] at h ⊢
  obtain ⟨vs, e, h1, h⟩:=h
  exact ⟨vs, e, h1, zpo hf h⟩
 | _=>exact absurd hf (by simp [AV.flat])
end
section
variable {P:Program} {G:Glob} {fr:Nat -> EV} {mem:List PO} {o:Oper}
theorem enter_run {f:FuncId} (he:Enters P f) (args:Array Value) (w:World):(callFunc f args).run P w = .ok (.enter f args) w:=by
 obtain ⟨fn, h1, h2, h3⟩:=he
 have h2':¬ fn.name = "runtime.NumGoroutine":=by simpa using h2
 have h3':¬ fn.body = none:=fun e=>by simp [e] at h3
 unfold callFunc
 simp [h1, h2', h3']
theorem call_exec {fop:Operand} {args:Array Operand} {tys:Array TypeId} {f:FuncId} {us vs:List Value} (ho:o.op = .call { callee:=.value fop, args:=args, argTypes:=tys }) (he:Enters P f) {a:Act} {w:World}
  (hf:a.eval fop = .func (.func f) us.toArray vs.toArray):(execOp a.eval o).run P w = .ok (.enter f (us ++ args.toList.map a.eval ++ vs).toArray) w:=by
 simp only[execOp, ho, resolve, hf, Deferred.ofValue, invoke, Sem.run_bind, Sem.run_pure, Result.andThen_ok, enter_run he]
 congr 2
 apply Array.toList_inj.1
 simp
theorem zok {fop:Operand} {args:Array Operand} {tys:Array TypeId} {f:FuncId} {fs cs av:List AV} {r:AV} (ho:o.op = .call { callee:=.value fop, args:=args, argTypes:=tys }) (hf:evO fr fop = .pub (.fn f fs cs))
  (ha:args.toList.map (evO fr) = av.map .pub) (hc:ACall P G f (fs ++ av ++ cs) r):OpY P G fr mem o (.pub r):=by
 intro n ok bs w a hG hn hm hfit K Q hK
 have h1:=hfit fop (by simp [ho, Op.operands, Call.operands])
 rw [hf] at h1
 simp only[FitsE, Fits] at h1
 obtain ⟨us, vs, e, h2, h3⟩:=h1
 have h4:FitsL ok w av (args.toList.map a.eval):=by
  have key:∀ (l:List Operand) (xs:List AV), (∀ y ∈ l, y ∈ o.op.operands) -> l.map (evO fr) = xs.map .pub -> FitsL ok w xs (l.map a.eval):=by
   intro l
   induction l with
   | nil=>intro xs _ h; cases xs with
    | nil=>simp [FitsL]
    | cons=>simp at h
   | cons y l ih=>intro xs hm h; cases xs with
    | nil=>simp at h
    | cons x xs=>
     simp only[List.map_cons, List.cons.injEq] at h
     simp only[List.map_cons, FitsL]
     have:=hfit y (hm y (by simp))
     rw [h.1] at this
     exact ⟨_, _, rfl, by simpa only [FitsE] using this, ih xs (fun z hz=>hm z (by simp [hz])) h.2⟩
  exact key _ _ (fun y hy=>by simp only[ho, Op.operands, Call.operands, Array.mem_append]; exact .inr (by simpa using hy)) ha
 unfold Oper.wp
 rw [call_exec ho hc.1 e]
 simp only[Oper.upon]
 refine (hc.2 ok w _ hG hm.lt ((h2.append h4).append h3)).mono fun en w' ⟨u, h5, h6, h7⟩=>?_
 subst h5
 exact hK u w' h6 (by simpa only [FitsE] using h7)
theorem zqQ {fop:Operand} {args:Array Operand} {tys:Array TypeId} {f:FuncId} {fs cs av:List AV} {r:AV} (ho:o.op = .call { callee:=.value fop, args:=args, argTypes:=tys }) (hf:evO fr fop = .pub (.fn f fs cs))
  (hl:av.length = args.size) (ha:∀ (i:Nat) (y:Operand) (x:AV), args[i]? = some y -> av[i]? = some x -> zbA mem (evO fr y) x) (hr:r.flat = true) (hc:ACall P G f (fs ++ av ++ cs) r):OpY P G fr mem o (.pub r):=by
 intro n ok bs w a hG hn hm hfit K Q hK
 have h1:=hfit fop (by simp [ho, Op.operands, Call.operands])
 rw [hf] at h1
 simp only[FitsE, Fits] at h1
 obtain ⟨us, vs, e, h2, h3⟩:=h1
 have h4:FitsL (fun b=>b < w.heap.size) w av (args.toList.map a.eval):=FitsL.of_get (by simp [hl]) fun i x u hx hu=>by
  have hi:i < args.size:=by have:=(zLg hx).1; omega
  have hy:args[i]? = some args[i]:=Array.getElem?_eq_getElem hi
  have hv:=ha i args[i] x hy hx
  have hu':u = a.eval args[i]:=by
   simp [hi] at hu
   exact hu.symm
  rw [hu']
  exact ze1 hm (fun b hb=>hm.lt b hb) (fun b _ hb=>hb) (hfit _ (by simp only[ho, Op.operands, Call.operands, Array.mem_append]; exact .inr (Array.getElem_mem hi))) hv
 unfold Oper.wp
 rw [call_exec ho hc.1 e]
 simp only[Oper.upon]
 have m1:FitsL (fun b=>b < w.heap.size) w fs us:=FitsL.mono (fun b hb=>hm.lt b hb) (fun _ _=>rfl) _ _ h2
 have m3:FitsL (fun b=>b < w.heap.size) w cs vs:=FitsL.mono (fun b hb=>hm.lt b hb) (fun _ _=>rfl) _ _ h3
 refine (hc.2 _ w _ hG (fun b hb=>hb) ((m1.append h4).append m3)).mono fun en w' ⟨u, h5, h6, h7⟩=>?_
 subst h5
 refine hK u w' h6 ?_
 simp only[FitsE]
 exact zmC hr h7
def zjt (fr:Nat -> EV):List Operand -> List AV -> Prop
 | [], []=>True
 | x :: xs, c :: cs=>evO fr x = .pub c /\ zjt fr xs cs
 | _, _=>False
theorem zcg {fr:Nat -> EV}:∀ {l:List Operand} {cs:List AV}, zjt fr l cs -> l.map (evO fr) = cs.map .pub
 | [], [], _=>rfl
 | x :: xs, c :: cs, h=>by simp only[List.map_cons]; rw [h.1, zcg h.2]
 | [], _ :: _, h=>h.elim
 | _ :: _, [], h=>h.elim
def zlM (mem:List PO) (fr:Nat -> EV):List Operand -> List AV -> Prop
 | [], []=>True
 | x :: xs, c :: cs=>zbA mem (evO fr x) c /\ zlM mem fr xs cs
 | _, _=>False
theorem xA {mem:List PO} {fr:Nat -> EV}:∀ {l:List Operand} {cs:List AV}, zlM mem fr l cs -> cs.length = l.length /\ ∀ (i:Nat) (y:Operand) (x:AV), l[i]? = some y -> cs[i]? = some x -> zbA mem (evO fr y) x
 | [], [], _=>⟨rfl, by simp⟩
 | x :: xs, c :: cs, h=>⟨by simp [(xA h.2).1], fun i y z hy hz=>by
   cases i with
   | zero=>simp at hy hz; subst hy; subst hz; exact h.1
   | succ i=>exact (xA h.2).2 i y z (by simpa using hy) (by simpa using hz)⟩
 | [], _ :: _, h=>h.elim
 | _ :: _, [], h=>h.elim
theorem zB {args:Array Operand} {tys:Array TypeId} {f:FuncId} {av:List AV} {r:AV} (ho:o.op = .call { callee:=.value (.func f), args:=args, argTypes:=tys })
  (ha:zjt fr args.toList av) (hc:ACall P G f av r):OpY P G fr mem o (.pub r):=zok ho rfl (zcg ha) (by simpa using hc)
theorem znr {args:Array Operand} {tys:Array TypeId} {f:FuncId} {av:List AV} {r:AV} (ho:o.op = .call { callee:=.value (.func f), args:=args, argTypes:=tys })
  (ha:zlM mem fr args.toList av) (hr:r.flat = true) (hc:ACall P G f av r):OpY P G fr mem o (.pub r):=
 zqQ ho rfl (by simpa using (xA ha).1) (fun i y x hy hx=>(xA ha).2 i y x (by simpa using hy) hx) hr (by simpa using hc)
theorem vH {fop:Operand} {args:Array Operand} {tys:Array TypeId} {f:FuncId} {fs cs av:List AV} {r:AV} (ho:o.op = .call { callee:=.value fop, args:=args, argTypes:=tys }) (hf:evO fr fop = .pub (.fn f fs cs))
  (ha:zjt fr args.toList av) (hc:ACall P G f (fs ++ av ++ cs) r):OpY P G fr mem o (.pub r):=zok ho hf (zcg ha) hc
def znH (P:Program) (mem:List PO) (T:TypeId):EV -> EV -> Prop
 | .pub (.ptr cs), e=>(tyIs P T false 1 = true /\ ∃ c, cs[0]? = some c /\ e = .pub c) ∨ ∃ size, tyIs P T true size = true /\ size <= cs.length /\ e = .pub (.agg (cs.take size))
 | .pp l n i j, e=>∃ rows r, mem[l]? = some (.row rows) /\ rows.length = n /\ rows[i]? = some r /\
   ((tyIs P T false 1 = true /\ r[j]? = some e) ∨ ∃ size, tyIs P T true size = true /\ j + size <= r.length /\ e = .mix ((r.drop j).take size))
 | _, _=>False
theorem zlK {ok:Nat -> Prop} {w:World} {bs:List PB} {n:Nat} (hmo:MemOK n ok w bs mem) {T:TypeId} {p e:EV} {u:Value} (h:FitsE ok w bs mem p u) (hl:znH P mem T p e):
  ∃ ad v, u = .pointer (some ad) /\ (loadVar T ad).run P w = .ok v w /\ FitsE ok w bs mem e v:=by
 cases p with
 | pub x=>
  cases x with
  | ptr cs=>
   simp only[FitsE, Fits] at h
   obtain ⟨b, off, rfl, hb, hc⟩:=h
   rcases hl with ⟨ht, c, h0, rfl⟩ | ⟨size, ht, hs, rfl⟩
   ·obtain ⟨u, h1, h2, h3⟩:=hc.get h0
    have h1':w.cell? ⟨b, off, none⟩ = some u:=h1
    exact ⟨_, u, rfl, by simp [loadVar, isAgg_of ht, h1'], by simpa only [FitsE] using h3⟩
   ·obtain ⟨us, h1, h2, h3, h4⟩:=zhD (hc.take size)
    have hlen:us.length = size:=by rw [h1, List.length_take]; omega
    exact ⟨_, _, rfl, run_load_agg ht us hlen h4, by simp only[FitsE, Fits]; exact ⟨us, rfl, h2, h3⟩⟩
  | _=>exact hl.elim
 | pp l k i j=>
  obtain ⟨rows, r, hm, hn, hr, hl⟩:=hl
  simp only[FitsE] at h
  obtain ⟨b, hb, h⟩:=h
  obtain ⟨g, hg, rfl⟩:=(h rows hm).2 hn
  rcases hl with ⟨ht, h0⟩ | ⟨size, ht, hs, rfl⟩
  ·obtain ⟨u, h1, h2, h3⟩:=zf9 hmo hb hm hg hr h0
   exact ⟨_, u, rfl, by simp [loadVar, isAgg_of ht, h1], h3⟩
  ·obtain ⟨us, h1, h2, h3, h4⟩:=zcB hmo hb hm hg hr size j hs
   exact ⟨_, _, rfl, run_load_agg ht us h1 h4, by simp only[FitsE]; exact ⟨us, rfl, h2, h3⟩⟩
 | _=>exact hl.elim
def zkB (P:Program) (st:ASt):ResultVar -> AV -> Prop
 | .tmp t, x=>zbA st.mem (st.fr t) x
 | .cell p T, x=>∃ e, znH P st.mem T (st.fr p) e /\ zbA st.mem e x
def zhU (P:Program) (st:ASt):List ResultVar -> List AV -> Prop
 | [], xs=>xs = []
 | v :: vs, xs=>∃ x xs', xs = x :: xs' /\ zkB P st v x /\ zhU P st vs xs'
def RetE (P:Program) (fn:Func) (st:ASt) (r:AV):Prop:=match st.n.dfs with
 | []=>match fn.results.toList with
  | [v]=>zkB P st v r
  | vs=>∃ xs, r = .tup xs /\ zhU P st vs xs
 | _=>False
theorem RetE.nil {P:Program} {fn:Func} {st:ASt} {r:AV} (h:RetE P fn st r):st.n.dfs = []:=by
 unfold RetE at h; split at h
 ·assumption
 ·exact h.elim
theorem RetE.get {P:Program} {fn:Func} {st:ASt} {r:AV} (h:RetE P fn st r):match fn.results.toList with
  | [v]=>zkB P st v r
  | vs=>∃ xs, r = .tup xs /\ zhU P st vs xs:=by
 have:=h.nil
 unfold RetE at h
 rw [this] at h
 exact h
def zmR (args:List AV):Nat -> EV:=fun t=>match args[t]? with
 | some x=>.pub x
 | none=>.pub .top
end
end Go.Av
end
section
namespace Go.Av
open Go.RowKit
section
variable {P:Program} {G:Glob}
def resSem (tm:Array Value):ResultVar -> Sem Value
 | .tmp t=>pure (tm.getD t undef)
 | .cell a t=>do loadVar t (← asAddr (tm.getD a undef))
theorem results_eq (fn:Func) (tm:Array Value):results fn tm = (do
  let vs ← fn.results.mapM (resSem tm)
  pure (if h:vs.size = 1 then vs[0] else .tuple vs):Sem Value):=by
 unfold results
 congr 1
theorem ziU {w:World} {ok:Nat -> Prop} {bs:List PB} {n:Nat} {st:ASt} {ok':Nat -> Prop} (hmo:MemOK n ok w bs st.mem) (hk:∀ b, ok b -> ok' b) (hp:∀ b, n <= b -> b < w.heap.size -> ok' b)
  {tm:Array Value} (hf:∀ t, FitsE ok w bs st.mem (st.fr t) (tm.getD t undef)) {v:ResultVar} {x:AV} (h:zkB P st v x):
  ∃ u, (resSem tm v).run P w = .ok u w /\ Fits ok' w x u:=by
 cases v with
 | tmp t=>exact ⟨_, rfl, ze1 hmo hk hp (hf t) h⟩
 | cell p T=>
  obtain ⟨e, hl, hv⟩:=h
  obtain ⟨ad, v, h1, h2, h3⟩:=zlK hmo (hf p) hl
  exact ⟨v, by simp only[resSem, h1, asAddr, Sem.run_bind, Sem.run_pure, Result.andThen_ok, h2], ze1 hmo hk hp h3 hv⟩
theorem zjm {w:World} {ok:Nat -> Prop} {bs:List PB} {n:Nat} {st:ASt} {ok':Nat -> Prop} (hmo:MemOK n ok w bs st.mem) (hk:∀ b, ok b -> ok' b) (hp:∀ b, n <= b -> b < w.heap.size -> ok' b)
  {tm:Array Value} (hf:∀ t, FitsE ok w bs st.mem (st.fr t) (tm.getD t undef)):∀ {vs:List ResultVar} {xs:List AV}, zhU P st vs xs ->
  ∃ us:List Value, (vs.mapM (resSem tm)).run P w = .ok us w /\ FitsL ok' w xs us
 | [], xs, h=>by
  simp only[zhU] at h
  subst h
  exact ⟨[], by simp, by simp [FitsL]⟩
 | v :: vs, xs, h=>by
  simp only[zhU] at h
  obtain ⟨x, xs', rfl, h1, h2⟩:=h
  obtain ⟨u, h3, h4⟩:=ziU hmo hk hp hf h1
  obtain ⟨us, h5, h6⟩:=zjm hmo hk hp hf h2
  refine ⟨u :: us, ?_, by simp only[FitsL]; exact ⟨u, us, rfl, h4, h6⟩⟩
  rw [List.mapM_cons]
  simp only[Sem.run_bind, Sem.run_pure, h3, Result.andThen_ok, h5]
theorem zcT {fn:Func} {w:World} {ok:Nat -> Prop} {bs:List PB} {n:Nat} {st:ASt} {ok':Nat -> Prop} (hmo:MemOK n ok w bs st.mem) (hk:∀ b, ok b -> ok' b) (hp:∀ b, n <= b -> b < w.heap.size -> ok' b)
  {tm:Array Value} (hf:∀ t, FitsE ok w bs st.mem (st.fr t) (tm.getD t undef)) {r:AV} (h:RetE P fn st r):∃ u, (results fn tm).run P w = .ok u w /\ Fits ok' w r u:=by
 have e:∀ vs:List Value, (fn.results.toList.mapM (resSem tm)).run P w = .ok vs w ->
   (results fn tm).run P w = .ok (if h:vs.toArray.size = 1 then vs.toArray[0] else .tuple vs.toArray) w:=by
  intro vs hv
  rw [results_eq, Array.mapM_eq_mapM_toList]
  simp only[Sem.run_bind, Sem.run_map]
  rw [hv]
  simp
 have h:=h.get
 split at h
 ·rename_i v hv
  obtain ⟨u, h1, h2⟩:=ziU hmo hk hp hf h
  refine ⟨u, ?_, h2⟩
  have:=e [u] (by
   rw [hv, List.mapM_cons]
   simp only[Sem.run_bind]
   rw [h1]
   simp)
  simpa using this
 ·rename_i vs hne
  obtain ⟨xs, rfl, hl⟩:=h
  obtain ⟨us, h1, h2⟩:=zjm hmo hk hp hf hl
  refine ⟨.tuple us.toArray, ?_, by simp only[Fits]; exact ⟨us, rfl, h2⟩⟩
  have h3:=e us h1
  have hlen:us.length ≠ 1:=by
   intro h4
   have h5:fn.results.toList.length = 1:=by
    have h6:∀ {vs:List ResultVar} {xs:List AV}, zhU P st vs xs -> xs.length = vs.length:=by
     intro vs
     induction vs with
     | nil=>intro xs h; simp only[zhU] at h; simp [h]
     | cons v vs ih=>intro xs h; simp only[zhU] at h; obtain ⟨x, xs', rfl, _, h⟩:=h; simp [ih h]
    rw [← h6 hl, ← h2.length]; exact h4
   match hq:fn.results.toList, h5 with
   | [v], _=>exact hne v hq
  simpa [hlen] using h3
structure MK (w0 w w2:World):Prop where
 size:w2.heap.size = w.heap.size
 os:w2.os = w.os
 tape:w2.tape = w.tape
 output:w2.output = w.output
 block:∀ k, w2.heap[k]? = w.heap[k]? ∨ (w0.heap.size <= k /\ w.heap[k]? = some (.deferred (some [])) /\ w2.heap[k]? = some (.deferred none))
theorem MK.refl (w0 w:World):MK w0 w w:=⟨rfl, rfl, rfl, rfl, fun _=>.inl rfl⟩
theorem MK.step {w0 w w2:World} {D:Nat} (hD:w0.heap.size <= D) (h:w.heap[D]? = some (.deferred (some []))) (h2:MK w0 (w.putObj D (.deferred none)) w2):MK w0 w w2:=by
 have hlt:=(Array.getElem?_eq_some_iff.1 h).1
 refine ⟨by rw [h2.size]; simp [World.putObj], h2.os, h2.tape, h2.output, fun k=>?_⟩
 rcases h2.block k with h3 | ⟨h3, h4, h5⟩
 ·by_cases e:k = D
  ·subst e
   exact .inr ⟨hD, h, by rw [h3]; simp [World.putObj, hlt]⟩
  ·left
   rw [h3]
   simp [World.putObj, Array.getElem?_setIfInBounds_ne (Ne.symm e)]
 ·by_cases e:k = D
  ·subst e
   simp [World.putObj, hlt] at h4
  ·right
   refine ⟨h3, ?_, h5⟩
   simpa [World.putObj, Array.getElem?_setIfInBounds_ne (Ne.symm e)] using h4
theorem MK.cells {w0 w w2:World} (h:MK w0 w w2) {g:Nat} {cur:Array Value} {e:TypeId} {x:Nat × Nat} (hg:w.heap[g]? = some (.cells cur e x)):w2.heap[g]? = some (.cells cur e x):=by
 rcases h.block g with h1 | ⟨_, h1, _⟩
 ·rw [h1]; exact hg
 ·rw [h1] at hg; cases hg
theorem MK.map {w0 w w2:World} (h:MK w0 w w2) {g c:Nat} {arr:Array MapEntry} (hg:w.heap[g]? = some (.map arr c)):w2.heap[g]? = some (.map arr c):=by
 rcases h.block g with h1 | ⟨_, h1, _⟩
 ·rw [h1]; exact hg
 ·rw [h1] at hg; cases hg
def zAn (w w':World):Prop:=(∀ a, w'.cell? a = w.cell? a) /\ ∀ (g:Nat) (arr:Array MapEntry) (c:Nat), w.heap[g]? = some (.map arr c) -> w'.heap[g]? = some (.map arr c)
theorem MK.cell1 {w0 w w2:World} (h:MK w0 w w2) (a:Addr):w2.cell? a = w.cell? a:=by
 rcases h.block a.block with h1 | ⟨_, h1, h2⟩
 ·unfold World.cell?; rw [h1]
 ·unfold World.cell?; rw [h1, h2]
theorem MK.cell {w0 w w2:World} (h:MK w0 w w2):zAn w w2:=⟨h.cell1, fun _ _ _ hg=>h.map hg⟩
theorem MK.below {w0 w w2:World} (h:MK w0 w w2):Below w0.heap.size w w2:=⟨h.os, h.tape, h.output, Nat.le_of_eq h.size.symm, fun k hk=>(h.block k).resolve_right fun ⟨h1, _⟩=>by omega⟩
section
variable {ok:Nat -> Prop} {w w':World} {bs:List PB} {mem:List PO}
mutual
theorem Fits.congr (hw:zAn w w'):∀ (x:AV) (u:Value), Fits ok w x u -> Fits ok w' x u
 | .top, _, _=>by simp only[Fits]
 | .v x, y, h=>by simpa only [Fits] using h
 | .agg cs, y, h=>by
  simp only[Fits] at h ⊢
  obtain ⟨vs, e, h1, hl⟩:=h
  exact ⟨vs, e, h1, FitsL.congr hw cs vs hl⟩
 | .sl rows, y, h=>by
  simp only[Fits] at h ⊢
  obtain ⟨a, c, size, e, h1, h2, h3, h4⟩:=h
  refine ⟨a, c, size, e, h1, h2, h3, fun hn=>?_⟩
  obtain ⟨b, off, ea, hb, hr⟩:=h4 hn
  exact ⟨b, off, ea, hb, FitsR.congr hw b rows off hr⟩
 | .ptr cs, y, h=>by
  simp only[Fits] at h ⊢
  obtain ⟨b, off, e, hb, hc⟩:=h
  exact ⟨b, off, e, hb, FitsC.congr hw b cs off hc⟩
 | .fn f first caps, y, h=>by
  simp only[Fits] at h ⊢
  obtain ⟨us, vs, e, h1, h2⟩:=h
  exact ⟨us, vs, e, FitsL.congr hw first us h1, FitsL.congr hw caps vs h2⟩
 | .ifc t x, y, h=>by
  simp only[Fits] at h ⊢
  obtain ⟨u, e, hl⟩:=h
  exact ⟨u, e, Fits.congr hw x u hl⟩
 | .tup l, y, h=>by
  simp only[Fits] at h ⊢
  obtain ⟨vs, e, hl⟩:=h
  exact ⟨vs, e, FitsL.congr hw l vs hl⟩
 | .mp ks xs, y, h=>by
  simp only[Fits] at h ⊢
  obtain ⟨g, arr, c, e, hg, ha, h1, hl⟩:=h
  exact ⟨g, arr, c, e, hg, hw.2 g arr c ha, h1, FitsL.congr hw xs _ hl⟩
theorem FitsL.congr (hw:zAn w w'):∀ (l:List AV) (us:List Value), FitsL ok w l us -> FitsL ok w' l us
 | [], us, h=>by simpa only [FitsL] using h
 | x :: xs, us, h=>by
  simp only[FitsL] at h ⊢
  obtain ⟨u, us', e, h1, h2⟩:=h
  exact ⟨u, us', e, Fits.congr hw x u h1, FitsL.congr hw xs us' h2⟩
theorem FitsC.congr (hw:zAn w w') (b:Nat):∀ (l:List AV) (off:Nat), FitsC ok w b off l -> FitsC ok w' b off l
 | [], off, h=>by simp only[FitsC]
 | x :: xs, off, h=>by
  simp only[FitsC] at h ⊢
  obtain ⟨⟨u, hc, h1, h2⟩, h3⟩:=h
  exact ⟨⟨u, (hw.1 _).trans hc, h1, Fits.congr hw x u h2⟩, FitsC.congr hw b xs (off + 1) h3⟩
theorem FitsR.congr (hw:zAn w w') (b:Nat):∀ (l:List (List AV)) (off:Nat), FitsR ok w b off l -> FitsR ok w' b off l
 | [], off, h=>by simp only[FitsR]
 | r :: rs, off, h=>by
  simp only[FitsR] at h ⊢
  exact ⟨FitsC.congr hw b r off h.1, FitsR.congr hw b rs (off + r.length) h.2⟩
end
mutual
theorem FitsE.congr (hw:zAn w w'):∀ (x:EV) (u:Value), FitsE ok w bs mem x u -> FitsE ok w' bs mem x u
 | .pub x, u, h=>by
  simp only[FitsE] at h ⊢
  exact Fits.congr hw x u h
 | .psl l n, u, h=>by simpa only [FitsE] using h
 | .pp l n i j, u, h=>by simpa only [FitsE] using h
 | .mpv l, u, h=>by simpa only [FitsE] using h
 | .tpl cs, u, h=>by
  simp only[FitsE] at h ⊢
  obtain ⟨vs, e, hl⟩:=h
  exact ⟨vs, e, FitsEL.congr hw cs vs hl⟩
 | .mix cs, u, h=>by
  simp only[FitsE] at h ⊢
  obtain ⟨vs, e, h1, hl⟩:=h
  exact ⟨vs, e, h1, FitsEL.congr hw cs vs hl⟩
 | .fnm f fs cs, u, h=>by
  simp only[FitsE] at h ⊢
  obtain ⟨us, vs, e, h1, h2⟩:=h
  exact ⟨us, vs, e, FitsEL.congr hw fs us h1, FitsEL.congr hw cs vs h2⟩
theorem FitsEL.congr (hw:zAn w w'):∀ (l:List EV) (us:List Value), FitsEL ok w bs mem l us -> FitsEL ok w' bs mem l us
 | [], us, h=>by simpa only [FitsEL] using h
 | x :: xs, us, h=>by
  simp only[FitsEL] at h ⊢
  obtain ⟨u, us', e, h1, h2⟩:=h
  exact ⟨u, us', e, FitsE.congr hw x u h1, FitsEL.congr hw xs us' h2⟩
end
theorem MemOK.marked {n:Nat} {w0 w2:World} (h:MemOK n ok w bs mem) (hm:MK w0 w w2):MemOK n ok w2 bs mem:=by
 refine ⟨h.len, fun b hb=>by rw [hm.size]; exact h.lt b hb, fun l b rows h1 h2=>?_, fun l b es h1 h2=>?_, h.own', h.dist'⟩
 ·have hr:=h.row l b rows h1 h2
  refine ⟨hr.size, hr.nil, hr.pos, fun g hg=>?_⟩
  obtain ⟨cur, hc, h5, h6, h7, h8⟩:=hr.blk g hg
  refine ⟨cur, hm.cells hc, h5, h6, h7, fun i j r x hr hx=>?_⟩
  obtain ⟨u, h9, h10, h11⟩:=h8 i j r x hr hx
  exact ⟨u, h9, h10, h11.congr hm.cell⟩
 ·obtain ⟨g, arr, h3, h4, h5, h6⟩:=h.mp l b es h1 h2
  refine ⟨g, arr, h3, hm.map h4, h5, fun i k x hx=>?_⟩
  obtain ⟨v, h7, h8⟩:=h6 i k x hx
  exact ⟨v, h7, h8.congr hm.cell⟩
end
theorem zdR {mk:Bool} {F:Fence} {n:Nat} {fn:Func} {w0:World} {tm:Array Value} {R:Ending -> World -> Prop}:∀ {ds:List Deferred} {B:Nat} {w:World}, Dfs mk w0 w tm ds B [] ->
  (∀ w2, MK w0 w w2 -> ∃ v, (results fn tm).run P w2 = .ok v w2 /\ R (.returned v) w2) -> LeavesInM F n P fn tm R ds .returning w
 | [], B, w, _, h=>h w (MK.refl w0 w)
 | d :: ds, B, w, hd, h=>by
  simp only[Dfs] at hd
  rcases hd with ⟨_, D, rfl, h1, h2, h3, h4⟩ | ⟨t, l', e, _⟩
  ·refine ⟨by simp, .inl ⟨D, _, rfl, run_takeDeferred h3, zdR (B:=D) (h4.low (Nat.le_refl _)) fun w2 hw2=>h w2 (hw2.step h1 h3)⟩⟩
  ·cases e
theorem zhn {fn:Func} {args:List AV} {ok:Nat -> Prop} {w:World} {vs:List Value} (hlen:args.length <= fn.ntmps) (hok:∀ b, ok b -> b < w.heap.size) (hfit:FitsL ok w args vs):
  Sit w ok ⟨fn.ntmps, zmR args, []⟩ { tmps:=vs.toArray ++ Array.replicate (fn.ntmps - vs.toArray.size) undef, defers:=[] } w:=by
 have hl:=hfit.length
 refine ⟨by simp [hl]; omega, ⟨rfl, fun p hp=>by cases hp⟩, Below.refl _ _, ok, [], fun _ h=>h, fun _ h=>.inl h, ⟨rfl, hok, by simp, by simp, by simp, by simp⟩, fun t=>?_, fun p hp=>by cases hp⟩
 show FitsE ok w [] [] (match args[t]? with | some x=>.pub x | none=>.pub .top) _
 by_cases ht:t < args.length
 ·rw [List.getElem?_eq_getElem ht]
  obtain ⟨u, h1, h2⟩:=hfit.get (List.getElem?_eq_getElem ht)
  simp only[FitsE]
  have h3:t < vs.length:=(zLg h1).1
  have h4:vs[t] = u:=(zLg h1).2
  simp only[Array.getD_eq_getD_getElem?]
  rw [Array.getElem?_append_left (by simpa using h3)]
  simp [h3, h4, h2]
 ·rw [List.getElem?_eq_none (by omega)]
  simp [FitsE, Fits]
theorem zO {f:FuncId} {fn:Func} {c:Code} {args:List AV} {r:AV} (hf:P.funcs[f]? = some fn) (hb:fn.body = some c) (hnm:(fn.name == "runtime.NumGoroutine") = false) (hlen':Nat.ble args.length fn.ntmps = true)
  (h:jl (r:=none) P G c ⟨fn.ntmps, zmR args, []⟩ (fun e st=>(e = .normal ∨ e = .ret) /\ RetE P fn st r)):ACall P G f args r:=by
 have hlen:args.length <= fn.ntmps:=zLb hlen'
 refine ⟨⟨fn, hf, hnm, by simp [hb]⟩, fun ok w vs hG hok hfit=>callsIn_wide.1 (callsIn_of_wp_marks (n:=0) hf hb trivial ?_)⟩
 have hl:=hfit.length
 refine wpIn_mono (h w ok _ w hG hok ?_) fun e a' w' ⟨st, hs, hq⟩=>?_
 ·refine ⟨by simp [hl]; omega, ⟨rfl, fun p hp=>by cases hp⟩, Below.refl _ _, ok, [], fun _ h=>h, fun _ h=>.inl h, ⟨rfl, hok, by simp, by simp, by simp, by simp⟩, fun t=>?_, fun p hp=>by cases hp⟩
  show FitsE ok w [] [] (match args[t]? with | some x=>.pub x | none=>.pub .top) _
  by_cases ht:t < args.length
  ·rw [List.getElem?_eq_getElem ht]
   obtain ⟨u, h1, h2⟩:=hfit.get (List.getElem?_eq_getElem ht)
   simp only[FitsE]
   have h3:t < vs.length:=(zLg h1).1
   have h4:vs[t] = u:=(zLg h1).2
   simp only[Array.getD_eq_getD_getElem?]
   rw [Array.getElem?_append_left (by simpa using h3)]
   simp [h3, h4, h2]
  ·rw [List.getElem?_eq_none (by omega)]
   simp [FitsE, Fits]
 ·obtain ⟨h0, h1, h2, ok', bs, h3, h4, h5, h6⟩:=hs
  have hnil:=hq.2.nil
  have h1:=h1.1
  rw [hnil] at h1
  have hlv:LeavesInM Fence.wide 0 P fn a'.tmps (fun e w'=>∃ u, e = .returned u /\ Below w.heap.size w w' /\ Fits (okN ok w w') w' r u) a'.defers .returning w':=zdR h1 fun w2 hw2=>by
   obtain ⟨u, h7, h8⟩:=zcT (ok':=okN ok w w2) (h5.marked hw2) (fun b hb=>by
    rcases h4 b hb with h | h
    ·exact .inl h
    ·exact .inr ⟨h, by rw [hw2.size]; exact h5.lt b hb⟩) (fun b hb hb'=>.inr ⟨hb, hb'⟩) (fun t=>(h6.1 t).congr hw2.cell) hq.2
   exact ⟨u, h7, u, rfl, h2.trans hw2.below, h8⟩
  rcases hq.1 with rfl | rfl <;> exact hlv
theorem zqI {n:NS} {fr fr':Nat -> EV} {mem:List PO} (h:∀ t, fr' t = .pub .top ∨ fr' t = fr t):Weak ⟨n, fr, mem⟩ ⟨n, fr', mem⟩:=by
 intro w0 ok0 a w ⟨h0, h1, h2, ok, bs, h3, h4, h5, h6⟩
 refine ⟨h0, h1, h2, ok, bs, h3, h4, h5, fun t=>?_, h6.2⟩
 rcases h t with e | e
 ·simp only[e]; simp [FitsE, Fits]
 ·simp only[e]; exact h6.1 t
def frL:List (Nat × EV) -> Nat -> EV
 | [], _=>.pub .top
 | (k, x) :: l, t=>bif Nat.beq t k then x else frL l t
def zb6 (fr:Nat -> EV):List (Nat × EV) -> Prop
 | []=>True
 | (k, x) :: l=>fr k = x /\ zb6 fr l
theorem zoW {n:NS} {fr:Nat -> EV} {mem:List PO} (l:List (Nat × EV)) (h:zb6 fr l):Weak ⟨n, fr, mem⟩ ⟨n, frL l, mem⟩:=by
 refine zqI fun t=>?_
 induction l with
 | nil=>exact .inl rfl
 | cons p l ih=>
  obtain ⟨k, x⟩:=p
  simp only[zb6] at h
  simp only[frL]
  by_cases ht:t = k
  ·subst ht; right; simp [h.1]
  ·have hb:Nat.beq t k = false:=by
    cases hb:Nat.beq t k
    ·rfl
    ·exact absurd (Nat.eq_of_beq_eq_true hb) ht
   rw [hb]
   exact ih h.2
theorem zy {n:NS} {fr:Nat -> EV} {mem mem':List PO} (l:List (Nat × EV)) (h:zb6 fr l) (hm:mem = mem'):Weak ⟨n, fr, mem⟩ ⟨n, frL l, mem'⟩:=by subst hm; exact zoW l h
def zs8 (mem:List PO):EV -> AV -> Prop
 | .pub z, y=>AVle z y
 | .psl l n, y=>∃ rows:List (List AV), mem[l]? = some (.row (rows.map (·.map .pub))) /\ rows.length = n /\ y = .sl rows
 | .mpv _, y=>y = .top
 | _, _=>False
def zg5 (mem:List PO):List EV -> List AV -> Prop
 | [], ys=>ys = []
 | c :: cs, ys=>∃ y ys', ys = y :: ys' /\ zs8 mem c y /\ zg5 mem cs ys'
theorem zhd {mem : List PO} : ∀ {cs : List EV} {ys : List AV}, zg5 mem cs ys -> ys.length = cs.length /\ ∀ (i : Nat) (c : EV) (z : AV), cs[i]? = some c -> ys[i]? = some z ->
      ((∃ z0, c = .pub z0 /\ AVle z0 z) ∨ (∃ (l n:Nat) (rows:List (List AV)), c = .psl l n /\ mem[l]? = some (.row (rows.map (·.map .pub))) /\ rows.length = n /\ z = .sl rows) ∨ z = .top)
  | [], ys, h=>by simp only[zg5] at h; subst h; simp
  | c :: cs, ys, h=>by
    simp only[zg5] at h
    obtain ⟨y, ys', rfl, h1, h2⟩:=h
    obtain ⟨h3, h4⟩:=zhd h2
    refine ⟨by simp [h3], fun i d z hd hz=>?_⟩
    cases i with
    | succ i=>exact h4 i d z (by simpa using hd) (by simpa using hz)
    | zero=>
      simp at hd hz
      subst hd
      subst hz
      cases c with
      | pub z0=>exact .inl ⟨z0, rfl, h1⟩
      | psl l n=>obtain ⟨rows, a, b, e⟩:=h1; exact .inr (.inl ⟨l, n, rows, rfl, a, b, e⟩)
      | pp=>exact h1.elim
      | mix=>exact h1.elim
      | fnm=>exact h1.elim
      | mpv=>exact .inr (.inr h1)
      | tpl=>exact h1.elim
theorem zpA {mem:List PO} {cs:List EV} {ys:List AV} (h:zg5 mem cs ys):zbA mem (.mix cs) (.agg ys):=⟨ys, rfl, zhd h⟩
theorem jd {st:ASt} {p:Tmp} {T:TypeId} {k n i j size:Nat} {rows:List (List EV)} {r:List EV} {ys:List AV} (hp:st.fr p = .pp k n i j) (hm:st.mem[k]? = some (.row rows)) (hn:rows.length = n) (hr:rows[i]? = some r)
  (ht:tyIs P T true size = true) (hl:Nat.ble (j + size) r.length = true) (hv:zg5 st.mem ((r.drop j).take size) ys):zkB P st (.cell p T) (.agg ys):=
 ⟨_, by rw [hp]; exact ⟨rows, r, hm, hn, hr, .inr ⟨size, ht, zLb hl, rfl⟩⟩, zpA hv⟩
theorem wH {st:ASt} {p:Tmp} {T:TypeId} {k n i j:Nat} {rows:List (List EV)} {r:List EV} {e:EV} {y:AV} (hp:st.fr p = .pp k n i j) (hm:st.mem[k]? = some (.row rows)) (hn:rows.length = n) (hr:rows[i]? = some r)
  (ht:tyIs P T false 1 = true) (he:r[j]? = some e) (hv:zbA st.mem e y):zkB P st (.cell p T) y:=
 ⟨e, by rw [hp]; exact ⟨rows, r, hm, hn, hr, .inl ⟨ht, he⟩⟩, hv⟩
theorem zcp {fn:Func} {st:ASt} {v:ResultVar} {x:AV} (hr:fn.results.toList = [v]) (h:zkB P st v x) (hn:st.n.dfs = []:=by rfl):RetE P fn st x:=by
 unfold RetE; rw [hr, hn]; exact h
theorem Weak.trans {a b c:ASt} (h:Weak a b) (h':Weak b c):Weak a c:=fun w0 ok0 x w hs=>h' w0 ok0 x w (h w0 ok0 x w hs)
end
end Go.Av
end
section
namespace Go.Av
open Go.RowKit
section
variable {n:Nat} {ok:Nat -> Prop} {w w':World} {bs:List PB} {mem:List PO}
theorem Turn.push (hl:bs.length = mem.length) (b:PB) (x:PO):Turn bs (bs ++ [b]) mem (mem ++ [x]):=by
 refine ⟨fun l b0 h=>⟨b0, ?_, fun rows' h'=>⟨rows', ?_, Nat.le_refl _, fun _=>rfl⟩⟩, ?_⟩
 ·have hlt:=(zLg h).1
  rw [List.getElem?_append_left hlt]; exact h
 ·have hlt:=(zLg h).1
  rw [List.getElem?_append_left (by omega)] at h'; exact h'
 ·intro l b0 b0' es h h1 h2
  have hlt:=(zLg h).1
  rw [List.getElem?_append_left hlt, h] at h1
  rw [List.getElem?_append_left (by omega)] at h2
  injection h1 with h1
  exact ⟨⟨es, h2⟩, h1.symm⟩
theorem MemOK.pushO {b:PB} {o:PO} (h:MemOK n ok w bs mem) (hw:Below w.heap.size w w') (hn:n <= w.heap.size) (hrow:∀ rows, o = .row rows -> PRow ok w' (bs ++ [b]) (mem ++ [o]) b rows) (hmap:∀ es, o = .map es -> zqa ok w' (bs ++ [b]) (mem ++ [o]) b es)
  (hnew:∀ g, b.blk = some g -> w.heap.size <= g):MemOK n ok w' (bs ++ [b]) (mem ++ [o]):=by
 have ht:=Turn.push h.len b o
 have get:∀ (l:Nat) (b0:PB) (r0:PO), (bs ++ [b])[l]? = some b0 -> (mem ++ [o])[l]? = some r0 -> (bs[l]? = some b0 /\ mem[l]? = some r0) ∨ (l = bs.length /\ b0 = b /\ r0 = o):=by
  intro l b0 r0 h1 h2
  rcases Nat.lt_or_ge l bs.length with hlt | hge
  ·rw [List.getElem?_append_left hlt] at h1
   rw [List.getElem?_append_left (by rw [← h.len]; exact hlt)] at h2
   exact .inl ⟨h1, h2⟩
  ·rw [List.getElem?_append_right hge] at h1
   rw [List.getElem?_append_right (by rw [← h.len]; exact hge)] at h2
   have h0:l - bs.length = 0:=by
    have:=(zLg h1).1
    simpa using this
   have h3:l - mem.length = 0:=by rw [← h.len]; exact h0
   rw [h0] at h1
   rw [h3] at h2
   simp at h1 h2
   exact .inr ⟨by omega, h1.symm, h2.symm⟩
 refine ⟨by simp [h.len], fun b hb=>Nat.lt_of_lt_of_le (h.lt b hb) hw.size, fun l b0 r0 h1 h2=>?_, fun l b0 es h1 h2=>?_, fun l b0 r0 g h1 h2 ho h3=>?_, fun l l' b0 b1 r0 r1 g h1 h2 ho h3 h4 ho' h5 h6=>?_⟩
 ·rcases get l b0 _ h1 h2 with ⟨h3, h4⟩ | ⟨_, rfl, e⟩
  ·have hr:=h.row l b0 r0 h3 h4
   refine ⟨hr.size, hr.nil, hr.pos, fun g hg=>?_⟩
   obtain ⟨cur, hc, h5, h6, h7, h8⟩:=hr.blk g hg
   refine ⟨cur, by rw [hw.block g (h.own_lt h3 h4 hg)]; exact hc, h5, h6, h7, fun i j r x hr hx=>?_⟩
   obtain ⟨u, h9, h10, h11⟩:=h8 i j r x hr hx
   exact ⟨u, h9, h10, h11.mono (fun _ hb=>hb) (fun b hb=>hw.block b (h.lt b hb)) ht⟩
  ·exact hrow r0 e.symm
 ·rcases get l b0 _ h1 h2 with ⟨h3, h4⟩ | ⟨_, rfl, e⟩
  ·obtain ⟨g, arr, h5, h6, h7, h8⟩:=h.mp l b0 es h3 h4
   refine ⟨g, arr, h5, by rw [hw.block g (h.live_lt h3 h4 rfl h5)]; exact h6, h7, fun i k x hx=>?_⟩
   obtain ⟨v, h9, h10⟩:=h8 i k x hx
   exact ⟨v, h9, h10.mono (fun _ hb=>hb) (fun b hb=>hw.block b (h.lt b hb)) ht⟩
  ·exact hmap es e.symm
 ·rcases get l b0 r0 h1 h2 with ⟨h4, h5⟩ | ⟨_, rfl, rfl⟩
  ·exact h.own' l b0 r0 g h4 h5 ho h3
  ·have:=hnew g h3
   exact ⟨by omega, fun hk=>by have:=h.lt g hk; omega⟩
 ·rcases get l b0 r0 h1 h2 with ⟨a1, a2⟩ | ⟨a1, rfl, rfl⟩ <;> rcases get l' b1 r1 h3 h4 with ⟨c1, c2⟩ | ⟨c1, rfl, rfl⟩
  ·exact h.dist' l l' b0 b1 r0 r1 g a1 a2 ho c1 c2 ho' h5 h6
  ·have:=hnew g h6
   have:=h.live_lt a1 a2 ho h5
   omega
  ·have:=hnew g h5
   have:=h.live_lt c1 c2 ho' h6
   omega
  ·omega
theorem MemOK.push {b:PB} {rows:List (List EV)} (h:MemOK n ok w bs mem) (hw:Below w.heap.size w w') (hn:n <= w.heap.size) (hrow:PRow ok w' (bs ++ [b]) (mem ++ [.row rows]) b rows)
  (hnew:∀ g, b.blk = some g -> w.heap.size <= g):MemOK n ok w' (bs ++ [b]) (mem ++ [.row rows]):=
 h.pushO hw hn (fun r e=>by injection e with e; subst e; exact hrow) (fun es e=>by cases e) hnew
theorem MemOK.turnO {l:Nat} {b b':PB} {o o':PO} (h:MemOK n ok w bs mem) (hb:bs[l]? = some b) (hm:mem[l]? = some o) (hol:o.live = true) (hsz:w.heap.size <= w'.heap.size)
  (hblk:∀ k, k < w.heap.size -> some k ≠ b.blk -> w'.heap[k]? = w.heap[k]?)
  (hto:(∀ rows', o' = .row rows' -> ∃ rows, o = .row rows /\ rows.length <= rows'.length /\ (rows.length = rows'.length -> b' = b)) /\ ∀ es', o' = .map es' -> (∃ es, o = .map es) /\ b' = b)
  (hnew:∀ g, b'.blk = some g -> b.blk = some g ∨ w.heap.size <= g) (hn:n <= w.heap.size)
  (hrow:(∀ (e:EV) (u:Value), FitsE ok w bs mem e u -> FitsE ok w' (bs.set l b') (mem.set l o') e u) -> (∀ rows', o' = .row rows' -> PRow ok w' (bs.set l b') (mem.set l o') b' rows') /\ ∀ es', o' = .map es' -> zqa ok w' (bs.set l b') (mem.set l o') b' es'):
  MemOK n ok w' (bs.set l b') (mem.set l o') /\ ∀ (e:EV) (u:Value), FitsE ok w bs mem e u -> FitsE ok w' (bs.set l b') (mem.set l o') e u:=by
 have hll:l < bs.length:=(zLg hb).1
 have hlm:l < mem.length:=(zLg hm).1
 have hw:∀ k, ok k -> w'.heap[k]? = w.heap[k]?:=fun k hk=>hblk k (h.lt k hk) fun e=>(h.own' l b o k hb hm hol e.symm).2 hk
 have ht:Turn bs (bs.set l b') mem (mem.set l o'):=by
  refine ⟨fun k b0 h0=>?_, fun k b0 b1 es h0 h1 h2=>?_⟩
  ·by_cases hk:l = k
   ·subst hk
    rw [hb] at h0
    injection h0 with h0
    subst h0
    refine ⟨b', by simp [hll], fun r h1=>?_⟩
    simp [hlm] at h1
    obtain ⟨rows, e, h2, h3⟩:=hto.1 r h1
    exact ⟨rows, by rw [hm, e], h2, h3⟩
   ·refine ⟨b0, by rw [List.getElem?_set_ne hk]; exact h0, fun r h1=>?_⟩
    rw [List.getElem?_set_ne hk] at h1
    exact ⟨r, h1, Nat.le_refl _, fun _=>rfl⟩
  ·by_cases hk:l = k
   ·subst hk
    rw [hb] at h0
    injection h0 with h0
    subst h0
    simp [hll] at h1
    simp [hlm] at h2
    obtain ⟨⟨es0, e⟩, h3⟩:=hto.2 es h2
    exact ⟨⟨es0, by rw [hm, e]⟩, by rw [← h1, h3]⟩
   ·rw [List.getElem?_set_ne hk] at h1 h2
    rw [h0] at h1
    injection h1 with h1
    exact ⟨⟨es, h2⟩, h1.symm⟩
 have hf:∀ (e:EV) (u:Value), FitsE ok w bs mem e u -> FitsE ok w' (bs.set l b') (mem.set l o') e u:=fun e u he=>he.mono (fun _ hk=>hk) hw ht
 have get:∀ (k:Nat) (b0:PB) (r0:PO), (bs.set l b')[k]? = some b0 -> (mem.set l o')[k]? = some r0 -> (k ≠ l /\ bs[k]? = some b0 /\ mem[k]? = some r0) ∨ (k = l /\ b0 = b' /\ r0 = o'):=by
  intro k b0 r0 h1 h2
  by_cases hk:l = k
  ·subst hk
   simp [hll] at h1
   simp [hlm] at h2
   exact .inr ⟨rfl, h1.symm, h2.symm⟩
  ·rw [List.getElem?_set_ne hk] at h1 h2
   exact .inl ⟨fun e=>hk e.symm, h1, h2⟩
 refine ⟨⟨by simp [h.len], fun k hk=>Nat.lt_of_lt_of_le (h.lt k hk) hsz, fun k b0 r0 h1 h2=>?_, fun k b0 es h1 h2=>?_, fun k b0 r0 g h1 h2 ho h3=>?_, fun k k' b0 b1 r0 r1 g h1 h2 ho h3 h4 ho' h5 h6=>?_⟩, hf⟩
 ·rcases get k b0 _ h1 h2 with ⟨hne, h3, h4⟩ | ⟨_, rfl, e⟩
  ·have hr:=h.row k b0 r0 h3 h4
   refine ⟨hr.size, hr.nil, hr.pos, fun g hg=>?_⟩
   obtain ⟨cur, hc, h5, h6, h7, h8⟩:=hr.blk g hg
   refine ⟨cur, by rw [hblk g (h.own_lt h3 h4 hg) (fun e=>hne (h.dist' k l b0 b _ o g h3 h4 rfl hb hm hol hg e.symm))]; exact hc, h5, h6, h7, fun i j r x hr hx=>?_⟩
   obtain ⟨u, h9, h10, h11⟩:=h8 i j r x hr hx
   exact ⟨u, h9, h10, hf _ _ h11⟩
  ·exact (hrow hf).1 r0 e.symm
 ·rcases get k b0 _ h1 h2 with ⟨hne, h3, h4⟩ | ⟨_, rfl, e⟩
  ·obtain ⟨g, arr, h5, h6, h7, h8⟩:=h.mp k b0 es h3 h4
   refine ⟨g, arr, h5, by rw [hblk g (h.live_lt h3 h4 rfl h5) (fun e=>hne (h.dist' k l b0 b _ o g h3 h4 rfl hb hm hol h5 e.symm))]; exact h6, h7, fun i k' x hx=>?_⟩
   obtain ⟨v, h9, h10⟩:=h8 i k' x hx
   exact ⟨v, h9, hf _ _ h10⟩
  ·exact (hrow hf).2 es e.symm
 ·rcases get k b0 r0 h1 h2 with ⟨hne, h4, h5⟩ | ⟨_, rfl, rfl⟩
  ·exact h.own' k b0 r0 g h4 h5 ho h3
  ·rcases hnew g h3 with h4 | h4
   ·exact h.own' l b o g hb hm hol h4
   ·exact ⟨by omega, fun hk=>by have:=h.lt g hk; omega⟩
 ·rcases get k b0 r0 h1 h2 with ⟨ne1, a1, a2⟩ | ⟨e1, rfl, rfl⟩ <;> rcases get k' b1 r1 h3 h4 with ⟨ne2, c1, c2⟩ | ⟨e2, rfl, rfl⟩
  ·exact h.dist' k k' b0 b1 r0 r1 g a1 a2 ho c1 c2 ho' h5 h6
  ·rcases hnew g h6 with h7 | h7
   ·exact absurd (h.dist' k l b0 b r0 o g a1 a2 ho hb hm hol h5 h7) ne1
   ·have:=h.live_lt a1 a2 ho h5; omega
  ·rcases hnew g h5 with h7 | h7
   ·exact absurd (h.dist' k' l b1 b r1 o g c1 c2 ho' hb hm hol h6 h7) ne2
   ·have:=h.live_lt c1 c2 ho' h6; omega
  ·omega
theorem MemOK.turn {l:Nat} {b b':PB} {rows rows':List (List EV)} (h:MemOK n ok w bs mem) (hb:bs[l]? = some b) (hm:mem[l]? = some (.row rows)) (hsz:w.heap.size <= w'.heap.size)
  (hblk:∀ k, k < w.heap.size -> some k ≠ b.blk -> w'.heap[k]? = w.heap[k]?) (hle:rows.length <= rows'.length) (hsame:rows.length = rows'.length -> b' = b)
  (hnew:∀ g, b'.blk = some g -> b.blk = some g ∨ w.heap.size <= g) (hn:n <= w.heap.size)
  (hrow:(∀ (e:EV) (u:Value), FitsE ok w bs mem e u -> FitsE ok w' (bs.set l b') (mem.set l (.row rows')) e u) -> PRow ok w' (bs.set l b') (mem.set l (.row rows')) b' rows'):
  MemOK n ok w' (bs.set l b') (mem.set l (.row rows')) /\ ∀ (e:EV) (u:Value), FitsE ok w bs mem e u -> FitsE ok w' (bs.set l b') (mem.set l (.row rows')) e u:=
 h.turnO hb hm rfl hsz hblk ⟨fun r e=>⟨rows, rfl, by injection e with e; subst e; exact hle, by injection e with e; subst e; exact hsame⟩, fun es e=>by cases e⟩ hnew hn
  (fun hf=>⟨fun r e=>by injection e with e; subst e; exact hrow hf, fun es e=>by cases e⟩)
end
section
variable {P:Program} {G:Glob} {st:ASt} {o:Oper}
theorem Sit.push {w0:World} {ok0:Nat -> Prop} {k:NS} {fr:Nat -> EV} {mem:List PO} {a:Act} {w w':World} {ok:Nat -> Prop} {bs:List PB} {e:EV} {u:Value} {dst:Option Tmp} {b:PB} {rows:List (List EV)}
  (h0:a.tmps.size = k.n) (h1:Nod w0 w a k) (h2:Below w0.heap.size w0 w)
  (h3:∀ b, ok0 b -> ok b) (h4:∀ b, ok b -> ok0 b ∨ w0.heap.size <= b) (h5:MemOK w0.heap.size ok w bs mem) (h6:Slots ok w bs mem k fr a)
  (hw:Below w.heap.size w w') (hrow:PRow ok w' (bs ++ [b]) (mem ++ [.row rows]) b rows) (hnew:∀ g, b.blk = some g -> w.heap.size <= g)
  (he:FitsE ok w' (bs ++ [b]) (mem ++ [.row rows]) e u) (hd:DOK dst k):Sit w0 ok0 ⟨k, qX fr dst e, mem ++ [.row rows]⟩ (a.put dst u) w':=by
 refine ⟨(size_put ..).trans h0, h1.put (.of_below hw) hd, wI h2 h2.size hw, ok, bs ++ [b], h3, h4, h5.push hw h2.size hrow hnew, ?_⟩
 exact wo (h6.map fun _ _ h=>h.mono (fun _ hb=>hb) (fun b hb=>hw.block b (h5.lt b hb)) (Turn.push h5.len b _)) he (fun d e=>by rw [h0]; exact (hd d e).1)
end 
end Go.Av
end
section
namespace Go.Av
open Go.RowKit
section
variable {P:Program} {G:Glob} {st:ASt} {o:Oper} {ops:Array Oper} {l:List Oper} {Q:Exit -> ASt -> Prop}
theorem qL {r:Option Nat} {st':ASt} (hg:yu o = true) (ho:OpM P G st o st') (h:jP (r:=r) P G ops l st' Q):jP (r:=r) P G ops (o :: l) st Q:=zrv hg ho h
theorem zj7 {ok:Nat -> Prop} {w:World} {bs:List PB} {mem:List PO} {cells:List EV} {us:List Value} (T:TypeId) (hlen:bs.length = mem.length) (hlt:∀ b, ok b -> b < w.heap.size) (h1:∀ v ∈ us, v.oneCell' = true) (hf:FitsEL ok w bs mem cells us):
  PRow ok (w.alloc (.cells us.toArray T)) (bs ++ [⟨some w.heap.size, 1, T, us.length⟩]) (mem ++ [.row [cells]]) ⟨some w.heap.size, 1, T, us.length⟩ [cells]:=by
 refine ⟨fun r hr=>?_, fun h=>(by simp at h), fun _ _=>(by simp), fun g hg=>?_⟩
 ·simp at hr; subst hr; exact hf.length.symm
 ·simp at hg
  subst hg
  refine ⟨us.toArray, heap_alloc_new w _, by simp, by simp, by simp [maxLen], fun i j r x hr hx=>?_⟩
  cases i with
  | succ i=>simp at hr
  | zero=>
   simp at hr
   subst hr
   obtain ⟨u, h2, h3⟩:=hf.get hx
   refine ⟨u, by simpa using h2, h1 u (List.mem_of_getElem? h2), h3.mono (fun _ hb=>hb) (fun b hb=>heap_alloc_old w _ (hlt b hb)) (Turn.push hlen _ _)⟩
theorem zru {T:TypeId} {x:Operand} {cells:List EV} (ho:o.op = .box T x) (hd:jO o st.n = true) (hx:wZ st.mem (evO st.fr x) cells):
  OpM P G st o ⟨st.n, qX st.fr o.dst (.pp st.mem.length 1 0 0), st.mem ++ [.row [cells]]⟩:=by
 intro w0 ok0 a w hG hok hs K Q hK
 obtain ⟨h0, h1, h2, ok, bs, h3, h4, h5, h6⟩:=hs
 obtain ⟨us, h7, h8, h9⟩:=zaL (qO (fr:=st.fr) (a:=a) (x:=x) fun t _=>h6.1 t) hx
 refine jR (w':=w.alloc (.cells us.toArray T)) (u:=.pointer (some ⟨w.heap.size, 0, none⟩)) ?_ (hK _ _ (Sit.push h0 h1 h2 h3 h4 h5 h6 (below_alloc ..) (zj7 T h5.len h5.lt h8 h9) (fun g hg=>by simp at hg; omega) ?_ (qC hd)))
 ·simp [execOp, ho, Instr.box, newVar, newRow, h7]
 ·simp only[FitsE]
  refine ⟨⟨some w.heap.size, 1, T, us.length⟩, by rw [← h5.len]; simp, fun rows hr=>?_⟩
  simp at hr
  subst hr
  simp
theorem jr {T:TypeId} {z:Value} {zs:List Value} (ho:o.op = .alloc T) (hd:jO o st.n = true) (hz:(P.info? T).bind (·.zero) = some z) (hc:z.cells = zs.toArray) (h1:zs.all Value.oneCell' = true):
  OpM P G st o ⟨st.n, qX st.fr o.dst (.pp st.mem.length 1 0 0), st.mem ++ [.row [zs.map fun v=>.pub (.v v)]]⟩:=by
 intro w0 ok0 a w hG hok hs K Q hK
 obtain ⟨h0, h1', h2, ok, bs, h3, h4, h5, h6⟩:=hs
 have hzf:FitsEL ok w bs st.mem (zs.map fun v=>.pub (.v v)) zs:=by
  have:=(FitsEL.pub (bs:=bs) (mem:=st.mem)).2 (zdF (ok:=ok) (w:=w) zs h1)
  simpa [List.map_map, Function.comp_def] using this
 refine jR (w':=w.alloc (.cells zs.toArray T)) (u:=.pointer (some ⟨w.heap.size, 0, none⟩)) ?_ (hK _ _ (Sit.push h0 h1' h2 h3 h4 h5 h6 (below_alloc ..) (zj7 T h5.len h5.lt (fun v hv=>by rw [List.all_eq_true] at h1; exact h1 v hv) hzf) (fun g hg=>by simp at hg; omega) ?_ (qC hd)))
 ·cases hi:P.info? T with
  | none=>simp [hi] at hz
  | some i=>
   have hz':i.zero = some z:=by simpa [hi] using hz
   simp [execOp, ho, Instr.alloc, zeroValue, typeInfo, hi, hz', newVar, newRow, hc]
 ·simp only[FitsE]
  refine ⟨⟨some w.heap.size, 1, T, zs.length⟩, by rw [← h5.len]; simp, fun rows hr=>?_⟩
  simp at hr
  subst hr
  simp
def putCells (r:List EV) (j:Nat) (cs:List EV):List EV:=r.take j ++ cs ++ r.drop (j + cs.length)
theorem zbu {r:List EV} {j:Nat} {cs:List EV} (h:j + cs.length <= r.length):(putCells r j cs).length = r.length:=by
 unfold putCells; simp; omega
theorem zhZ {r:List EV} {j:Nat} {cs:List EV} (h:j + cs.length <= r.length) (t:Nat) (x:EV) (hx:(putCells r j cs)[t]? = some x):(j <= t /\ t < j + cs.length /\ cs[t - j]? = some x) ∨ ((t < j ∨ j + cs.length <= t) /\ r[t]? = some x):=by
 unfold putCells at hx
 rw [List.append_assoc, List.getElem?_append] at hx
 have h1:(r.take j).length = j:=by simp; omega
 rw [h1] at hx
 split at hx
 ·rename_i hlt
  rw [List.getElem?_take, if_pos hlt] at hx
  exact .inr ⟨.inl hlt, hx⟩
 ·rename_i hge
  rw [List.getElem?_append] at hx
  split at hx
  ·rename_i h2
   exact .inl ⟨by omega, by omega, hx⟩
  ·rename_i h2
   rw [List.getElem?_drop, show j + cs.length + (t - j - cs.length) = t from by omega] at hx
   exact .inr ⟨.inr (by omega), hx⟩
theorem xQ (P:Program) (g o:Nat) (t:TypeId) (fz:Nat × Nat):∀ (vs:List Value) (i:Nat) (cur:Array Value) (w:World), w.heap[g]? = some (.cells cur t fz) -> (fz = (0, 0) ∨ cur.size <= fz.1) -> o + i + vs.length <= cur.size -> (∀ v ∈ vs, v.oneCell' = true) ->
  (storeCells ⟨g, o, none⟩ vs i).run P w = .ok () (w.setRow g (cur.toList.take (o + i) ++ vs ++ cur.toList.drop (o + i + vs.length)).toArray)
 | [], i, cur, w, hg, _, _, _=>by
  simp only[storeCells, List.append_nil, List.length_nil, Nat.add_zero, List.take_append_drop, Array.toArray_toList]
  rw [setRow_self w g cur t fz hg]
  rfl
 | v :: rest, i, cur, w, hg, hfz, hl, h1=>by
  have hi:o + i < cur.size:=by simp at hl; omega
  have hadd:(⟨g, o, none⟩:Addr).add i = ⟨g, o + i, none⟩:=by unfold Addr.add; split <;> simp_all
  have hcell:w.cell? ⟨g, o + i, none⟩ = some cur[o + i]:=by simp [World.cell?, hg, hi]
  have hfro:w.frozen? ⟨g, o + i, none⟩ = false:=by
   obtain ⟨lo, hi'⟩:=fz
   simp only[World.frozen?, hg, Bool.and_eq_false_iff, decide_eq_false_iff_not]
   rcases hfz with e | e
   ·injection e with e1 e2
    right; omega
   ·left
    simp only at e
    omega
  have hst:(store ((⟨g, o, none⟩:Addr).add i) v).run P w = .ok () (w.setRow g (cur.setIfInBounds (o + i) v)):=by
   rw [hadd, run_store P w _ v _ (h1 v (by simp)), hcell]
   simp [hfro, setCell_eq_setRow w g (o + i) cur t fz v hg]
  have ih:=xQ P g o t fz rest (i + 1) (cur.setIfInBounds (o + i) v) (w.setRow g (cur.setIfInBounds (o + i) v)) (setRow_heap w g cur _ t _ hg) (by simpa using hfz) (by simp at hl ⊢; omega) (fun x hx=>h1 x (by simp [hx]))
  simp only[storeCells, Sem.run_bind, hst, Result.andThen_ok, ih, setRow_setRow]
  congr 3
  have e:=list_seg_step cur.toList (o + i) v rest (by simp at hl ⊢; omega)
  simpa [Array.toList_setIfInBounds, Nat.add_assoc] using e
theorem store_run (g off:Nat) (T:TypeId) (cur:Array Value) (vs:List Value) (w:World) {fz:Nat × Nat} (hg:w.heap[g]? = some (.cells cur T fz)) (hz:fz = (0, 0) ∨ cur.size <= fz.1) (hfit:off + vs.length <= cur.size) (h1:∀ v ∈ vs, v.oneCell' = true):
  ∃ cur':Array Value, (storeCells ⟨g, off, none⟩ vs 0).run P w = .ok () (w.setRow g cur') /\ cur'.size = cur.size /\ ∀ t:Nat, cur'[t]? = if off <= t /\ t < off + vs.length then vs[t - off]? else cur[t]?:=by
 have h:=xQ P g off T fz vs 0 cur w hg hz (by simpa using hfit) h1
 simp only[Nat.add_zero] at h
 refine ⟨_, h, ?_, fun t=>?_⟩
 ·simp; omega
 ·simp only[List.getElem?_toArray, List.append_assoc]
  rw [List.getElem?_append]
  have e:(cur.toList.take off).length = off:=by simp; omega
  rw [e]
  by_cases h2:t < off
  ·rw [if_pos h2, if_neg (by omega), List.getElem?_take, if_pos h2]; simp
  ·rw [if_neg h2, List.getElem?_append]
   by_cases h3:t - off < vs.length
   ·rw [if_pos h3, if_pos (by omega)]
   ·rw [if_neg h3, if_neg (by omega), List.getElem?_drop]
    simp only[Array.getElem?_toList]
    congr 1
    omega
theorem qw {T:TypeId} {p x:Operand} {k n i j:Nat} {rows:List (List EV)} {r cells:List EV} {agg:Bool} {size:Nat} (ho:o.op = .store T p x) (hd:o.dst = none) (hp:evO st.fr p = .pp k n i j) (hm:st.mem[k]? = some (.row rows)) (hn:rows.length = n)
  (hr:rows[i]? = some r) (hx:wZ st.mem (evO st.fr x) cells) (ht:tyIs P T agg size = true) (hsz:cells.length = size) (hl:j + size <= r.length):
  OpM P G st o ⟨st.n, st.fr, st.mem.set k (.row (rows.set i (putCells r j cells)))⟩:=by
 intro w0 ok0 a w hG hok hs K Q hK
 obtain ⟨h0, h1', h2, ok, bs, h3, h4, h5, h6⟩:=hs
 obtain ⟨us, h7, h8, h9⟩:=zaL (qO (fr:=st.fr) (a:=a) (x:=x) fun t _=>h6.1 t) hx
 have hpe:=qO (fr:=st.fr) (a:=a) (x:=p) fun t _=>h6.1 t
 rw [hp] at hpe
 simp only[FitsE] at hpe
 obtain ⟨b, hb, hpe⟩:=hpe
 obtain ⟨g, hg, e⟩:=(hpe rows hm).2 hn
 have hrow:=h5.row k b rows hb hm
 obtain ⟨cur, hc, hcs, hcl, hcm, hcell⟩:=hrow.blk g hg
 have hul:us.length = size:=by rw [h9.length, hsz]
 have hrl:r.length = b.size:=hrow.size r (List.mem_of_getElem? hr)
 have hi:i < rows.length:=(zLg hr).1
 have hmul:i * b.size + b.size <= cur.size:=by
  rw [hcs, ← Nat.succ_mul]
  exact Nat.mul_le_mul_right _ (by omega)
 obtain ⟨cur', h10, h11, h12⟩:=store_run (P:=P) g (i * b.size + j) b.elem.t cur us w hc (b.elem.free _) (by omega) h8
 have hheap:(w.setRow g cur').heap[g]? = some (.cells cur' b.elem.t (b.elem.fzp cur'.size)):=by rw [h11]; exact setRow_heap w g cur _ b.elem.t _ hc
 have hother:∀ t, some t ≠ b.blk -> (w.setRow g cur').heap[t]? = w.heap[t]?:=fun t ht=>setRow_other w g t _ (fun e=>ht (by rw [e, hg]))
 have hturn:=h5.turn (w':=w.setRow g cur') (b':=b) (rows':=rows.set i (putCells r j cells)) hb hm (by simp) (fun t _ ht=>hother t ht) (by simp) (fun _=>rfl) (fun g' hg'=>.inl hg') h2.size (fun hfit=>by
  refine ⟨fun r' hr'=>?_, fun hnone=>(by rw [hg] at hnone; cases hnone), fun g' hg'=>(by have:=hrow.pos g' hg'; simpa using this), fun g' hg'=>?_⟩
  ·rcases List.mem_or_eq_of_mem_set hr' with h | h
   ·exact hrow.size r' h
   ·rw [h, zbu (by omega)]; exact hrl
  ·have:g' = g:=by rw [hg] at hg'; injection hg' with hg'; exact hg'.symm
   subst this
   refine ⟨cur', hheap, by rw [h11]; exact hcs, by simpa using hcl, hcm, fun i' j' r' x' hr' hx'=>?_⟩
   have hj':j' < r'.length:=(zLg hx').1
   by_cases hii:i = i'
   ·subst hii
    rw [List.getElem?_set_self hi] at hr'
    injection hr' with hr'
    subst hr'
    rw [zbu (by omega)] at hj'
    rw [h12]
    rcases zhZ (by omega) j' x' hx' with ⟨a1, a2, a3⟩ | ⟨a1, a3⟩
    ·obtain ⟨u, c1, c2⟩:=h9.get a3
     refine ⟨u, ?_, h8 u (List.mem_of_getElem? c1), hfit _ _ c2⟩
     rw [if_pos (by omega), show i * b.size + j' - (i * b.size + j) = j' - j from by omega]
     exact c1
    ·obtain ⟨u, c1, c2, c3⟩:=hcell i j' r x' hr a3
     exact ⟨u, by rw [if_neg (by omega)]; exact c1, c2, hfit _ _ c3⟩
   ·rw [List.getElem?_set_ne hii] at hr'
    obtain ⟨u, c1, c2, c3⟩:=hcell i' j' r' x' hr' hx'
    have hrl':r'.length = b.size:=hrow.size r' (List.mem_of_getElem? hr')
    refine ⟨u, ?_, c2, hfit _ _ c3⟩
    rw [h12, if_neg]
    ·exact c1
    ·rintro ⟨d1, d2⟩
     rcases Nat.lt_or_ge i i' with hlt | hge
     ·have:(i + 1) * b.size <= i' * b.size:=Nat.mul_le_mul_right _ hlt
      rw [Nat.succ_mul] at this
      omega
     ·have:(i' + 1) * b.size <= i * b.size:=Nat.mul_le_mul_right _ (by omega)
      rw [Nat.succ_mul] at this
      omega)
 obtain ⟨hm', hf'⟩:=hturn
 have hbs:bs.set k b = bs:=by
  apply List.ext_getElem?
  intro t
  by_cases ht:k = t
  ·subst ht; rw [hb]; simp [(zLg hb).1]
  ·rw [List.getElem?_set_ne ht]
 rw [hbs] at hm' hf'
 have hrun:(execOp a.eval o).run P w = .ok .skip (w.setRow g cur'):=by
  have hcells:(a.eval x).cells.size = size:=by rw [h7]; simpa using hul
  simp only[execOp, ho, Instr.storeAt, Instr.sureAddr, e, Sem.run_bind, Sem.run_pure, Result.andThen_ok, storeVar, sizeOf_of ht, h7]
  simp [h10, hul]
 unfold Oper.wp
 rw [hrun]
 simp only[Oper.upon]
 refine hK _ _ ?_
 have hpn:a.put o.dst undef = a:=by rw [hd]; rfl
 rw [hpn]
 refine ⟨h0, h1'.keep (.of_cells hc (by simp) (fun k _ hk=>hother k (fun e=>hk (by rw [hg] at e; injection e)))), ?_, ok, bs, h3, h4, hm', h6.map hf'⟩
 have hbelow:Below w0.heap.size w (w.setRow g cur'):=⟨rfl, rfl, rfl, by simp, fun t ht=>hother t (fun e=>by
  have:=(h5.own k b rows t hb hm e.symm).1
  omega)⟩
 exact h2.trans hbelow
end
end Go.Av
end
section
namespace Go.Av
open Go.RowKit
section
variable {P:Program} {G:Glob} {st:ASt} {o:Oper}
def elemIs (P:Program) (T E:TypeId) (size bytes:Nat):Prop:=P.underlying T = some (.slice E) /\ ∃ i z, P.info? E = some i /\ i.zero = some z /\ i.size = size /\ i.bytes = bytes /\ z.cells.size = size /\ 0 < size
theorem zfh {ok:Nat -> Prop} {w:World} {size:Nat}:∀ {rows:List (List AV)} {b off:Nat}, (∀ r ∈ rows, r.length = size) -> FitsR ok w b off rows ->
  ∃ us:List Value, us.length = rows.length * size /\ (∀ u ∈ us, u.oneCell' = true) /\ (∀ (j:Nat) (v:Value), us[j]? = some v -> w.cell? ⟨b, off + j, none⟩ = some v) /\
   ∀ (i j:Nat) (r:List AV) (x:AV), rows[i]? = some r -> r[j]? = some x -> ∃ u, us[i * size + j]? = some u /\ Fits ok w x u
 | [], b, off, _, _=>⟨[], by simp, by simp, by simp, by simp⟩
 | q :: qs, b, off, hs, h=>by
  simp only[FitsR] at h
  obtain ⟨us1, a1, a2, a3, a4⟩:=zhD h.1
  have hq:=hs q (by simp)
  obtain ⟨us2, c1, c2, c3, c4⟩:=zfh (fun r hr=>hs r (by simp [hr])) h.2
  refine ⟨us1 ++ us2, by simp [a1, c1, hq, Nat.add_mul]; omega, fun u hu=>?_, fun j v hv=>?_, fun i j r x hr hx=>?_⟩
  ·rcases List.mem_append.1 hu with h | h
   ·exact a2 u h
   ·exact c2 u h
  ·rw [List.getElem?_append] at hv
   split at hv
   ·exact a4 j v hv
   ·rename_i hge
    have:=c3 _ v hv
    rwa [show off + q.length + (j - us1.length) = off + j from by omega] at this
  ·cases i with
   | zero=>
    simp at hr
    subst hr
    obtain ⟨u, d1, d2⟩:=a3.get hx
    refine ⟨u, ?_, d2⟩
    have:j < us1.length:=(zLg d1).1
    rw [Nat.zero_mul, Nat.zero_add, List.getElem?_append_left this]; exact d1
   | succ i=>
    simp at hr
    obtain ⟨u, d1, d2⟩:=c4 i j r x hr hx
    refine ⟨u, ?_, d2⟩
    rw [List.getElem?_append_right (by rw [a1, hq, Nat.add_mul]; omega), show (i + 1) * size + j - us1.length = i * size + j from by rw [a1, hq, Nat.add_mul]; omega]
    exact d1
theorem zrK {n:Nat} {ok:Nat -> Prop} {w:World} {bs:List PB} {mem:List PO} {k:Nat} {b:PB} {rows:List (List EV)} (h:MemOK n ok w bs mem) (hb:bs[k]? = some b) (hm:mem[k]? = some (.row rows)):
  ∃ xs:List Value, (xs.length = rows.length * b.size /\ ∀ g, b.blk = some g -> ∀ (j:Nat) (v:Value), xs[j]? = some v -> w.cell? ⟨g, j, none⟩ = some v) /\ ∀ (i j:Nat) (r:List EV) (x:EV), rows[i]? = some r -> r[j]? = some x -> ∃ u, xs[i * b.size + j]? = some u /\ u.oneCell' = true /\ FitsE ok w bs mem x u:=by
 have hr:=h.row k b rows hb hm
 cases hg:b.blk with
 | none=>
  have:=hr.nil hg
  subst this
  exact ⟨[], ⟨by simp, by simp⟩, by simp⟩
 | some g=>
  obtain ⟨cur, hc, h1, h2, h3, h4⟩:=hr.blk g hg
  have hle:rows.length * b.size <= cur.size:=by rw [h1]; exact Nat.mul_le_mul_right _ h2
  refine ⟨cur.toList.take (rows.length * b.size), ⟨by simp; omega, fun g' hg' j v hv=>?_⟩, fun i j r x hri hx=>?_⟩
  ·injection hg' with hg'
   subst hg'
   rw [cell_of_row w g j cur _ _ hc]
   rw [List.getElem?_take] at hv
   split at hv
   ·simpa using hv
   ·cases hv
  obtain ⟨u, c1, c2, c3⟩:=h4 i j r x hri hx
  refine ⟨u, ?_, c2, c3⟩
  have hi:i < rows.length:=(zLg hri).1
  have hj:j < b.size:=by
   have:=(zLg hx).1
   rwa [hr.size r (List.mem_of_getElem? hri)] at this
  have:(i + 1) * b.size <= rows.length * b.size:=Nat.mul_le_mul_right _ hi
  rw [Nat.succ_mul] at this
  rw [List.getElem?_take, if_pos (by omega)]
  simpa using c1
theorem zfc (b o n:Nat):(⟨b, o, none⟩:Addr).add n = ⟨b, o + n, none⟩:=Addr.add_lit b o n
theorem zeD {T:TypeId} {s x:Operand} (ho:o.op = .call { callee:=.builtin .append, args:=#[s, x], argTypes:=#[T, T] }) {a:Act} {w w':World} {v:Value}
  (h:(Builtin.append_ #[T, T] o.type #[a.eval s, a.eval x]).run P w = .ok v w'):(execOp a.eval o).run P w = .ok (.value v) w':=by
 simp [execOp, ho, resolve, invoke, builtin, h]
theorem zeA {T E:TypeId} {size bytes:Nat} (ht:elemIs P T E size bytes) (ty:TypeId) (a0 a1:Option Addr) (n c c1:Nat) (hnc:n <= c) (w:World):
  (Builtin.append_ #[T, T] ty #[.slice a0 n c, .slice a1 0 c1]).run P w = .ok (.slice a0 n c) w:=by
 obtain ⟨hu, i, z, hi, _⟩:=ht
 cases a1 with
 | none=>cases a0 <;> simp [Builtin.append_, run_underlying hu, sizeOf, typeInfo, hi, Builtin.lenOf, Builtin.firstCells, hnc, storeCells]
 | some a1=>cases a0 <;> simp [Builtin.append_, run_underlying hu, sizeOf, typeInfo, hi, Builtin.lenOf, Builtin.firstCells, hnc, storeCells, loadCells, loadCellsFrom]
def zoH (mem:List PO):EV -> List (List EV) -> Prop
 | .pub (.sl rows), ns=>ns = rows.map (·.map .pub)
 | .pub (.v (.slice none 0 _)), ns=>ns = []
 | .psl k n, ns=>mem[k]? = some (.row ns) /\ ns.length = n
 | _, _=>False
theorem src_of {n:Nat} {ok:Nat -> Prop} {w:World} {bs:List PB} {mem:List PO} (hmo:MemOK n ok w bs mem) {e:EV} {u:Value} {ns:List (List EV)} {size:Nat} (h:FitsE ok w bs mem e u) (hs:zoH mem e ns) (hsz:∀ r ∈ ns, r.length = size):
  ∃ (A:Option Addr) (c:Nat) (us:List Value), u = .slice A ns.length c /\ us.length = ns.length * size /\ (∀ v ∈ us, v.oneCell' = true) /\ (0 < ns.length -> ∃ b off, A = some ⟨b, off, none⟩ /\ b < w.heap.size /\ ∀ (j:Nat) (v:Value), us[j]? = some v -> w.cell? ⟨b, off + j, none⟩ = some v) /\
   ∀ (i j:Nat) (r:List EV) (x:EV), ns[i]? = some r -> r[j]? = some x -> ∃ v, us[i * size + j]? = some v /\ FitsE ok w bs mem x v:=by
 cases e with
 | pub x=>
  cases x with
  | sl rows=>
   simp only[zoH] at hs
   subst hs
   simp only[FitsE, Fits] at h
   obtain ⟨A, c, size', rfl, h1, h2, h3, h4⟩:=h
   have hsz':∀ r ∈ rows, r.length = size:=fun r hr=>by
    have:=hsz (r.map .pub) (List.mem_map_of_mem hr)
    simpa using this
   rcases Nat.eq_zero_or_pos rows.length with h0 | h0
   ·have:rows = []:=List.eq_nil_of_length_eq_zero h0
    subst this
    exact ⟨A, c, [], rfl, by simp, by simp, by simp, by simp⟩
   ·obtain ⟨b, off, rfl, hb, hf⟩:=h4 h0
    obtain ⟨us, d1, d2, d3, d4⟩:=zfh hsz' hf
    refine ⟨_, c, us, by simp, by simpa using d1, d2, fun _=>⟨b, off, rfl, hmo.lt b hb, d3⟩, fun i j r x hr hx=>?_⟩
    simp only[List.getElem?_map, Option.map_eq_some_iff] at hr
    obtain ⟨r0, hr0, rfl⟩:=hr
    simp only[List.getElem?_map, Option.map_eq_some_iff] at hx
    obtain ⟨x0, hx0, rfl⟩:=hx
    obtain ⟨u, e1, e2⟩:=d4 i j r0 x0 hr0 hx0
    exact ⟨u, e1, by simpa only [FitsE] using e2⟩
  | v x=>
   cases x with
   | slice A m c=>
    cases A with
    | some A=>exact hs.elim
    | none=>
     cases m with
     | succ m=>exact hs.elim
     | zero=>
      simp only[zoH] at hs
      subst hs
      simp only[FitsE, Fits] at h
      obtain ⟨rfl, _⟩:=h
      exact ⟨none, c, [], rfl, by simp, by simp, by simp, by simp⟩
   | _=>exact hs.elim
  | _=>exact hs.elim
 | psl k m=>
  obtain ⟨hm, rfl⟩:=hs
  simp only[FitsE] at h
  obtain ⟨b, hb, h⟩:=h
  have e:=(h ns hm).2 rfl
  have hr:=hmo.row k b ns hb hm
  cases hg:b.blk with
  | none=>
   have:=hr.nil hg
   subst this
   simp only[PB.sl, hg] at e
   subst e
   exact ⟨none, 0, [], rfl, by simp, by simp, by simp, by simp⟩
  | some g=>
   obtain ⟨cur, hc, h1, h2, h3, h4⟩:=hr.blk g hg
   have hpos:=hr.pos g hg
   have hbs:b.size = size:=by rw [← hr.size ns[0] (List.getElem_mem hpos), hsz ns[0] (List.getElem_mem hpos)]
   obtain ⟨xs, h5, h6⟩:=zrK hmo hb hm
   simp only[PB.sl, hg] at e
   subst e
   refine ⟨_, b.cap, xs, rfl, by rw [h5.1, hbs], fun v hv=>?_, fun _=>⟨g, 0, rfl, hmo.own_lt hb hm hg, fun j v hv=>?_⟩, fun i j r x hri hx=>?_⟩
   ·obtain ⟨t, ht⟩:=List.getElem?_of_mem hv
    have hlt:t < ns.length * size:=by have:=(zLg ht).1; rwa [h5.1, hbs] at this
    have hsp:0 < size:=by
     rcases Nat.eq_zero_or_pos size with h0 | h0
     ·rw [h0] at hlt; simp at hlt
     ·exact h0
    have hi:t / size < ns.length:=Nat.div_lt_of_lt_mul (by rw [Nat.mul_comm]; exact hlt)
    have hj:t % size < (ns[t / size]).length:=by rw [hsz _ (List.getElem_mem hi)]; exact Nat.mod_lt _ hsp
    obtain ⟨u, c1, c2, _⟩:=h6 (t / size) (t % size) _ _ (List.getElem?_eq_getElem hi) (List.getElem?_eq_getElem hj)
    rw [hbs, Nat.mul_comm, Nat.div_add_mod] at c1
    rw [ht] at c1
    injection c1 with c1
    subst c1
    exact c2
   ·rw [Nat.zero_add]; exact h5.2 g hg j v hv
   ·obtain ⟨u, c1, c2, c3⟩:=h6 i j r x hri hx
    exact ⟨u, by rw [← hbs]; exact c1, c3⟩
 | _=>exact hs.elim
theorem kD {T E:TypeId} {i:TypeInfo} (ty e0:TypeId) (ht:P.underlying T = some (.slice E)) (hi:P.info? E = some i) (w:World) (g sLen sCap:Nat) (cur:Array Value) {fz:Nat × Nat} (hg:w.heap[g]? = some (.cells cur e0 fz)) (hz:fz = (0, 0) ∨ cur.size <= fz.1)
  (a:Addr) (m c:Nat) (news:List Value) (hl:news.length = m * i.size) (hnews:∀ (j:Nat) (u:Value), news[j]? = some u -> w.cell? (a.add j) = some u) (h1:∀ u ∈ news, u.oneCell' = true)
  (hroom:sLen + m <= sCap) (hfit:sLen * i.size + news.length <= cur.size):
  ∃ cur':Array Value, (Builtin.append_ #[T, T] ty #[.slice (some ⟨g, 0, none⟩) sLen sCap, .slice (some a) m c]).run P w = .ok (.slice (some ⟨g, 0, none⟩) (sLen + m) sCap) (w.setRow g cur') /\
   cur'.size = cur.size /\ ∀ t:Nat, cur'[t]? = if sLen * i.size <= t /\ t < sLen * i.size + news.length then news[t - sLen * i.size]? else cur[t]?:=by
 have hf:=run_firstCells_some (P:=P) w i.size m a m c news hl hnews
 obtain ⟨cur', h2, h3, h4⟩:=store_run (P:=P) g (sLen * i.size) e0 cur news w hg hz hfit h1
 refine ⟨cur', ?_, h3, h4⟩
 simp [Builtin.append_, run_underlying ht, sizeOf, typeInfo, hi, Builtin.lenOf, hroom, hf, zfc, h2]
theorem zkC {T E:TypeId} {size bytes:Nat} (ht:elemIs P T E size bytes) (ty:TypeId) (w:World) (b:PB) (n:Nat) (cur:Array Value)
  (hb:match b.blk with | none=>n = 0 | some g=>w.heap[g]? = some (.cells cur b.elem.t (b.elem.fzp cur.size)) /\ cur.size = b.cap * size /\ n <= b.cap /\ b.cap <= maxLen)
  (ba off m c:Nat) (news:List Value) (hl:news.length = m * size) (hnews:∀ (j:Nat) (u:Value), news[j]? = some u -> w.cell? ⟨ba, off + j, none⟩ = some u) (h1:∀ u ∈ news, u.oneCell' = true) (hm:0 < m)
  (hby:(n + m) * bytes <= 140737488355328) (hmax:n + m <= maxLen) (hcells:∀ t:Nat, t < n * size -> ∃ v, cur[t]? = some v /\ v.oneCell' = true):
  ∃ (w':World) (g':Nat) (cap':Nat) (e':EK) (cur':Array Value), (Builtin.append_ #[T, T] ty #[b.sl n, .slice (some ⟨ba, off, none⟩) m c]).run P w = .ok (.slice (some ⟨g', 0, none⟩) (n + m) cap') w' /\
   w'.heap[g']? = some (.cells cur' e'.t (e'.fzp cur'.size)) /\ cur'.size = cap' * size /\ n + m <= cap' /\ cap' <= maxLen /\ (∀ t:Nat, t < n * size -> cur'[t]? = cur[t]?) /\ (∀ t:Nat, t < m * size -> cur'[n * size + t]? = news[t]?) /\
   (b.blk = some g' ∨ w.heap.size = g') /\ w.grownBy w' b.blk:=by
 obtain ⟨hu, i, z, hi, hz, hsz, hbt, hzs, hpos⟩:=ht
 subst hsz
 subst hbt
 have hnews':∀ (j:Nat) (u:Value), news[j]? = some u -> w.cell? ((⟨ba, off, none⟩:Addr).add j) = some u:=fun j u h=>by rw [zfc]; exact hnews j u h
 have h63:((n + m:Nat):Int) <= 9223372036854775807:=by unfold maxLen at hmax; omega
 have grown:∀ (old:Nat) (olds:List Value), olds.length = n * i.size -> (∀ t:Nat, t < n * i.size -> olds[t]? = cur[t]?) -> old < n + m ->
   (Builtin.append_ #[T, T] ty #[b.sl n, .slice (some ⟨ba, off, none⟩) m c]).run P w = .ok (.slice (some ⟨w.heap.size, 0, none⟩) (n + m) (grownCap w (n + m) old E)) (w.drew.alloc (.cells (olds.toArray ++ news.toArray ++ Builtin.zeroCells z.cells (grownCap w (n + m) old E - (n + m))) E)) ->
   ∃ (w':World) (g':Nat) (cap':Nat) (e':EK) (cur':Array Value), (Builtin.append_ #[T, T] ty #[b.sl n, .slice (some ⟨ba, off, none⟩) m c]).run P w = .ok (.slice (some ⟨g', 0, none⟩) (n + m) cap') w' /\
   w'.heap[g']? = some (.cells cur' e'.t (e'.fzp cur'.size)) /\ cur'.size = cap' * i.size /\ n + m <= cap' /\ cap' <= maxLen /\ (∀ t:Nat, t < n * i.size -> cur'[t]? = cur[t]?) /\ (∀ t:Nat, t < m * i.size -> cur'[n * i.size + t]? = news[t]?) /\
   (b.blk = some g' ∨ w.heap.size = g') /\ w.grownBy w' b.blk:=by
  intro old olds ho hc ho2 hrun
  have hge:=grownCap_ge w (n + m) old E
  refine ⟨_, _, _, (⟨E, false⟩:EK), _, hrun, heap_alloc_new w.drew _, ?_, hge, grownCap_le_maxLen w (n + m) old E hmax, fun t ht=>?_, fun t ht=>?_, .inr rfl, ⟨rfl, rfl, rfl, by simp, fun k hk _=>heap_alloc_old w.drew _ hk⟩⟩
  ·simp only[Array.size_append, List.size_toArray, size_zeroCells, hzs, ho, hl, ← Nat.add_mul]
   congr 1
   omega
  ·rw [Array.append_assoc, Array.getElem?_append_left (by simpa [ho] using ht)]
   simpa using hc t ht
  ·rw [Array.append_assoc, Array.getElem?_append_right (by simp [ho]), Array.getElem?_append_left (by simp [ho, hl]; omega)]
   simp [ho]
 cases hg:b.blk with
 | none=>
  rw [hg] at hb
  simp only at hb
  subst hb
  have hr:=run_append_nil (P:=P) w T ty E i z hu hi hz ⟨ba, off, none⟩ m c news hl hnews' hm (by omega) (by simp only[Nat.zero_add] at hby; omega)
  have h:=grown 0 [] (by simp) (fun t ht=>by simp at ht) (by omega) (by
   simp only[PB.sl, hg, Nat.zero_add]
   simpa using hr)
  rw [hg] at h
  exact h
 | some g=>
  rw [hg] at hb
  simp only at hb
  obtain ⟨hc, hcs, hcn, hcm⟩:=hb
  by_cases hroom:n + m <= b.cap
  ·have hfit:n * i.size + news.length <= cur.size:=by rw [hl, hcs, ← Nat.add_mul]; exact Nat.mul_le_mul_right _ hroom
   obtain ⟨cur', h2, h3, h4⟩:=kD (P:=P) ty b.elem.t hu hi w g n b.cap cur hc (b.elem.free _) ⟨ba, off, none⟩ m c news hl hnews' h1 hroom hfit
   refine ⟨w.setRow g cur', g, b.cap, b.elem, cur', by simp only[PB.sl, hg]; exact h2, (by rw [h3]; exact setRow_heap w g cur _ b.elem.t _ hc), by rw [h3]; exact hcs, hroom, hcm, fun t ht=>?_, fun t ht=>?_, .inl rfl, ⟨rfl, rfl, rfl, by simp, fun k _ hk=>setRow_other w g k _ (fun e=>hk (by rw [e]))⟩⟩
   ·rw [h4, if_neg (by omega)]
   ·rw [h4, if_pos (by rw [hl]; omega)]
    congr 1
    omega
  ·have hcur:n * i.size <= cur.size:=by rw [hcs]; exact Nat.mul_le_mul_right _ hcn
   have hr:=run_append_grow (P:=P) w T ty E i z hu hi hz ⟨g, 0, none⟩ n b.cap (cur.toList.take (n * i.size)) (by simp; omega) (fun j v hv=>by
    rw [zfc, cell_of_row w g _ cur _ _ hc]
    rw [List.getElem?_take] at hv
    split at hv
    ·simpa using hv
    ·cases hv) ⟨ba, off, none⟩ m c news hl hnews' (by omega) h63 (growslice_fits (by omega) hby)
   have h:=grown b.cap (cur.toList.take (n * i.size)) (by simp; omega) (fun t ht=>by rw [List.getElem?_take, if_pos ht]; simp) (by omega) (by
    simp only[PB.sl, hg]
    exact hr)
   rw [hg] at h
   exact h
end
end Go.Av
end
section
namespace Go.Av
open Go.RowKit
section
variable {P:Program} {G:Glob} {st:ASt} {o:Oper}
theorem zmF {size t n:Nat} (h:t < n * size):t / size < n /\ t % size < size /\ (t / size) * size + t % size = t:=by
 have hsp:0 < size:=by
  rcases Nat.eq_zero_or_pos size with h0 | h0
  ·subst h0; simp at h
  ·exact h0
 exact ⟨Nat.div_lt_of_lt_mul (by rw [Nat.mul_comm]; exact h), Nat.mod_lt _ hsp, by rw [Nat.mul_comm, Nat.div_add_mod]⟩
theorem zmI {ok:Nat -> Prop} {w':World} {bs':List PB} {mem':List PO} {size:Nat} {rows ns:List (List EV)} {cur':Array Value} {us:List Value}
  (hs2:∀ r ∈ ns, r.length = size)
  (ho:∀ (i j:Nat) (r:List EV) (x:EV), rows[i]? = some r -> r[j]? = some x -> ∃ u, cur'[i * size + j]? = some u /\ u.oneCell' = true /\ FitsE ok w' bs' mem' x u)
  (hn:∀ t:Nat, t < ns.length * size -> cur'[rows.length * size + t]? = us[t]?) (h1:∀ v ∈ us, v.oneCell' = true)
  (hu:∀ (i j:Nat) (r:List EV) (x:EV), ns[i]? = some r -> r[j]? = some x -> ∃ v, us[i * size + j]? = some v /\ FitsE ok w' bs' mem' x v):
  ∀ (i j:Nat) (r:List EV) (x:EV), (rows ++ ns)[i]? = some r -> r[j]? = some x -> ∃ u, cur'[i * size + j]? = some u /\ u.oneCell' = true /\ FitsE ok w' bs' mem' x u:=by
 intro i j r x hr hx
 rw [List.getElem?_append] at hr
 split at hr
 ·exact ho i j r x hr hx
 ·rename_i hge
  obtain ⟨v, c1, c2⟩:=hu _ j r x hr hx
  have hi:i - rows.length < ns.length:=(zLg hr).1
  have hj:j < size:=by
   have:=(zLg hx).1
   rwa [hs2 r (List.mem_of_getElem? hr)] at this
  have hlt:(i - rows.length) * size + j < ns.length * size:=by
   have:(i - rows.length + 1) * size <= ns.length * size:=Nat.mul_le_mul_right _ hi
   rw [Nat.succ_mul] at this
   omega
  refine ⟨v, ?_, h1 v (List.mem_of_getElem? c1), c2⟩
  have:=hn _ hlt
  rw [c1] at this
  rw [← this]
  congr 1
  have h2:i * size = rows.length * size + (i - rows.length) * size:=by rw [← Nat.add_mul]; congr 1; omega
  omega
theorem yJ {T E:TypeId} {s x:Operand} {k n:Nat} {rows ns:List (List EV)} {size bytes:Nat} (ho:o.op = .call { callee:=.builtin .append, args:=#[s, x], argTypes:=#[T, T] }) (hd:jO o st.n = true)
  (hs:evO st.fr s = .psl k n) (hm:st.mem[k]? = some (.row rows)) (hn:rows.length = n) (hx:zoH st.mem (evO st.fr x) ns) (ht:elemIs P T E size bytes) (hs1:∀ r ∈ rows, r.length = size) (hs2:∀ r ∈ ns, r.length = size)
  (hby:(n + ns.length) * bytes <= 140737488355328) (hmax:n + ns.length <= maxLen):
  OpM P G st o ⟨st.n, qX st.fr o.dst (.psl k (n + ns.length)), st.mem.set k (.row (rows ++ ns))⟩:=by
 intro w0 ok0 a w hG hok hsit K Q hK
 obtain ⟨h0, h1', h2, ok, bs, h3, h4, h5, h6⟩:=hsit
 have hse:=qO (fr:=st.fr) (a:=a) (x:=s) fun t _=>h6.1 t
 rw [hs] at hse
 simp only[FitsE] at hse
 obtain ⟨b, hb, hse⟩:=hse
 have e:=(hse rows hm).2 hn
 obtain ⟨A, c, us, ex, u1, u2, u3, u4⟩:=src_of h5 (qO (fr:=st.fr) (a:=a) (x:=x) fun t _=>h6.1 t) hx hs2
 have hrow:=h5.row k b rows hb hm
 have hkl:k < bs.length:=(zLg hb).1
 have hkm:k < st.mem.length:=(zLg hm).1
 rcases Nat.eq_zero_or_pos ns.length with hz | hpos
 ·-- nothing comes
  have hns:ns = []:=List.eq_nil_of_length_eq_zero hz
  subst hns
  have hrun:(execOp a.eval o).run P w = .ok (.value (b.sl n)) w:=by
   refine zeD ho ?_
   rw [e, ex]
   cases hg:b.blk with
   | none=>
    have:=hrow.nil hg
    subst this
    simp at hn
    subst hn
    simp only[PB.sl, hg]
    exact zeA ht o.type none A 0 0 c (Nat.le_refl _) w
   | some g=>
    obtain ⟨_, _, _, hc, _⟩:=hrow.blk g hg
    simp only[PB.sl, hg]
    exact zeA ht o.type _ A n b.cap c (by omega) w
  refine jR hrun (hK _ _ ?_)
  have hms:st.mem.set k (.row (rows ++ [])) = st.mem:=by
   apply List.ext_getElem?
   intro t
   by_cases hkt:k = t
   ·subst hkt; rw [List.getElem?_set_self hkm, hm]; simp
   ·rw [List.getElem?_set_ne hkt]
  rw [hms]
  refine ⟨(size_put ..).trans h0, h1'.put (.refl _) (qC hd), h2, ok, bs, h3, h4, h5, ?_⟩
  refine wo h6 ?_ (fun d hdd=>by rw [h0]; exact yB hd d hdd)
  simp only[FitsE]
  refine ⟨b, hb, fun rows' hm'=>?_⟩
  rw [hm] at hm'
  injection hm' with hm'
  injection hm' with hm'
  subst hm'
  exact ⟨by simp [hn], fun _=>rfl⟩
 ·obtain ⟨ba, off, rfl, hbl, hcell⟩:=u3 hpos
  obtain ⟨cur, hcur⟩:∃ cur:Array Value, (match b.blk with | none=>n = 0 | some g=>w.heap[g]? = some (.cells cur b.elem.t (b.elem.fzp cur.size)) /\ cur.size = b.cap * size /\ n <= b.cap /\ b.cap <= maxLen) /\
    ∀ (i j:Nat) (r:List EV) (x:EV), rows[i]? = some r -> r[j]? = some x -> ∃ u, cur[i * size + j]? = some u /\ u.oneCell' = true /\ FitsE ok w bs st.mem x u:=by
   cases hg:b.blk with
   | none=>
    have:=hrow.nil hg
    subst this
    exact ⟨#[], by simpa using hn.symm, by simp⟩
   | some g=>
    obtain ⟨cur, c1, c2, c3, c4, c5⟩:=hrow.blk g hg
    have hp:=hrow.pos g hg
    have hbs:b.size = size:=by rw [← hrow.size rows[0] (List.getElem_mem hp), hs1 rows[0] (List.getElem_mem hp)]
    rw [hbs] at c2 c5
    exact ⟨cur, ⟨c1, c2, by omega, c4⟩, c5⟩
  obtain ⟨hcur1, hcur2⟩:=hcur
  have hkd:∀ w', w.grownBy w' b.blk -> KD w w':=fun w' r9=>by
   cases hg:b.blk with
   | none=>exact ⟨r9.size, fun D o hD _=>by rw [r9.block D (Array.getElem?_eq_some_iff.1 hD).1 (by simp [hg])]; exact hD⟩
   | some g=>
    obtain ⟨cur, c1, _⟩:=hrow.blk g hg
    exact .of_cells c1 r9.size (fun k hk hne=>r9.block k hk (by rw [hg]; intro e; injection e with e; exact hne e))
  obtain ⟨w', g', cap', e', cur', r1, r2, r3, r4, r5, r6, r7, r8, r9⟩:=zkC ht o.type w b n cur hcur1 ba off ns.length c us u1 hcell u2 hpos hby hmax (fun t htt=>by
   obtain ⟨i1, i2, i3⟩:=zmF htt
   have hi:t / size < rows.length:=by omega
   have hj:t % size < (rows[t / size]).length:=by rw [hs1 _ (List.getElem_mem hi)]; exact i2
   obtain ⟨u, c1, c2, _⟩:=hcur2 _ _ _ _ (List.getElem?_eq_getElem hi) (List.getElem?_eq_getElem hj)
   rw [i3] at c1
   exact ⟨u, c1, c2⟩)
  have hrun:(execOp a.eval o).run P w = .ok (.value (.slice (some ⟨g', 0, none⟩) (n + ns.length) cap')) w':=zeD ho (by rw [e, ex]; exact r1)
  have hturn:=h5.turn (w':=w') (b':=⟨some g', cap', e', size⟩) (rows':=rows ++ ns) hb hm r9.size (fun t htt htn=>r9.block t htt htn) (by simp) (fun hl=>by rw [List.length_append] at hl; omega)
   (fun g hg=>by
    simp at hg
    subst hg
    rcases r8 with h | h
    ·exact .inl h
    ·exact .inr (Nat.le_of_eq h)) h2.size (fun hfit=>by
   refine ⟨fun r hr=>?_, fun hnn=>(by simp at hnn), fun _ _=>(by simp; omega), fun g hg=>?_⟩
   ·rcases List.mem_append.1 hr with h | h
    ·exact hs1 r h
    ·exact hs2 r h
   ·simp at hg
    subst hg
    refine ⟨cur', r2, r3, by simpa [hn] using r4, r5, ?_⟩
    refine zmI hs2 (fun i j r x hr hx=>?_) (fun t htt=>by rw [hn]; exact r7 t htt) u2 (fun i j r x hr hx=>?_)
    ·obtain ⟨u, c1, c2, c3⟩:=hcur2 i j r x hr hx
     refine ⟨u, ?_, c2, hfit _ _ c3⟩
     have hi:i < rows.length:=(zLg hr).1
     have hj:j < size:=by
      have:=(zLg hx).1
      rwa [hs1 r (List.mem_of_getElem? hr)] at this
     rw [r6]
     ·exact c1
     ·have h20:(i + 1) * size <= n * size:=Nat.mul_le_mul_right _ (by omega)
      have h21:(i + 1) * size = i * size + size:=Nat.succ_mul i size
      have h22:i * size + j < i * size + size:=Nat.add_lt_add_left hj _
      exact Nat.lt_of_lt_of_le h22 (by rw [← h21]; exact h20)
    ·obtain ⟨v, c1, c2⟩:=u4 i j r x hr hx
     exact ⟨v, c1, hfit _ _ c2⟩)
  obtain ⟨hm', hf'⟩:=hturn
  refine jR hrun (hK _ _ ⟨(size_put ..).trans h0, h1'.put (hkd w' r9) (qC hd), ?_, ok, bs.set k ⟨some g', cap', e', size⟩, h3, h4, hm', ?_⟩)
  ·refine h2.trans ⟨r9.os, r9.tape, r9.output, r9.size, fun t htt=>r9.block t (Nat.lt_of_lt_of_le htt h2.size) fun e=>?_⟩
   have:=(h5.own k b rows t hb hm e.symm).1
   omega
  ·refine wo (h6.map hf') ?_ (fun d hdd=>by rw [h0]; exact yB hd d hdd)
   simp only[FitsE]
   refine ⟨⟨some g', cap', e', size⟩, by simp [hkl], fun rows' hm''=>?_⟩
   rw [List.getElem?_set_self hkm] at hm''
   injection hm'' with hm''
   injection hm'' with hm''
   subst hm''
   exact ⟨by simp [hn], fun _=>rfl⟩
theorem zvK {T E:TypeId} {s x:Operand} {c0:Nat} {ns:List (List EV)} {size bytes:Nat} (ho:o.op = .call { callee:=.builtin .append, args:=#[s, x], argTypes:=#[T, T] }) (hd:jO o st.n = true)
  (hs:evO st.fr s = .pub (.v (.slice none 0 c0))) (hc0:c0 = 0) (hx:zoH st.mem (evO st.fr x) ns) (ht:elemIs P T E size bytes) (hs2:∀ r ∈ ns, r.length = size)
  (hby:ns.length * bytes <= 140737488355328) (hmax:ns.length <= maxLen):
  OpM P G st o ⟨st.n, qX st.fr o.dst (.psl st.mem.length ns.length), st.mem ++ [.row ns]⟩:=by
 subst hc0
 intro w0 ok0 a w hG hok hsit K Q hK
 obtain ⟨h0, h1', h2, ok, bs, h3, h4, h5, h6⟩:=hsit
 have e:a.eval s = .slice none 0 0:=by
  have hse:=qO (fr:=st.fr) (a:=a) (x:=s) fun t _=>h6.1 t
  rw [hs] at hse
  simp only[FitsE, Fits] at hse
  exact hse.1
 obtain ⟨A, c, us, ex, u1, u2, u3, u4⟩:=src_of h5 (qO (fr:=st.fr) (a:=a) (x:=x) fun t _=>h6.1 t) hx hs2
 have ht':=Turn.push h5.len
 rcases Nat.eq_zero_or_pos ns.length with hz | hpos
 ·have hns:ns = []:=List.eq_nil_of_length_eq_zero hz
  subst hns
  have hrun:(execOp a.eval o).run P w = .ok (.value (.slice none 0 0)) w:=zeD ho (by rw [e, ex]; exact zeA ht o.type none A 0 0 c (Nat.le_refl _) w)
  refine jR hrun (hK _ _ (Sit.push (b:=⟨none, 0, E, size⟩) h0 h1' h2 h3 h4 h5 h6 (Below.refl _ _) ⟨by simp, fun _=>rfl, fun g hg=>(by simp at hg), fun g hg=>(by simp at hg)⟩ (fun g hg=>by simp at hg) ?_ (qC hd)))
  simp only[FitsE]
  refine ⟨⟨none, 0, E, size⟩, by rw [← h5.len]; simp, fun rows hr=>?_⟩
  simp at hr
  subst hr
  exact ⟨by simp, fun _=>rfl⟩
 ·obtain ⟨ba, off, rfl, hbl, hcell⟩:=u3 hpos
  obtain ⟨w', g', cap', e', cur', r1, r2, r3, r4, r5, r6, r7, r8, r9⟩:=zkC ht o.type w ⟨none, 0, E, size⟩ 0 #[] rfl ba off ns.length c us u1 hcell u2 hpos (by simpa using hby) (by simpa using hmax) (fun t htt=>by simp at htt)
  have hg':w.heap.size = g':=r8.resolve_left (by simp)
  have hrun:(execOp a.eval o).run P w = .ok (.value (.slice (some ⟨g', 0, none⟩) (0 + ns.length) cap')) w':=zeD ho (by rw [e, ex]; exact r1)
  have hbel:Below w.heap.size w w':=⟨r9.os, r9.tape, r9.output, r9.size, fun t htt=>r9.block t htt (by simp)⟩
  refine jR hrun (hK _ _ (Sit.push (b:=⟨some g', cap', e', size⟩) h0 h1' h2 h3 h4 h5 h6 hbel ⟨hs2, fun hnn=>(by simp at hnn), fun _ _=>hpos, fun g hg=>?_⟩ (fun g hg=>by simp at hg; omega) ?_ (qC hd)))
  ·simp at hg
   subst hg
   refine ⟨cur', r2, r3, by simpa using r4, r5, fun i j r x hr hx=>?_⟩
   have hfit:∀ (e:EV) (u:Value), FitsE ok w bs st.mem e u -> FitsE ok w' (bs ++ [⟨some g', cap', e', size⟩]) (st.mem ++ [.row ns]) e u:=fun e u h=>h.mono (fun _ hb=>hb) (fun b hb=>hbel.block b (h5.lt b hb)) (ht' _ _)
   have:=zmI (rows:=[]) (ns:=ns) (cur':=cur') (us:=us) (ok:=ok) (w':=w') (bs':=bs ++ [⟨some g', cap', e', size⟩]) (mem':=st.mem ++ [.row ns]) hs2 (by simp) (fun t htt=>by simpa using r7 t htt) u2 (fun i j r x hr hx=>by
    obtain ⟨v, c1, c2⟩:=u4 i j r x hr hx
    exact ⟨v, c1, hfit _ _ c2⟩) i j r x (by simpa using hr) hx
   exact this
  ·simp only[FitsE]
   refine ⟨⟨some g', cap', e', size⟩, by rw [← h5.len]; simp, fun rows hr=>?_⟩
   simp at hr
   subst hr
   exact ⟨Nat.le_refl _, fun _=>by simp [PB.sl]⟩
end
end Go.Av
end
section
namespace Go.Av
open Go.RowKit
mutual
/-- What stands in a slot names parts below k alone. -/
def EV.lt (k:Nat):EV -> Prop
 | .pub _=>True
 | .psl l _=>l < k
 | .pp l _ _ _=>l < k
 | .mix cs=>EV.ltL k cs
 | .fnm _ fs cs=>EV.ltL k fs /\ EV.ltL k cs
 | .mpv l=>l < k
 | .tpl cs=>EV.ltL k cs
def EV.ltL (k:Nat):List EV -> Prop
 | []=>True
 | x :: xs=>x.lt k /\ EV.ltL k xs
end
mutual
theorem zdn {ok:Nat -> Prop} {w:World} {bs:List PB} {mem:List PO} {k:Nat}:∀ {e:EV} {u:Value}, e.lt k -> FitsE ok w bs mem e u -> FitsE ok w (bs.take k) (mem.take k) e u
 | .pub x, u, _, h=>by simpa only [FitsE] using h
 | .psl l n, u, hl, h=>by
  simp only[FitsE] at h ⊢
  obtain ⟨b, hb, h⟩:=h
  simp only[EV.lt] at hl
  exact ⟨b, by rw [List.getElem?_take, if_pos hl]; exact hb, fun rows hm=>h rows (by rwa [List.getElem?_take, if_pos hl] at hm)⟩
 | .pp l n i j, u, hl, h=>by
  simp only[FitsE] at h ⊢
  obtain ⟨b, hb, h⟩:=h
  simp only[EV.lt] at hl
  exact ⟨b, by rw [List.getElem?_take, if_pos hl]; exact hb, fun rows hm=>h rows (by rwa [List.getElem?_take, if_pos hl] at hm)⟩
 | .mix cs, u, he, h=>by
  simp only[FitsE] at h ⊢
  simp only[EV.lt] at he
  obtain ⟨vs, e, h1, h2⟩:=h
  exact ⟨vs, e, h1, zcc he h2⟩
 | .fnm f fs cs, u, he, h=>by
  simp only[FitsE] at h ⊢
  simp only[EV.lt] at he
  obtain ⟨us, vs, e, h1, h2⟩:=h
  exact ⟨us, vs, e, zcc he.1 h1, zcc he.2 h2⟩
 | .tpl cs, u, he, h=>by
  simp only[FitsE] at h ⊢
  simp only[EV.lt] at he
  obtain ⟨vs, e, h2⟩:=h
  exact ⟨vs, e, zcc he h2⟩
 | .mpv l, u, hl, h=>by
  simp only[FitsE] at h ⊢
  obtain ⟨b, hb, h⟩:=h
  simp only[EV.lt] at hl
  exact ⟨b, by rw [List.getElem?_take, if_pos hl]; exact hb, fun es hm=>h es (by rwa [List.getElem?_take, if_pos hl] at hm)⟩
theorem zcc {ok:Nat -> Prop} {w:World} {bs:List PB} {mem:List PO} {k:Nat}:∀ {l:List EV} {us:List Value}, EV.ltL k l -> FitsEL ok w bs mem l us -> FitsEL ok w (bs.take k) (mem.take k) l us
 | [], us, _, h=>by simpa only [FitsEL] using h
 | x :: xs, us, hl, h=>by
  simp only[FitsEL] at h ⊢
  simp only[EV.ltL] at hl
  obtain ⟨u, us', e, h1, h2⟩:=h
  exact ⟨u, us', e, zdn hl.1 h1, zcc hl.2 h2⟩
end
mutual
theorem zcZ {ok:Nat -> Prop} {w:World} {bs:List PB} {mem:List PO}:∀ {e:EV} {u:Value}, FitsE ok w bs mem e u -> e.lt bs.length
 | .pub x, u, h=>by simp only[EV.lt]
 | .psl l n, u, h=>by
  simp only[FitsE] at h
  simp only[EV.lt]
  obtain ⟨b, hb, _⟩:=h
  exact (zLg hb).1
 | .pp l n i j, u, h=>by
  simp only[FitsE] at h
  simp only[EV.lt]
  obtain ⟨b, hb, _⟩:=h
  exact (zLg hb).1
 | .mix cs, u, h=>by
  simp only[FitsE] at h
  simp only[EV.lt]
  obtain ⟨vs, _, _, h2⟩:=h
  exact kz h2
 | .fnm f fs cs, u, h=>by
  simp only[FitsE] at h
  simp only[EV.lt]
  obtain ⟨us, vs, _, h1, h2⟩:=h
  exact ⟨kz h1, kz h2⟩
 | .tpl cs, u, h=>by
  simp only[FitsE] at h
  simp only[EV.lt]
  obtain ⟨vs, _, h2⟩:=h
  exact kz h2
 | .mpv l, u, h=>by
  simp only[FitsE] at h
  simp only[EV.lt]
  obtain ⟨b, hb, _⟩:=h
  exact (zLg hb).1
theorem kz {ok:Nat -> Prop} {w:World} {bs:List PB} {mem:List PO}:∀ {l:List EV} {us:List Value}, FitsEL ok w bs mem l us -> EV.ltL bs.length l
 | [], us, _=>by simp only[EV.ltL]
 | x :: xs, us, h=>by
  simp only[FitsEL] at h
  simp only[EV.ltL]
  obtain ⟨u, us', _, h1, h2⟩:=h
  exact ⟨zcZ h1, kz h2⟩
end
theorem zc6 {n:NS} {fr:Nat -> EV} {mem:List PO} (k:Nat) (hf:∀ t, (fr t).lt k) (hm:∀ (l:Nat) (rows:List (List EV)), l < k -> mem[l]? = some (.row rows) -> ∀ r ∈ rows, ∀ x ∈ r, x.lt k) (hgh:∀ p ∈ n.gh, p.1.lt k) (hme:∀ (l:Nat) (es:List (Value × EV)), l < k -> mem[l]? = some (.map es) -> ∀ p ∈ es, p.2.lt k):Weak ⟨n, fr, mem⟩ ⟨n, fr, mem.take k⟩:=by
 intro w0 ok0 a w ⟨h0, h1, h2, ok, bs, h3, h4, h5, h6⟩
 have get:∀ {α:Type} (l:Nat) (xs:List α) (x:α), (xs.take k)[l]? = some x -> l < k /\ xs[l]? = some x:=fun l xs x h=>by
  rw [List.getElem?_take] at h
  split at h
  ·rename_i hl; exact ⟨hl, h⟩
  ·cases h
 refine ⟨h0, h1, h2, ok, bs.take k, h3, h4, ⟨?_, h5.lt, fun l b rows hb hmm=>?_, fun l b es hb hmm=>?_, fun l b o g hb hmm ho hg=>?_, fun l l' b b' o o' g hb hmm ho hb' hmm' ho' hg hg'=>?_⟩, fun t=>zdn (hf t) (h6.1 t), fun p hp=>zdn (hgh p hp) (h6.2 p hp)⟩
 ·have:=h5.len
  simp only at this ⊢
  rw [List.length_take, List.length_take, this]
 ·obtain ⟨hl, hb⟩:=get l bs b hb
  obtain ⟨_, hmm⟩:=get l mem _ hmm
  have hr:=h5.row l b rows hb hmm
  refine ⟨hr.size, hr.nil, hr.pos, fun g hg=>?_⟩
  obtain ⟨cur, c1, c2, c3, c4, c5⟩:=hr.blk g hg
  refine ⟨cur, c1, c2, c3, c4, fun i j r x hri hx=>?_⟩
  obtain ⟨u, d1, d2, d3⟩:=c5 i j r x hri hx
  exact ⟨u, d1, d2, zdn (hm l rows hl hmm r (List.mem_of_getElem? hri) x (List.mem_of_getElem? hx)) d3⟩
 ·obtain ⟨hl, hb⟩:=get l bs b hb
  obtain ⟨_, hmm⟩:=get l mem _ hmm
  obtain ⟨g, arr, c1, c2, c3, c4⟩:=h5.mp l b es hb hmm
  refine ⟨g, arr, c1, c2, c3, fun i q x hx=>?_⟩
  obtain ⟨v, d1, d2⟩:=c4 i q x hx
  exact ⟨v, d1, zdn (hme l es hl hmm (q, x) (List.mem_of_getElem? hx)) d2⟩
 ·obtain ⟨_, hb⟩:=get l bs b hb
  obtain ⟨_, hmm⟩:=get l mem _ hmm
  exact h5.own' l b o g hb hmm ho hg
 ·obtain ⟨_, hb⟩:=get l bs b hb
  obtain ⟨_, hmm⟩:=get l mem _ hmm
  obtain ⟨_, hb'⟩:=get l' bs b' hb'
  obtain ⟨_, hmm'⟩:=get l' mem _ hmm'
  exact h5.dist' l l' b b' o o' g hb hmm ho hb' hmm' ho' hg hg'
theorem zaR {n:NS} {fr:Nat -> EV} {mem:List PO} (d:Tmp) (h:fr d = .pub (.v (.slice none 0 0))):Weak ⟨n, fr, mem⟩ ⟨n, qX fr (some d) (.psl mem.length 0), mem ++ [.row []]⟩:=by
 intro w0 ok0 a w ⟨h0, h1, h2, ok, bs, h3, h4, h5, h6⟩
 have ht:=Turn.push h5.len ⟨none, 0, 0, 0⟩ (.row [])
 refine ⟨h0, h1, h2, ok, bs ++ [⟨none, 0, 0, 0⟩], h3, h4, h5.push (Below.refl _ _) h2.size ⟨by simp, fun _=>rfl, fun g hg=>(by simp at hg), fun g hg=>(by simp at hg)⟩ (fun g hg=>by simp at hg), fun t=>?_, fun p hp=>(h6.2 p hp).mono (fun _ hb=>hb) (fun _ _=>rfl) ht⟩
 simp only[zai]
 by_cases htd:t = d
 ·subst htd
  simp only[if_true]
  have h7:=h6.1 t
  simp only at h7
  rw [h] at h7
  simp only[FitsE, Fits] at h7
  simp only[FitsE]
  have hlen:=h5.len
  simp only at hlen
  refine ⟨⟨none, 0, 0, 0⟩, by rw [← hlen]; simp, fun rows hr=>?_⟩
  simp at hr
  subst hr
  exact ⟨Nat.le_refl _, fun _=>h7.1⟩
 ·simp only[if_neg htd]
  exact (h6.1 t).mono (fun _ hb=>hb) (fun _ _=>rfl) ht
end Go.Av
end
section
namespace Go.Av
open Go.RowKit
section
variable {r:Option Nat} {P:Program} {G:Glob} {st:ASt} {ops:Array Oper} {l:List Oper} {Q:Exit -> ASt -> Prop}
theorem qP {o1 o2:Oper} {T:TypeId} {d:Tmp} {x:Operand} {cs:List AV} {z:Value} {agg:Bool} {size:Nat} (g1:o1.guard.isNone = true) (g2:o2.guard.isNone = true) (h1:o1.op = .alloc T) (hd1:o1.dst = some d) (hd:jO o1 st.n = true)
  (h2:o2.op = .store T (.tmp d) x) (hd2:o2.dst = none) (hz:(P.info? T).bind (·.zero) = some z) (ht:tyIs P T agg size = true) (hzs:z.cells.size = size) (hcl:cs.length = size)
  (hx:wZ st.mem (evO st.fr x) (cs.map .pub)) (hne:(match x with | .tmp t=>Nat.beq t d | _=>false) = false)
  (h:jP (r:=r) P G ops l ⟨st.n, qX st.fr (some d) (.pub (.ptr cs)), st.mem⟩ Q):jP (r:=r) P G ops (o1 :: o2 :: l) st Q:=by
 intro w0 ok0 a w hG hok ⟨c0, c1, c2, ok, bs, c3, c4, c5, c6⟩
 obtain ⟨us, u1, u2, u3⟩:=zaL (qO (fr:=st.fr) (a:=a) (x:=x) fun t _=>c6.1 t) hx
 have hul:us.length = size:=by rw [u3.length]; simpa using hcl
 have hdl:d < st.n.n:=yB hd d hd1
 have hrun1:(execOp a.eval o1).run P w = .ok (.value (.pointer (some ⟨w.heap.size, 0, none⟩))) (w.alloc (.cells z.cells T)):=by
  cases hi:P.info? T with
  | none=>simp [hi] at hz
  | some i=>
   have hz':i.zero = some z:=by simpa [hi] using hz
   simp [execOp, h1, Instr.alloc, zeroValue, typeInfo, hi, hz', newVar, newRow]
 refine wpListIn_plain (by simpa using g1) fun K hK=>yg (by rw [h1]; simp) <| jR hrun1 (hK _ _ ?_)
 have hev:(a.put o1.dst (.pointer (some ⟨w.heap.size, 0, none⟩))).eval x = a.eval x:=by
  rw [hd1]
  cases x with
  | tmp t=>
   have:t ≠ d:=fun e=>by subst e; simp at hne
   simp only[Act.eval, Act.put, getD_put]
   simp [this]
  | _=>rfl
 have hpv:(a.put o1.dst (.pointer (some ⟨w.heap.size, 0, none⟩))).eval (.tmp d) = .pointer (some ⟨w.heap.size, 0, none⟩):=by
  rw [hd1]
  have hlt:d < a.tmps.size:=by rw [c0]; exact hdl
  simp [Act.eval, Act.put, hlt]
 obtain ⟨cur', r1, r2, r3⟩:=store_run (P:=P) w.heap.size 0 T z.cells us (w.alloc (.cells z.cells T)) (heap_alloc_new w _) (.inl rfl) (by omega) u2
 refine wpListIn_plain (by simpa using g2) fun K hK=>?_
 have hrun2:(execOp (a.put o1.dst (.pointer (some ⟨w.heap.size, 0, none⟩))).eval o2).run P (w.alloc (.cells z.cells T)) = .ok .skip ((w.alloc (.cells z.cells T)).setRow w.heap.size cur'):=by
  simp only[execOp, h2, hpv, hev, Instr.storeAt, Instr.sureAddr, Sem.run_bind, Sem.run_pure, Result.andThen_ok, storeVar, sizeOf_of ht, u1]
  simp [hul, r1]
 refine yg (by rw [h2]; simp) ?_
 unfold Oper.wp
 rw [hrun2]
 simp only[Oper.upon]
 refine hK _ _ ?_
 have hpn:∀ b:Act, b.put o2.dst undef = b:=fun b=>by rw [hd2]; rfl
 rw [hpn]
 have hheap:((w.alloc (.cells z.cells T)).setRow w.heap.size cur').heap[w.heap.size]? = some (.cells cur' T (0, 0)):=setRow_heap _ _ _ _ T _ (heap_alloc_new w _)
 have hbel:Below w.heap.size w ((w.alloc (.cells z.cells T)).setRow w.heap.size cur'):=⟨rfl, rfl, rfl, by simp, fun k hk=>by
  rw [setRow_other _ _ k _ (by omega)]
  exact heap_alloc_old w _ hk⟩
 refine h w0 ok0 _ _ hG hok ?_
 rw [hd1]
 refine Sit.put c0 c1 c2 c3 c4 c5 c6 hbel ?_ (fun e he=>by injection he with he; subst he; exact qC hd _ hd1)
 simp only[FitsE, Fits]
 refine ⟨w.heap.size, 0, rfl, .inr ⟨Nat.le_refl _, by simp⟩, FitsC.of_get fun i y hy=>?_⟩
 obtain ⟨u, e1, e2⟩:=(FitsEL.pub.1 u3).get hy
 refine ⟨u, ?_, u2 u (List.mem_of_getElem? e1), e2.mono (fun b hb=>.inl hb) (fun b hb=>hbel.block b (c5.lt b hb))⟩
 rw [cell_of_row _ _ _ cur' T _ hheap, r3, if_pos (by
  have:=(zLg e1).1
  omega)]
 simpa using e1
end
end Go.Av
end
section
namespace Go.Av
open Go.RowKit
section
variable {P:Program} {G:Glob} {ops:Array Oper} {md:Region.Mode}
def OpB (P:Program) (G:Glob) (fr:Nat -> EV) (mem:List PO) (o:Oper) (e:EV) (mem':List PO):Prop:=
 ∀ (n:NS) (fr2:Nat -> EV), (∀ y ∈ o.op.operands, evO fr2 y = evO fr y) -> jO o n = true -> OpM P G ⟨n, fr2, mem⟩ o ⟨n, qX fr2 o.dst e, mem'⟩
theorem OpB.of_same {fr fr':Nat -> EV} {mem mem':List PO} {o:Oper} {e:EV} (h:OpB P G fr mem o e mem') (he:∀ y ∈ o.op.operands, evO fr' y = evO fr y):OpB P G fr' mem o e mem':=
 fun n fr2 h2 hd=>h n fr2 (fun y hy=>(h2 y hy).trans (he y hy)) hd
inductive How where
 | rd (R:List Nat) | here | out | writes | rw (R:List Nat) (l:Nat) | grow (R:List Nat) (n:Nat)
@[reducible] def How.stable:How:=.rd []
@[reducible] def How.own (l:Nat):How:=.rw [] l
def Agree (R:List Nat) (m m':List PO):Prop:=∀ l ∈ R, m[l]? = m'[l]?
theorem Agree.nil (m m':List PO):Agree [] m m':=fun _ h=>by cases h
theorem Agree.one {R:List Nat} {m m':List PO} (h:Agree R m m') (l:Nat) (hl:R.contains l = true):m[l]? = m'[l]?:=h l (by simpa using hl)
def StepA (P:Program) (G:Glob) (ops:Array Oper) (C:List PO -> Prop) (o:Oper) (fr:Nat -> EV) (mem:List PO) (e:EV) (mem':List PO):How -> Prop
 | .rd R=>qQ ops fr o = some true /\ (∀ m, Agree R m mem -> C m -> OpY P G fr m o e) /\ mem' = mem
 | .here=>qQ ops fr o = some true /\ OpY P G fr mem o e /\ mem' = mem
 | .out=>qQ ops fr o = some false /\ e = zal /\ mem' = mem
 | .writes=>o.guard = none /\ OpB P G fr mem o e mem' /\ C mem'
 | .rw R l=>o.guard = none /\ ∃ x, mem' = mem.set l x /\ ∀ m:List PO, Agree (l :: R) m mem -> C m -> OpB P G fr m o e (m.set l x) /\ C (m.set l x)
 | .grow R n=>o.guard = none /\ ∃ xs, mem' = mem ++ xs /\ mem.length = n /\ ∀ m:List PO, m.length = n -> Agree R m mem -> C m -> OpB P G fr m o e (m ++ xs) /\ C (m ++ xs)
abbrev Wr:=List Nat
def zbV (P:Program) (G:Glob) (ops:Array Oper) (C:List PO -> Prop) (hows:Nat -> How) (Q:(Nat -> EV) -> List PO -> Prop):Nat -> List Oper -> (Nat -> EV) -> List PO -> Prop
 | _, [], fr, mem=>Q fr mem
 | k, o :: rest, fr, mem=>∃ e mem', StepA P G ops C o fr mem e mem' (hows k) /\ zbV P G ops C hows Q (k + 1) rest (qX fr o.dst e) mem'
def zn8 (P:Program) (G:Glob) (ops:Array Oper) (C:List PO -> Prop) (hows:Nat -> How) (i:Nat) (K:(Nat -> EV) -> List PO -> Prop) (fr:Nat -> EV) (mem:List PO):Prop:=
 match ops[i]? with
 | none=>K fr mem
 | some o=>∃ e mem', StepA P G ops C o fr mem e mem' (hows i) /\ K (qX fr o.dst e) mem'
def zfm (P:Program) (G:Glob) (md:Region.Mode) (ops:Array Oper) (C:List PO -> Prop) (hows:Nat -> How) (Q:(Nat -> EV) -> List PO -> Prop):Nat -> Array Bool -> (Nat -> EV) -> List PO -> Prop
 | 0, listed, fr, mem=>Region.ready md ops listed = [] /\ Q fr mem
 | fuel + 1, listed, fr, mem=>
  (Region.ready md ops listed = [] -> Q fr mem) /\
  ∀ i ∈ Region.ready md ops listed, zn8 P G ops C hows i (zfm P G md ops C hows Q fuel (listed.setIfInBounds i true)) fr mem
def How.free:How -> How -> Bool
 | .rw R l, .rw R' l'=>!(Nat.beq l l') && !R'.contains l && !R.contains l'
 | .rw _ l, .rd R=>!R.contains l
 | .rd R, .rw _ l=>!R.contains l
 | .rw R' l, .grow R n=>Nat.blt l n && !R.contains l && R'.all (fun k=>Nat.blt k n)
 | .grow R n, .rw R' l=>Nat.blt l n && !R.contains l && R'.all (fun k=>Nat.blt k n)
 | .rd R', .grow _ n=>R'.all (fun k=>Nat.blt k n)
 | .grow _ n, .rd R'=>R'.all (fun k=>Nat.blt k n)
 | .grow .., .out=>true
 | .out, .grow ..=>true
 | .grow .., _=>false
 | _, .grow ..=>false
 | .rw .., .here=>false
 | .here, .rw ..=>false
 | .rw .., .writes=>false
 | .writes, .rw ..=>false
 | .writes, .writes=>false
 | .writes, .here=>false
 | .here, .writes=>false
 | .rd R, .writes=>R.isEmpty
 | .writes, .rd R=>R.isEmpty
 | _, _=>true
def zhF (md:Region.Mode) (ops:Array Oper) (hows:Nat -> How) (listed:Array Bool) (i:Nat):Bool:=
 (List.range ops.size).all fun j=>listed.getD j true || j == i ||
  (match ops[j]? with | some oj=>(oj.after.toList.any fun e=>Region.binds md e && e.on == i) | none=>true) || (hows i).free (hows j)
def ze0 (md:Region.Mode) (ops:Array Oper) (hows:Nat -> How):Nat -> Nat -> Array Bool -> Bool
 | 0, _, _=>true
 | fuel + 1, k, listed=>zhF md ops hows listed k && ze0 md ops hows fuel (k + 1) (listed.setIfInBounds k true)
theorem zhK {hows:Nat -> How} {listed:Array Bool} {i j:Nat} {oj:Oper} (h:zhF md ops hows listed i = true) (hj:ops[j]? = some oj) (hji:j ≠ i) (hun:listed.getD j true = false)
  (hno:∀ e ∈ oj.after, Region.binds md e = true -> e.on ≠ i):(hows i).free (hows j) = true:=by
 unfold zhF at h
 rw [List.all_eq_true] at h
 have hlt:j < ops.size:=(Array.getElem?_eq_some_iff.1 hj).1
 have:=h j (List.mem_range.2 hlt)
 rw [hj, hun] at this
 simp only[Bool.false_or, Bool.or_eq_true, beq_iff_eq] at this
 rcases this with (h1 | h1) | h1
 ·exact absurd h1 hji
 ·rw [List.any_eq_true] at h1
  obtain ⟨e, he, hb⟩:=h1
  simp only[zLa, beq_iff_eq] at hb
  exact absurd hb.2 (hno e (by simpa using he) hb.1)
 ·exact h1
theorem StepA.of_set {C:List PO -> Prop} {oi:Oper} {fr:Nat -> EV} {mem mem':List PO} {e u:EV} {hw:How} {d:Option Tmp} (h:StepA P G ops C oi fr mem e mem' hw) (hl:∀ t, d = some t -> t ∉ oi.looksAt ops):StepA P G ops C oi (qX fr d u) mem e mem' hw:=by
 cases hw with
 | rd R=>exact ⟨by rw [wu hl]; exact h.1, fun m ha hm=>(h.2.1 m ha hm).of_same (zbq hl), h.2.2⟩
 | here=>exact ⟨by rw [wu hl]; exact h.1, h.2.1.of_same (zbq hl), h.2.2⟩
 | out=>exact ⟨by rw [wu hl]; exact h.1, h.2⟩
 | writes=>exact ⟨h.1, h.2.1.of_same (zbq hl), h.2.2⟩
 | rw R l=>obtain ⟨h1, x, h2, h3⟩:=h; exact ⟨h1, x, h2, fun m hm hC=>⟨(h3 m hm hC).1.of_same (zbq hl), (h3 m hm hC).2⟩⟩
 | grow R n=>obtain ⟨h1, x, h2, h4, h3⟩:=h; exact ⟨h1, x, h2, h4, fun m hn hm hC=>⟨(h3 m hn hm hC).1.of_same (zbq hl), (h3 m hn hm hC).2⟩⟩
theorem StepA.un_set {C:List PO -> Prop} {oj:Oper} {fr:Nat -> EV} {mem mem':List PO} {e u:EV} {hw:How} {d:Option Tmp} (h:StepA P G ops C oj (qX fr d u) mem e mem' hw) (hl:∀ t, d = some t -> t ∉ oj.looksAt ops):StepA P G ops C oj fr mem e mem' hw:=by
 have he:∀ y ∈ oj.op.operands, evO fr y = evO (qX fr d u) y:=fun y hy=>(zbq hl y hy).symm
 cases hw with
 | rd R=>exact ⟨by rw [← wu hl]; exact h.1, fun m ha hm=>(h.2.1 m ha hm).of_same he, h.2.2⟩
 | here=>exact ⟨by rw [← wu hl]; exact h.1, h.2.1.of_same he, h.2.2⟩
 | out=>exact ⟨by rw [← wu hl]; exact h.1, h.2⟩
 | writes=>exact ⟨h.1, h.2.1.of_same he, h.2.2⟩
 | rw R l=>obtain ⟨h1, x, h2, h3⟩:=h; exact ⟨h1, x, h2, fun m hm hC=>⟨(h3 m hm hC).1.of_same he, (h3 m hm hC).2⟩⟩
 | grow R n=>obtain ⟨h1, x, h2, h4, h3⟩:=h; exact ⟨h1, x, h2, h4, fun m hn hm hC=>⟨(h3 m hn hm hC).1.of_same he, (h3 m hn hm hC).2⟩⟩
theorem Agree.set {R:List Nat} {m mem:List PO} {l:Nat} {x:PO} (hl:l ∉ R):Agree R m (mem.set l x) ↔ Agree R m mem:=by
 constructor <;> intro h k hk
 ·have:=h k hk
  rwa [List.getElem?_set_ne (fun e=>hl (by rw [e]; exact hk))] at this
 ·rw [List.getElem?_set_ne (fun e=>hl (by rw [e]; exact hk))]; exact h k hk
theorem Agree.app {R:List Nat} {m mem xs:List PO} {n:Nat} (hn:mem.length = n) (hR:R.all (fun k=>Nat.blt k n) = true):Agree R m (mem ++ xs) ↔ Agree R m mem:=by
 have e:∀ k ∈ R, (mem ++ xs)[k]? = mem[k]?:=fun k hk=>by
  have:=List.all_eq_true.1 hR k hk
  rw [Nat.blt_eq] at this
  rw [List.getElem?_append_left (by omega)]
 constructor <;> intro h k hk
 ·rw [← e k hk]; exact h k hk
 ·rw [e k hk]; exact h k hk
theorem StepA.swap {C:List PO -> Prop} {oi oj:Oper} {fr fr':Nat -> EV} {mem m1 m2:List PO} {e u:EV} {hi hj:How} (hf:hi.free hj = true) (hC:C mem) (h1:StepA P G ops C oi fr mem e m1 hi) (h2:StepA P G ops C oj fr' m1 u m2 hj):
  ∃ m1', StepA P G ops C oj fr' mem u m1' hj /\ StepA P G ops C oi fr m1' e m2 hi /\ C m1':=by
 have rfl':∀ (R:List Nat) (m:List PO), Agree R m m:=fun R m l _=>rfl
 cases hi with
 | grow R n=>
  cases hj with
  | rd R'=>
   have hl:R'.all (fun k=>Nat.blt k n) = true:=by simpa [How.free] using hf
   obtain ⟨a1, xs, rfl, a4, a3⟩:=h1; obtain ⟨b1, b2, rfl⟩:=h2
   exact ⟨mem, ⟨b1, fun m ha hm=>b2 m ((Agree.app a4 hl).2 ha) hm, rfl⟩, ⟨a1, xs, rfl, a4, a3⟩, hC⟩
  | here=>simp [How.free] at hf
  | out=>obtain ⟨a1, xs, rfl, a4, a3⟩:=h1; obtain ⟨b1, b2, rfl⟩:=h2; exact ⟨mem, ⟨b1, b2, rfl⟩, ⟨a1, xs, rfl, a4, a3⟩, hC⟩
  | writes=>simp [How.free] at hf
  | grow R' n'=>simp [How.free] at hf
  | rw R' l=>
   obtain ⟨a1, xs, rfl, a4, a3⟩:=h1
   obtain ⟨b1, y, rfl, b3⟩:=h2
   simp only[How.free, zLa, Bool.not_eq_true', List.contains_eq_mem, decide_eq_false_iff_not] at hf
   obtain ⟨⟨h1, h2⟩, h3⟩:=hf
   have hln:l < mem.length:=by rw [Nat.blt_eq] at h1; omega
   have hla:(l :: R').all (fun k=>Nat.blt k n) = true:=by rw [List.all_cons, h1, h3]; rfl
   have b3':∀ m:List PO, Agree (l :: R') m mem -> C m -> OpB P G fr' m oj u (m.set l y) /\ C (m.set l y):=fun m ha=>b3 m ((Agree.app a4 hla).2 ha)
   exact ⟨mem.set l y, ⟨b1, y, rfl, b3'⟩, ⟨a1, xs, (List.set_append_left _ _ hln), (by rw [List.length_set]; exact a4), fun m hn ha=>a3 m hn ((Agree.set h2).1 ha)⟩, (b3' mem (rfl' _ _) hC).2⟩
 | rd R=>
  cases hj with
  | grow R' n=>
   have hl:R.all (fun k=>Nat.blt k n) = true:=by simpa [How.free] using hf
   obtain ⟨a1, a2, rfl⟩:=h1; obtain ⟨b1, xs, rfl, b4, b3⟩:=h2
   exact ⟨_, ⟨b1, xs, rfl, b4, b3⟩, ⟨a1, fun m ha hm=>a2 m ((Agree.app b4 hl).1 ha) hm, rfl⟩, (b3 _ b4 (rfl' _ _) hC).2⟩
  | rd R'=>obtain ⟨a1, a2, rfl⟩:=h1; obtain ⟨b1, b2, rfl⟩:=h2; exact ⟨_, ⟨b1, b2, rfl⟩, ⟨a1, a2, rfl⟩, hC⟩
  | here=>obtain ⟨a1, a2, rfl⟩:=h1; obtain ⟨b1, b2, rfl⟩:=h2; exact ⟨_, ⟨b1, b2, rfl⟩, ⟨a1, a2, rfl⟩, hC⟩
  | out=>obtain ⟨a1, a2, rfl⟩:=h1; obtain ⟨b1, b2, rfl⟩:=h2; exact ⟨_, ⟨b1, b2, rfl⟩, ⟨a1, a2, rfl⟩, hC⟩
  | writes=>
   simp only[How.free, List.isEmpty_iff] at hf
   subst hf
   obtain ⟨a1, a2, rfl⟩:=h1; obtain ⟨b1, b2, b3⟩:=h2
   exact ⟨m2, ⟨b1, b2, b3⟩, ⟨a1, fun m _ hm=>a2 m (Agree.nil _ _) hm, rfl⟩, b3⟩
  | rw R' l=>
   have hl:l ∉ R:=by simpa [How.free] using hf
   obtain ⟨a1, a2, rfl⟩:=h1; obtain ⟨b1, x, rfl, b3⟩:=h2
   exact ⟨_, ⟨b1, x, rfl, b3⟩, ⟨a1, fun m ha hm=>a2 m ((Agree.set hl).1 ha) hm, rfl⟩, (b3 _ (rfl' _ _) hC).2⟩
 | here=>
  cases hj with
  | grow R' n=>simp [How.free] at hf
  | rd R'=>obtain ⟨a1, a2, rfl⟩:=h1; obtain ⟨b1, b2, rfl⟩:=h2; exact ⟨_, ⟨b1, b2, rfl⟩, ⟨a1, a2, rfl⟩, hC⟩
  | here=>obtain ⟨a1, a2, rfl⟩:=h1; obtain ⟨b1, b2, rfl⟩:=h2; exact ⟨_, ⟨b1, b2, rfl⟩, ⟨a1, a2, rfl⟩, hC⟩
  | out=>obtain ⟨a1, a2, rfl⟩:=h1; obtain ⟨b1, b2, rfl⟩:=h2; exact ⟨_, ⟨b1, b2, rfl⟩, ⟨a1, a2, rfl⟩, hC⟩
  | writes=>simp [How.free] at hf
  | rw R' l=>simp [How.free] at hf
 | out=>
  cases hj with
  | grow R' n=>obtain ⟨a1, a2, rfl⟩:=h1; obtain ⟨b1, xs, rfl, b4, b3⟩:=h2; exact ⟨_, ⟨b1, xs, rfl, b4, b3⟩, ⟨a1, a2, rfl⟩, (b3 _ b4 (rfl' _ _) hC).2⟩
  | rd R'=>obtain ⟨a1, a2, rfl⟩:=h1; obtain ⟨b1, b2, rfl⟩:=h2; exact ⟨_, ⟨b1, b2, rfl⟩, ⟨a1, a2, rfl⟩, hC⟩
  | here=>obtain ⟨a1, a2, rfl⟩:=h1; obtain ⟨b1, b2, rfl⟩:=h2; exact ⟨_, ⟨b1, b2, rfl⟩, ⟨a1, a2, rfl⟩, hC⟩
  | out=>obtain ⟨a1, a2, rfl⟩:=h1; obtain ⟨b1, b2, rfl⟩:=h2; exact ⟨_, ⟨b1, b2, rfl⟩, ⟨a1, a2, rfl⟩, hC⟩
  | writes=>obtain ⟨a1, a2, rfl⟩:=h1; obtain ⟨b1, b2, b3⟩:=h2; exact ⟨m2, ⟨b1, b2, b3⟩, ⟨a1, a2, rfl⟩, b3⟩
  | rw R' l=>obtain ⟨a1, a2, rfl⟩:=h1; obtain ⟨b1, x, rfl, b3⟩:=h2; exact ⟨_, ⟨b1, x, rfl, b3⟩, ⟨a1, a2, rfl⟩, (b3 _ (rfl' _ _) hC).2⟩
 | writes=>
  cases hj with
  | grow R' n=>simp [How.free] at hf
  | rd R'=>
   simp only[How.free, List.isEmpty_iff] at hf
   subst hf
   obtain ⟨a1, a2, a3⟩:=h1; obtain ⟨b1, b2, rfl⟩:=h2
   exact ⟨mem, ⟨b1, fun m _ hm=>b2 m (Agree.nil _ _) hm, rfl⟩, ⟨a1, a2, a3⟩, hC⟩
  | here=>simp [How.free] at hf
  | out=>obtain ⟨a1, a2, a3⟩:=h1; obtain ⟨b1, b2, rfl⟩:=h2; exact ⟨mem, ⟨b1, b2, rfl⟩, ⟨a1, a2, a3⟩, hC⟩
  | writes=>simp [How.free] at hf
  | rw R' l=>simp [How.free] at hf
 | rw R l=>
  cases hj with
  | grow R' n=>
   obtain ⟨a1, x, rfl, a3⟩:=h1
   obtain ⟨b1, xs, rfl, b4, b3⟩:=h2
   simp only[How.free, zLa, Bool.not_eq_true', List.contains_eq_mem, decide_eq_false_iff_not] at hf
   obtain ⟨⟨h1, h2⟩, h3⟩:=hf
   have b5:mem.length = n:=by rw [List.length_set] at b4; exact b4
   have hln:l < mem.length:=by rw [Nat.blt_eq] at h1; omega
   have hla:(l :: R).all (fun k=>Nat.blt k n) = true:=by rw [List.all_cons, h1, h3]; rfl
   have b3':∀ m:List PO, m.length = n -> Agree R' m mem -> C m -> OpB P G fr' m oj u (m ++ xs) /\ C (m ++ xs):=fun m hn ha=>b3 m hn ((Agree.set h2).2 ha)
   exact ⟨mem ++ xs, ⟨b1, xs, rfl, b5, b3'⟩, ⟨a1, x, (List.set_append_left _ _ hln).symm, fun m ha=>a3 m ((Agree.app b5 hla).1 ha)⟩, (b3' mem b5 (rfl' _ _) hC).2⟩
  | rd R'=>
   have hl:l ∉ R':=by simpa [How.free] using hf
   obtain ⟨a1, x, rfl, a3⟩:=h1; obtain ⟨b1, b2, rfl⟩:=h2
   exact ⟨mem, ⟨b1, fun m ha hm=>b2 m ((Agree.set hl).2 ha) hm, rfl⟩, ⟨a1, x, rfl, a3⟩, hC⟩
  | here=>simp [How.free] at hf
  | out=>obtain ⟨a1, x, rfl, a3⟩:=h1; obtain ⟨b1, b2, rfl⟩:=h2; exact ⟨mem, ⟨b1, b2, rfl⟩, ⟨a1, x, rfl, a3⟩, hC⟩
  | writes=>simp [How.free] at hf
  | rw R' l'=>
   obtain ⟨a1, x, rfl, a3⟩:=h1
   obtain ⟨b1, y, rfl, b3⟩:=h2
   simp only[How.free, zLa, Bool.not_eq_true', List.contains_eq_mem, decide_eq_false_iff_not] at hf
   obtain ⟨⟨h1, h2⟩, h3⟩:=hf
   have hne:l ≠ l':=Nat.ne_of_beq_eq_false h1
   have f1:l ∉ l' :: R':=by simp [hne, h2]
   have f2:l' ∉ l :: R:=by simp [Ne.symm hne, h3]
   have b3':∀ m:List PO, Agree (l' :: R') m mem -> C m -> OpB P G fr' m oj u (m.set l' y) /\ C (m.set l' y):=fun m ha=>b3 m ((Agree.set f1).2 ha)
   exact ⟨mem.set l' y, ⟨b1, y, rfl, b3'⟩, ⟨a1, x, List.set_comm _ _ hne, fun m ha=>a3 m ((Agree.set f2).1 ha)⟩, (b3' mem (rfl' _ _) hC).2⟩
theorem StepA.inC {C:List PO -> Prop} {o:Oper} {fr:Nat -> EV} {mem m1:List PO} {e:EV} {hw:How} (hC:C mem) (h:StepA P G ops C o fr mem e m1 hw):C m1:=by
 cases hw <;> simp only[StepA] at h
 ·rw [h.2.2]; exact hC
 ·rw [h.2.2]; exact hC
 ·rw [h.2.2]; exact hC
 ·exact h.2.2
 ·obtain ⟨_, x, rfl, h3⟩:=h; exact (h3 mem (fun _ _=>rfl) hC).2
 ·obtain ⟨_, x, rfl, h4, h3⟩:=h; exact (h3 mem h4 (fun _ _=>rfl) hC).2
theorem zhL {C:List PO -> Prop} {hows:Nat -> How} {Q:(Nat -> EV) -> List PO -> Prop} {i:Nat} {oi:Oper} {v:EV} (hi:ops[i]? = some oi):
  ∀ (fuel:Nat) (listed:Array Bool) (fr:Nat -> EV) (mem m1:List PO), C mem ->
   (∀ (j:Nat) (oj:Oper), ops[j]? = some oj -> j ≠ i -> listed.getD j true = false -> (∀ e ∈ oj.after, Region.binds md e = true -> e.on ≠ i) -> oi.apart ops oj = true /\ (hows i).free (hows j) = true) ->
   i ∈ Region.ready md ops listed -> StepA P G ops C oi fr mem v m1 (hows i) ->
   zfm P G md ops C hows Q fuel (listed.setIfInBounds i true) (qX fr oi.dst v) m1 -> zfm P G md ops C hows Q (fuel + 1) listed fr mem:=by
 intro fuel
 induction fuel with
 | zero=>
  intro listed fr mem m1 hC _ hr hy H
  refine ⟨fun h=>(by rw [h] at hr; cases hr), fun j hj=>?_⟩
  by_cases hji:j = i
  ·subst hji
   unfold zn8
   simp only[hi]
   exact ⟨v, m1, hy, H⟩
  ·have:=ready_mono hj hji
   rw [H.1] at this
   cases this
 | succ fuel ih=>
  intro listed fr mem m1 hC hfree hr hy H
  refine ⟨fun h=>(by rw [h] at hr; cases hr), fun j hj=>?_⟩
  by_cases hji:j = i
  ·subst hji
   unfold zn8
   simp only[hi]
   exact ⟨v, m1, hy, H⟩
  ·have h1:=H.2 j (ready_mono hj hji)
   obtain ⟨hjun, oj, hoj, hall⟩:=mem_ready.1 hj
   have hnot:∀ e ∈ oj.after, Region.binds md e = true -> e.on ≠ i:=fun e he hb heq=>by
    have h1:=hall e he hb
    have h0:=(mem_ready.1 hr).1
    rw [heq] at h1
    rcases Nat.lt_or_ge i listed.size with h' | h'
    ·simp [h'] at h0 h1; rw [h0] at h1; cases h1
    ·simp [Array.getElem?_eq_none h'] at h1
   obtain ⟨hap, hfr⟩:=hfree j oj hoj hji hjun hnot
   obtain ⟨a1, a2, a3⟩:=Oper.apart_spec hap
   have hfree':∀ (k:Nat) (ok:Oper), ops[k]? = some ok -> k ≠ i -> (listed.setIfInBounds j true).getD k true = false ->
     (∀ e ∈ ok.after, Region.binds md e = true -> e.on ≠ i) -> oi.apart ops ok = true /\ (hows i).free (hows k) = true:=fun k ok hk hki hun hno=>by
    refine hfree k ok hk hki ?_ hno
    by_cases hjk:j = k
    ·subst hjk; exact hjun
    ·rw [getD_set_ne true hjk] at hun; exact hun
   unfold zn8 at h1 ⊢
   simp only[hoj] at h1 ⊢
   obtain ⟨u, m2, hs, hK⟩:=h1
   have hs0:=hs.un_set a1
   obtain ⟨m1', b1, b2, b3⟩:=StepA.swap hfr hC hy hs0
   refine ⟨u, m1', b1, ih (listed.setIfInBounds j true) _ m1' m2 b3 hfree' (ready_mono hr (Ne.symm hji)) (b2.of_set a3) ?_⟩
   rw [Array.setIfInBounds_comm _ _ hji, ← zd7 fr v u a2]
   exact hK
theorem zgf {C:List PO -> Prop} {hows:Nat -> How} {Q:(Nat -> EV) -> List PO -> Prop}:∀ (l:List Oper) (k:Nat) (listed:Array Bool) (fr:Nat -> EV) (mem:List PO), C mem -> (∀ (j:Nat), l[j]? = ops[k + j]?) ->
  Region.lexFrom md ops l.length k listed = true -> ze0 md ops hows l.length k listed = true -> zbV P G ops C hows Q k l fr mem -> zfm P G md ops C hows Q l.length listed fr mem
 | [], _, _, _, _, _, _, hB, _, h=>⟨by simpa [Region.lexFrom] using hB, h⟩
 | o :: l, k, listed, fr, mem, hC, hl, hB, hM, h=>by
  have h0:ops[k]? = some o:=by simpa using (hl 0).symm
  simp only[List.length_cons, Region.lexFrom, zLa] at hB
  simp only[List.length_cons, ze0, zLa] at hM
  obtain ⟨⟨hr, hf⟩, hB'⟩:=hB
  obtain ⟨hm, hM'⟩:=hM
  simp only[zbV] at h
  obtain ⟨e, m1, hs, hK⟩:=h
  exact zhL h0 l.length listed fr mem m1 hC (fun j oj hj hji hun hno=>⟨Region.free_spec h0 hf j oj hj hji hun hno, zhK hm hj hji hun hno⟩) (by simpa using hr) hs
   (zgf l (k + 1) _ _ m1 (hs.inC hC) (fun j=>by have:=hl (j + 1); simpa [Nat.add_assoc, Nat.add_comm 1 j] using this) hB' hM' hK)
theorem yz {r:Option Nat} {C:List PO -> Prop} {hows:Nat -> How} {w0:World} {ok0:Nat -> Prop} {n:NS} {Q:(Nat -> EV) -> List PO -> Prop} {Q':Exit -> Act -> World -> Prop} (hG:G.holds w0) (hok:∀ b, ok0 b -> b < w0.heap.size) (hn:wV ops n = true)
  (hQ:∀ fr mem a w, Sit w0 ok0 ⟨n, fr, mem⟩ a w -> Q fr mem -> Q' .normal a w):∀ (fuel:Nat) (listed:Array Bool) (fr:Nat -> EV) (mem:List PO) (a:Act) (w:World), C mem -> Sit w0 ok0 ⟨n, fr, mem⟩ a w ->
  zfm P G md ops C hows Q fuel listed fr mem -> wpAnyIn (FW r) 0 P md ops Q' fuel listed a w
 | 0, _, _, _, _, _, _, hs, h=>⟨h.1, hQ _ _ _ _ hs h.2⟩
 | fuel + 1, _, fr, mem, a, w, hC, hs, h=>⟨fun h0=>hQ _ _ _ _ hs (h.1 h0), fun i hi=>by
   have h1:=h.2 i hi
   unfold zn8 at h1
   unfold wpOpIn
   split
   ·rename_i ho; simp only[ho] at h1; exact yz hG hok hn hQ fuel _ _ _ _ _ hC hs h1
   ·rename_i o ho
    simp only[ho] at h1
    have hd:DOK o.dst n:=zcQ hn i o ho
    have hdI:jO o n = true:=zhA hn ho
    have hsz:=hs.size
    obtain ⟨e, m1, hst, hK⟩:=h1
    have hC1:=hst.inC hC
    have hwant:∀ b, qQ ops fr o = some b -> Region.wanted o (yielded ops a.tmps) = b:=fun b hb=>by
     obtain ⟨_, _, _, _, _, h6⟩:=hs.ex
     exact yD h6.1 (fun j o t h1 h2=>by rw [hsz]; exact wM hn j o t h1 h2) hb
    cases hh:hows i with
    | rd R=>
     rw [hh] at hst
     obtain ⟨c1, c2, rfl⟩:=hst
     rw [if_pos (hwant true c1)]
     exact yg (xN hn i o ho) ((c2 m1 (fun _ _=>rfl) hC).toM (st:=⟨n, fr, m1⟩) hd w0 ok0 a w hG hok hs _ _ fun a' w' hs'=>yz hG hok hn hQ fuel _ _ _ a' w' hC hs' hK)
    | here=>
     rw [hh] at hst
     obtain ⟨c1, c2, rfl⟩:=hst
     rw [if_pos (hwant true c1)]
     exact yg (xN hn i o ho) (c2.toM (st:=⟨n, fr, m1⟩) hd w0 ok0 a w hG hok hs _ _ fun a' w' hs'=>yz hG hok hn hQ fuel _ _ _ a' w' hC hs' hK)
    | out=>
     rw [hh] at hst
     obtain ⟨c1, rfl, rfl⟩:=hst
     rw [if_neg (by rw [hwant false c1]; simp)]
     obtain ⟨h0, h1, h2, ok, bs, h3, h4, h5, h6⟩:=hs
     exact ⟨fun _ _=>trivial, yz hG hok hn hQ fuel _ _ _ _ _ hC (Sit.put h0 h1 h2 h3 h4 h5 h6 (Below.refl _ _) (by simp [zal, FitsE, Fits, FitsL, undef]) hd) hK⟩
    | writes=>
     rw [hh] at hst
     obtain ⟨c1, c2, c3⟩:=hst
     rw [if_pos (by simp [Region.wanted, c1])]
     exact yg (xN hn i o ho) (c2 n fr (fun _ _=>rfl) hdI w0 ok0 a w hG hok hs _ _ fun a' w' hs'=>yz hG hok hn hQ fuel _ _ _ a' w' hC1 hs' hK)
    | rw R l=>
     rw [hh] at hst
     obtain ⟨c1, x, rfl, c3⟩:=hst
     rw [if_pos (by simp [Region.wanted, c1])]
     exact yg (xN hn i o ho) ((c3 mem (fun _ _=>rfl) hC).1 n fr (fun _ _=>rfl) hdI w0 ok0 a w hG hok hs _ _ fun a' w' hs'=>yz hG hok hn hQ fuel _ _ _ a' w' hC1 hs' hK)
    | grow R l=>
     rw [hh] at hst
     obtain ⟨c1, xs, rfl, c4, c3⟩:=hst
     rw [if_pos (by simp [Region.wanted, c1])]
     exact yg (xN hn i o ho) ((c3 mem c4 (fun _ _=>rfl) hC).1 n fr (fun _ _=>rfl) hdI w0 ok0 a w hG hok hs _ _ fun a' w' hs'=>yz hG hok hn hQ fuel _ _ _ a' w' hC1 hs' hK)⟩
theorem zfD {r:Option Nat} {id:Nat} {l:List Oper} {st:ASt} {Q:Exit -> ASt -> Prop} (C:List PO -> Prop) (hows:Nat -> How) (hm:P.follows .mixedOrders = true) (hB:Region.lexB .any l.toArray = true) (hn:wV l.toArray st.n = true)
  (hM:ze0 .any l.toArray hows l.length 0 (Array.replicate l.toArray.size false) = true) (hC:C st.mem)
  (h:zbV P G l.toArray C hows (fun fr mem=>Q .normal ⟨st.n, fr, mem⟩) 0 l st.fr st.mem):jl (r:=r) P G (.region id l.toArray true) st Q:=by
 intro w0 ok0 a w hG hok hs
 simp only[Region.lexB, zLa] at hB
 refine wpIn_region_any hm ?_
 have hs':Sit w0 ok0 st a { w with drawn:=w.drawn + 1 }:=by
  obtain ⟨h0, h1, h2, ok, bs, h3, h4, h5, h6⟩:=hs
  have hb:Below w.heap.size w w.drew:=(Below.refl _ _).drew
  refine ⟨h0, h1.keep (.of_below hb), wI h2 h2.size hb, okN ok w w.drew, bs, fun b hb=>.inl (h3 b hb), fun b hb=>?_, h5.grow hb, h6.map fun _ _ h=>h.grow h5.lt hb⟩
  rcases hb with hb | hb
  ·exact h4 b hb
  ·exact .inr (Nat.le_trans h2.size hb.1)
 refine yz (G:=G) (C:=C) (hows:=hows) (n:=st.n) (Q:=fun fr mem=>Q .normal ⟨st.n, fr, mem⟩) hG hok hn (fun fr mem a w hs hq=>⟨_, hs, hq⟩) _ _ st.fr st.mem a _ hC hs' ?_
 have:=zgf (md:=.any) (hows:=hows) l 0 (Array.replicate l.toArray.size false) st.fr st.mem hC (by simp) (by simpa using hB.2) (by simpa using hM) h
 simpa using this
theorem zfa {C:List PO -> Prop} {hows:Nat -> How} {Q:(Nat -> EV) -> List PO -> Prop} {k:Nat} {fr:Nat -> EV} {mem:List PO} (h:Q fr mem):zbV P G ops C hows Q k [] fr mem:=h
theorem jv {C:List PO -> Prop} {hows:Nat -> How} {Q:(Nat -> EV) -> List PO -> Prop} {k:Nat} {fr:Nat -> EV} {mem:List PO} {o:Oper} {rest:List Oper} {e:EV} (hk:hows k = .stable) (hg:qQ ops fr o = some true) (ho:∀ m, C m -> OpY P G fr m o e)
  (h:zbV P G ops C hows Q (k + 1) rest (qX fr o.dst e) mem):zbV P G ops C hows Q k (o :: rest) fr mem:=⟨e, mem, by rw [hk]; exact ⟨hg, fun m _ hm=>ho m hm, rfl⟩, h⟩
theorem znG {C:List PO -> Prop} {hows:Nat -> How} {Q:(Nat -> EV) -> List PO -> Prop} {k:Nat} {fr:Nat -> EV} {mem:List PO} {o:Oper} {rest:List Oper} {e:EV} (hk:hows k = .here) (hg:qQ ops fr o = some true) (ho:OpY P G fr mem o e)
  (h:zbV P G ops C hows Q (k + 1) rest (qX fr o.dst e) mem):zbV P G ops C hows Q k (o :: rest) fr mem:=⟨e, mem, by rw [hk]; exact ⟨hg, ho, rfl⟩, h⟩
theorem zpt {C:List PO -> Prop} {hows:Nat -> How} {Q:(Nat -> EV) -> List PO -> Prop} {k:Nat} {fr:Nat -> EV} {mem mem':List PO} {o:Oper} {rest:List Oper} {e:EV} (hk:hows k = .writes) (hg:o.guard = none) (ho:OpB P G fr mem o e mem') (hC:C mem')
  (h:zbV P G ops C hows Q (k + 1) rest (qX fr o.dst e) mem'):zbV P G ops C hows Q k (o :: rest) fr mem:=⟨e, mem', by rw [hk]; exact ⟨hg, ho, hC⟩, h⟩
theorem ztC {C:List PO -> Prop} {hows:Nat -> How} {Q:(Nat -> EV) -> List PO -> Prop} {k l:Nat} {fr:Nat -> EV} {mem:List PO} {o:Oper} {rest:List Oper} {e:EV} {x:PO} (hk:hows k = .own l) (hg:o.guard = none) (ho:∀ m:List PO, m[l]? = mem[l]? -> C m -> OpB P G fr m o e (m.set l x) /\ C (m.set l x))
  (h:zbV P G ops C hows Q (k + 1) rest (qX fr o.dst e) (mem.set l x)):zbV P G ops C hows Q k (o :: rest) fr mem:=⟨e, mem.set l x, by rw [hk]; exact ⟨hg, x, rfl, fun m ha=>ho m (ha l (List.mem_cons_self ..))⟩, h⟩
theorem zGu {C:List PO -> Prop} {hows:Nat -> How} {Q:(Nat -> EV) -> List PO -> Prop} {k n:Nat} {fr:Nat -> EV} {mem:List PO} {o:Oper} {rest:List Oper} {e:EV} {xs:List PO} (R:List Nat) (hk:hows k = .grow R n) (hg:o.guard = none) (hn:mem.length = n) (hC:∀ m, C m)
  (ho:∀ m:List PO, m.length = n -> Agree R m mem -> OpB P G fr m o e (m ++ xs)) (h:zbV P G ops C hows Q (k + 1) rest (qX fr o.dst e) (mem ++ xs)):zbV P G ops C hows Q k (o :: rest) fr mem:=⟨e, mem ++ xs, by rw [hk]; exact ⟨hg, xs, rfl, hn, fun m hm ha _=>⟨ho m hm ha, hC _⟩⟩, h⟩
theorem zsH {C:List PO -> Prop} {hows:Nat -> How} {Q:(Nat -> EV) -> List PO -> Prop} {k:Nat} {fr:Nat -> EV} {mem:List PO} {o:Oper} {rest:List Oper} {e:EV} (R:List Nat) (hk:hows k = .rd R) (hg:qQ ops fr o = some true) (ho:∀ m, Agree R m mem -> C m -> OpY P G fr m o e)
  (h:zbV P G ops C hows Q (k + 1) rest (qX fr o.dst e) mem):zbV P G ops C hows Q k (o :: rest) fr mem:=⟨e, mem, by rw [hk]; exact ⟨hg, ho, rfl⟩, h⟩
theorem zsW {C:List PO -> Prop} {hows:Nat -> How} {Q:(Nat -> EV) -> List PO -> Prop} {k:Nat} {fr:Nat -> EV} {mem:List PO} {o:Oper} {rest:List Oper} {e:EV} {x:PO} (R:List Nat) (l:Nat) (hk:hows k = .rw R l) (hg:o.guard = none) (hC:∀ m, C m)
  (ho:∀ m:List PO, Agree (l :: R) m mem -> OpB P G fr m o e (m.set l x)) (h:zbV P G ops C hows Q (k + 1) rest (qX fr o.dst e) (mem.set l x)):zbV P G ops C hows Q k (o :: rest) fr mem:=⟨e, mem.set l x, by rw [hk]; exact ⟨hg, x, rfl, fun m ha _=>⟨ho m ha, hC _⟩⟩, h⟩
theorem zd0 {fr:Nat -> EV} {mem:List PO} {o:Oper} {T:TypeId} {p x:Operand} {k n i j:Nat} {rows:List (List EV)} {r cells:List EV} {agg:Bool} {size:Nat} (ho:o.op = .store T p x) (hd:o.dst = none) (hp:evO fr p = .pp k n i j) (hm:mem[k]? = some (.row rows)) (hn:rows.length = n)
  (hr:rows[i]? = some r) (hx:wZ mem (evO fr x) cells) (ht:tyIs P T agg size = true) (hsz:cells.length = size) (hl:Nat.ble (j + size) r.length = true):OpB P G fr mem o zal (mem.set k (.row (rows.set i (putCells r j cells)))):=fun N fr2 he _=>by
 have h:=qw (P:=P) (G:=G) (st:=⟨N, fr2, mem⟩) (o:=o) ho hd ((he p (by simp [ho, Op.operands])).trans hp) hm hn hr (by simp only; rw [he x (by simp [ho, Op.operands])]; exact hx) ht hsz (zLb hl)
 rw [hd]
 exact h
theorem zbg {fr:Nat -> EV} {mem:List PO} {o:Oper} {T E:TypeId} {s x:Operand} {k n:Nat} {rows ns:List (List EV)} {size bytes:Nat} (ho:o.op = .call { callee:=.builtin .append, args:=#[s, x], argTypes:=#[T, T] })
  (hs:evO fr s = .psl k n) (hm:mem[k]? = some (.row rows)) (hn:rows.length = n) (hx:zoH mem (evO fr x) ns) (ht:elemIs P T E size bytes) (hs1:∀ r ∈ rows, r.length = size) (hs2:∀ r ∈ ns, r.length = size)
  (hby:(n + ns.length) * bytes <= 140737488355328) (hmax:n + ns.length <= maxLen):OpB P G fr mem o (.psl k (n + ns.length)) (mem.set k (.row (rows ++ ns))):=fun N fr2 he hd=>
 yJ (P:=P) (G:=G) (st:=⟨N, fr2, mem⟩) ho hd ((he s (by simp [ho, Op.operands, Call.operands])).trans hs) hm hn (by simp only; rw [he x (by simp [ho, Op.operands, Call.operands])]; exact hx) ht hs1 hs2 hby hmax
end
end Go.Av
end
section
namespace Go.Av
open Go.RowKit
section
variable {r:Option Nat} {P:Program} {G:Glob} {st:ASt} {ops:Array Oper} {l:List Oper} {Q:Exit -> ASt -> Prop}
theorem zjZ {o1 om o2:Oper} {T:TypeId} {d:Tmp} {x:Operand} {cs:List AV} {z:Value} {agg:Bool} {size:Nat} {c:Value} (g1:o1.guard.isNone = true) (gm:om.guard.isNone = true) (g2:o2.guard.isNone = true) (h1:o1.op = .alloc T) (hd1:o1.dst = some d) (hd:jO o1 st.n = true)
  (hdm:jO om st.n = true) (hsep:(match om.dst with | some e=>Nat.beq e d | none=>true) = false) (hom:OpY P G st.fr st.mem om (.pub (.v c))) (hopm:(om.op.operands.toList.any fun y=>match y with | .tmp t=>Nat.beq t d | _=>false) = false)
  (h2:o2.op = .store T (.tmp d) x) (hd2:o2.dst = none) (hz:(P.info? T).bind (·.zero) = some z) (ht:tyIs P T agg size = true) (hzs:z.cells.size = size) (hcl:cs.length = size)
  (hx:wZ st.mem (evO st.fr x) (cs.map .pub)) (hne:(match x with | .tmp t=>Nat.beq t d || (match om.dst with | some e=>Nat.beq t e | none=>false) | _=>false) = false)
  (h:jP (r:=r) P G ops l ⟨st.n, qX (qX st.fr om.dst (.pub (.v c))) (some d) (.pub (.ptr cs)), st.mem⟩ Q):jP (r:=r) P G ops (o1 :: om :: o2 :: l) st Q:=by
 intro w0 ok0 a w hG hok ⟨c0, c1, c2, ok, bs, c3, c4, c5, c6⟩
 obtain ⟨us, u1, u2, u3⟩:=zaL (qO (fr:=st.fr) (a:=a) (x:=x) fun t _=>c6.1 t) hx
 have hul:us.length = size:=by rw [u3.length]; simpa using hcl
 have hdl:d < st.n.n:=yB hd d hd1
 have hrun1:(execOp a.eval o1).run P w = .ok (.value (.pointer (some ⟨w.heap.size, 0, none⟩))) (w.alloc (.cells z.cells T)):=by
  cases hi:P.info? T with
  | none=>simp [hi] at hz
  | some i=>
   have hz':i.zero = some z:=by simpa [hi] using hz
   simp [execOp, h1, Instr.alloc, zeroValue, typeInfo, hi, hz', newVar, newRow]
 refine wpListIn_plain (by simpa using g1) fun K hK=>yg (by rw [h1]; simp) <| jR hrun1 (hK _ _ ?_)
 rw [hd1]
 have hev:∀ y:Operand, y ≠ .tmp d -> (a.put (some d) (.pointer (some ⟨w.heap.size, 0, none⟩))).eval y = a.eval y:=fun y hy=>by
  cases y with
  | tmp t=>
   have:t ≠ d:=fun e=>hy (by rw [e])
   simp only[Act.eval, Act.put, getD_put]
   simp [this]
  | _=>rfl
 have hbel1:=below_alloc w (.cells z.cells T)
 have hG1:G.holds (w.alloc (.cells z.cells T)):=G.stable _ _ (G.stable _ _ hG c2) hbel1
 refine wpListIn_plain (by simpa using gm) fun K hK=>yg (xx hdm) ?_
 refine hom w0.heap.size (okN ok w (w.alloc (.cells z.cells T))) bs (w.alloc (.cells z.cells T)) _ hG1 (Nat.le_trans c2.size (by simp)) (c5.grow hbel1) (fun y hy=>?_) K _ (fun u w2 hb2 hf2=>hK _ _ ?_)
 ·rw [hev y (fun e=>by
   subst e
   rw [List.any_eq_false] at hopm
   have:=hopm (.tmp d) (by simpa using hy)
   simp at this)]
  exact (qO fun t _=>c6.1 t).grow c5.lt hbel1
 ·have hsz1:w.heap.size < w2.heap.size:=by have:=hb2.size; simp at this; omega
  have hcell:w2.heap[w.heap.size]? = some (.cells z.cells T (0, 0)):=by rw [hb2.block _ (by simp)]; exact heap_alloc_new w _
  obtain ⟨cur', r1, r2, r3⟩:=store_run (P:=P) w.heap.size 0 T z.cells us w2 hcell (.inl rfl) (by omega) u2
  have hxe:((a.put (some d) (.pointer (some ⟨w.heap.size, 0, none⟩))).put om.dst u).eval x = a.eval x:=by
   cases x with
   | tmp t=>
    simp only[Bool.or_eq_false_iff] at hne
    have e1:t ≠ d:=fun e=>by subst e; simp at hne
    have e2:∀ e, om.dst = some e -> t ≠ e:=fun e he h=>by subst h; rw [he] at hne; simp at hne
    cases hod:om.dst with
    | none=>
     show ((a.put (some d) _).tmps).getD t undef = _
     simp only[Act.put, getD_put]
     simp [e1, Act.eval]
    | some e=>
     have h3:=e2 e hod
     show (((a.put (some d) _).put (some e) u).tmps).getD t undef = _
     simp only[Act.put, getD_put]
     simp [e1, h3, Act.eval]
   | const y=>cases om.dst <;> rfl
   | global y=>cases om.dst <;> rfl
   | func y=>cases om.dst <;> rfl
  have hpv:((a.put (some d) (.pointer (some ⟨w.heap.size, 0, none⟩))).put om.dst u).eval (.tmp d) = .pointer (some ⟨w.heap.size, 0, none⟩):=by
   have hlt:d < a.tmps.size:=by rw [c0]; exact hdl
   cases hod:om.dst with
   | none=>simp [Act.eval, Act.put, hlt]
   | some e=>
    rw [hod] at hsep
    have hne':d ≠ e:=fun h=>by subst h; simp at hsep
    show (((a.put (some d) _).put (some e) u).tmps).getD d undef = _
    simp only[Act.put, getD_put]
    simp [hne', hlt]
  have hrun2:(execOp ((a.put (some d) (.pointer (some ⟨w.heap.size, 0, none⟩))).put om.dst u).eval o2).run P w2 = .ok .skip (w2.setRow w.heap.size cur'):=by
   simp only[execOp, h2, hpv, hxe, Instr.storeAt, Instr.sureAddr, Sem.run_bind, Sem.run_pure, Result.andThen_ok, storeVar, sizeOf_of ht, u1]
   simp [hul, r1]
  refine wpListIn_plain (by simpa using g2) fun K hK=>?_
  refine yg (by rw [h2]; simp) ?_
  unfold Oper.wp
  rw [hrun2]
  simp only[Oper.upon]
  refine hK _ _ ?_
  have hpn:∀ b:Act, b.put o2.dst undef = b:=fun b=>by rw [hd2]; rfl
  rw [hpn]
  have hheap:(w2.setRow w.heap.size cur').heap[w.heap.size]? = some (.cells cur' T (0, 0)):=setRow_heap _ _ _ _ T _ hcell
  have hbel:Below w.heap.size w (w2.setRow w.heap.size cur'):=⟨hb2.os, hb2.tape, hb2.output, by simp; omega, fun k hk=>by
   rw [setRow_other _ _ k _ (by omega), hb2.block k (by simp; omega)]
   exact heap_alloc_old w _ hk⟩
  have hbel2:∀ k, k < w2.heap.size -> k ≠ w.heap.size -> (w2.setRow w.heap.size cur').heap[k]? = w2.heap[k]?:=fun k hk hne=>setRow_other _ _ k _ hne
  refine h w0 ok0 _ _ hG hok ?_
  have hcs:FitsE (okN ok w (w2.setRow w.heap.size cur')) (w2.setRow w.heap.size cur') bs st.mem (.pub (.ptr cs)) (.pointer (some ⟨w.heap.size, 0, none⟩)):=by
   simp only[FitsE, Fits]
   refine ⟨w.heap.size, 0, rfl, .inr ⟨Nat.le_refl _, by simp; omega⟩, FitsC.of_get fun i y hy=>?_⟩
   obtain ⟨v, e1, e2⟩:=(FitsEL.pub.1 u3).get hy
   refine ⟨v, ?_, u2 v (List.mem_of_getElem? e1), e2.mono (fun b hb=>.inl hb) (fun b hb=>hbel.block b (c5.lt b hb))⟩
   rw [cell_of_row _ _ _ cur' T _ hheap, r3, if_pos (by
    have:=(zLg e1).1
    omega)]
   simpa using e1
  refine ⟨by simp [size_put, c0], Nod.put (Nod.put c1 (.of_below hbel) (show DOK (some d) st.n from hd1 ▸ qC hd)) (.refl _) (qC hdm), wI c2 c2.size hbel, okN ok w (w2.setRow w.heap.size cur'), bs, fun b hb=>.inl (c3 b hb), fun b hb=>?_, c5.grow hbel, fun t=>?_, fun p hp=>(c6.2 p hp).grow c5.lt hbel⟩
  ·rcases hb with hb | hb
   ·exact c4 b hb
   ·exact .inr (Nat.le_trans c2.size hb.1)
  ·simp only[zai]
   by_cases htd:t = d
   ·subst htd
    simp only[if_true]
    have:=hpv
    simp only[Act.eval] at this
    rw [this]
    exact hcs
   ·simp only[if_neg htd]
    cases hod:om.dst with
    | none=>
     simp only[qX, Act.put, getD_put]
     simp only[htd, false_and, if_false]
     exact (c6.1 t).grow c5.lt hbel
    | some e=>
     simp only[zai, Act.put, getD_put]
     by_cases hte:t = e
     ·subst hte
      have hlt:t < a.tmps.size:=by rw [c0]; exact yB hdm t hod
      simp only[if_true]
      rw [if_pos (by simpa using hlt)]
      simpa only [FitsE, Fits] using hf2
     ·simp only[hte, htd, false_and, if_false]
      exact (c6.1 t).grow c5.lt hbel
end
end Go.Av
end
section
namespace Go.Av
open Go.RowKit
section
variable {P:Program} {G:Glob} {fr:Nat -> EV} {mem:List PO} {o:Oper} {st:ASt} {Q:Exit -> ASt -> Prop}
theorem zDv {T:TypeId} {x y:Operand} {cs:List AV} {p:Int} {n size:Nat} (ho:o.op = .indexAddr T x y) (hx:evO fr x = .pub (.ptr cs)) (hy:evO fr y = I p)
  (ht:zeE P T n size = true) (hp:0 <= p) (hlt:p < (n:Int)):OpY P G fr mem o (.pub (.ptr (cs.drop (p.toNat * size)))):=
 jb fun ok bs w a _ _ hfit=>by
  have h:=hfit x (by simp [ho, Op.operands])
  have h2:=xY (hfit y (by simp [ho, Op.operands])) hy
  rw [hx] at h
  simp only[FitsE, Fits] at h
  obtain ⟨b, off, e, hb, hc⟩:=h
  obtain ⟨el, he, hs⟩:=zkU ht
  have hin:0 <= p /\ p < (n:Int):=⟨hp, hlt⟩
  refine ⟨.pointer (some ⟨b, off + p.toNat * size, none⟩), ?_, ?_⟩
  ·simp [execOp, ho, e, h2, Instr.indexAt, Instr.sureAddr, asIntOf, run_underlying he, hin, hs, Addr.add_lit]
  ·simp only[FitsE, Fits]
   exact ⟨b, _, rfl, hb, hc.drop _⟩
theorem zV {T:TypeId} {x y:Operand} {p:Int} {n size l m i j:Nat} {rows:List (List EV)} (ho:o.op = .indexAddr T x y) (hx:evO fr x = .pp l m i j) (hy:evO fr y = I p) (hm:mem[l]? = some (.row rows)) (hn:rows.length = m)
  (ht:zeE P T n size = true) (hp:0 <= p) (hlt:p < (n:Int)):OpY P G fr mem o (.pp l m i (j + p.toNat * size)):=
 jb fun ok bs w a _ _ hfit=>by
  have h:=hfit x (by simp [ho, Op.operands])
  have h2:=xY (hfit y (by simp [ho, Op.operands])) hy
  rw [hx] at h
  simp only[FitsE] at h
  obtain ⟨b, hb, h⟩:=h
  obtain ⟨h3, h4⟩:=h rows hm
  obtain ⟨g, hg, e⟩:=h4 hn
  obtain ⟨el, he, hs⟩:=zkU ht
  have hin:0 <= p /\ p < (n:Int):=⟨hp, hlt⟩
  refine ⟨.pointer (some ⟨g, i * b.size + j + p.toNat * size, none⟩), ?_, ?_⟩
  ·simp [execOp, ho, e, h2, Instr.indexAt, Instr.sureAddr, asIntOf, run_underlying he, hin, hs, Addr.add_lit]
  ·simp only[FitsE]
   refine ⟨b, hb, fun rows' hm'=>?_⟩
   rw [hm] at hm'
   injection hm' with hm'
   injection hm' with hm'
   subst hm'
   exact ⟨h3, fun _=>⟨g, hg, by simp [Nat.add_assoc]⟩⟩
end
end Go.Av
end
section
namespace Go.Av
open Go.RowKit
section
variable {P:Program} {G:Glob} {st:ASt} {o:Oper}
theorem zgO {n:NS} {fr:Nat -> EV} {mem:List PO}:Weak ⟨n, fr, mem⟩ ⟨n, fr, mem ++ [.row []]⟩:=by
 intro w0 ok0 a w ⟨h0, h1, h2, ok, bs, h3, h4, h5, h6⟩
 have ht:=Turn.push h5.len ⟨none, 0, 0, 0⟩ (.row [])
 exact ⟨h0, h1, h2, ok, bs ++ [⟨none, 0, 0, 0⟩], h3, h4, h5.push (Below.refl _ _) h2.size ⟨by simp, fun _=>rfl, fun g hg=>(by simp at hg), fun g hg=>(by simp at hg)⟩ (fun g hg=>by simp at hg), h6.map fun _ _ h=>
  h.mono (fun _ hb=>hb) (fun _ _=>rfl) ht⟩
theorem zm8 {T:TypeId} {z:Value} {zs:List Value} {l:Nat} (ho:o.op = .alloc T) (hd:jO o st.n = true) (hz:(P.info? T).bind (·.zero) = some z) (hc:z.cells = zs.toArray) (h1:zs.all Value.oneCell' = true) (hm:st.mem[l]? = some (.row [])):
  OpM P G st o ⟨st.n, qX st.fr o.dst (.pp l 1 0 0), st.mem.set l (.row [zs.map fun v=>.pub (.v v)])⟩:=by
 intro w0 ok0 a w hG hok hs K Q hK
 obtain ⟨h0, h1', h2, ok, bs, h3, h4, h5, h6⟩:=hs
 have hlm:l < st.mem.length:=(zLg hm).1
 have hlb:l < bs.length:=by rw [h5.len]; exact hlm
 have hb:bs[l]? = some bs[l]:=by simp [hlb]
 have hzl:∀ v ∈ zs, v.oneCell' = true:=fun v hv=>by rw [List.all_eq_true] at h1; exact h1 v hv
 have hturn:=h5.turn (w':=w.alloc (.cells zs.toArray T)) (b':=⟨some w.heap.size, 1, T, zs.length⟩) (rows':=[zs.map fun v=>.pub (.v v)]) hb hm (below_alloc w _).size (fun k hk _=>(below_alloc w _).block k hk) (by simp) (fun e=>by simp at e)
  (fun g hg=>by simp at hg; exact .inr (Nat.le_of_eq hg)) h2.size (fun hfit=>by
   refine ⟨fun r hr=>?_, fun hn=>(by simp at hn), fun _ _=>(by simp), fun g hg=>?_⟩
   ·simp at hr; subst hr; simp
   ·simp at hg
    subst hg
    refine ⟨zs.toArray, heap_alloc_new w _, by simp, by simp, by simp [maxLen], fun i j r x hr hx=>?_⟩
    cases i with
    | succ i=>simp at hr
    | zero=>
     simp at hr
     subst hr
     simp only[List.getElem?_map, Option.map_eq_some_iff] at hx
     obtain ⟨v, hv, rfl⟩:=hx
     have hv1:=hzl v (List.mem_of_getElem? hv)
     exact ⟨v, by simpa using hv, hv1, wW hv1⟩)
 refine jR (w':=w.alloc (.cells zs.toArray T)) (u:=.pointer (some ⟨w.heap.size, 0, none⟩)) ?_ (hK _ _ ⟨(size_put ..).trans h0, h1'.put (.of_below (below_alloc w _)) (qC hd), wI h2 h2.size (below_alloc w _), ok, _, h3, h4, hturn.1, ?_⟩)
 ·cases hi:P.info? T with
  | none=>simp [hi] at hz
  | some i=>
   have hz':i.zero = some z:=by simpa [hi] using hz
   simp [execOp, ho, Instr.alloc, zeroValue, typeInfo, hi, hz', newVar, newRow, hc]
 ·refine wo (h6.map hturn.2) ?_ (fun d hdd=>by rw [h0]; exact yB hd d hdd)
  simp only[FitsE]
  refine ⟨⟨some w.heap.size, 1, T, zs.length⟩, by simp [hlb], fun rows hr=>?_⟩
  simp [hlm] at hr
  subst hr
  simp
theorem zmH {fr:Nat -> EV} {mem:List PO} {T:TypeId} {z:Value} {zs:List Value} {l:Nat} (ho:o.op = .alloc T) (hz:(P.info? T).bind (·.zero) = some z) (hc:z.cells = zs.toArray) (h1:zs.all Value.oneCell' = true) (hm:mem[l]? = some (.row [])):
  ∀ m:List PO, m[l]? = mem[l]? -> True -> OpB P G fr m o (.pp l 1 0 0) (m.set l (.row [zs.map fun v=>.pub (.v v)])) /\ True:=fun m hml _=>
 ⟨fun N fr2 _ hd=>zm8 (P:=P) (G:=G) (st:=⟨N, fr2, m⟩) ho hd hz hc h1 (hml.trans hm), trivial⟩
end
end Go.Av
end
