import Derived.Test.YtgmbdadkbominaaGreatDoorPlatV
import Derived.Test.YtgmbdadkbominaaGreatDoorPlatW
import Derived.Test.YtgmbdadkbominaaGreatDoorPlatJ
set_option linter.unusedVariables false
set_option linter.unusedSimpArgs false
section
namespace Go.Av
open Go.RowKit
def ghP (gh:List (AV × Value)):List (EV × Value):=gh.map fun p=>(.pub p.1, p.2)
section
variable {P:Program} {G:Glob} (C:Cx P G)
def zvk (f:FuncId) (args:List EV) (mem:List PO) (k:Nat):Prop:=
 Enters P f /\ ∀ (w0:World) (ok0 ok:Nat -> Prop) (bs:List PB) (w:World) (vs:List Value) (gh:List (AV × Value)), C.At (.on k) w0 ok0 -> Own w0 ok0 mem [] [] ok bs w -> FitsEL ok w bs mem args vs -> (∀ p ∈ gh, Fits ok w p.1 p.2) ->
  CallsIn (FW none) 0 P f vs.toArray w (fun e w'=>∃ (b:Bool) (M' ok':Nat -> Prop), e = .returned (.bool b) /\ C.J (if b then .on (k + 1) else .off k) M' w' /\ G.holds w' /\
   (∀ x, ok' x -> x < w'.heap.size /\ ¬ M' x /\ C.okS x) /\ ∀ p ∈ gh, Fits ok' w' p.1 p.2)
end
section
variable {P:Program} {G:Glob} {C:Cx P G} {ph:Ph} {st st':ASt} {Q:Exit -> Ph -> ASt -> Prop} {ops:Array Oper} {l:List Oper} {o:Oper}
theorem zaj {c:Code} (hw:Weak st st') (h:qW C c ph st' Q):qW C c ph st Q:=fun w0 ok0 a w hc hs=>h w0 ok0 a w hc (hw w0 ok0 a w hs)
theorem zxz {N:Nat} {gh:List (EV × Value)} {w0 w:World} {a:Act} (h:Nod w0 w a ⟨N, [], gh, false, []⟩):a.defers = []:=by
 have:=h.1
 cases hds:a.defers with
 | nil=>rfl
 | cons d ds=>
  rw [hds] at this
  simp only[Dfs] at this
  rcases this with ⟨h, _⟩ | ⟨t, l', e, _⟩
  ·cases h
  ·cases e
theorem zvP {N:Nat} {gh:List (AV × Value)} {fr:Nat -> EV} {a:Act} {W':World} {ok':Nat -> Prop} {b:Bool} {dst:Option Tmp} (hsz:a.tmps.size = N) (hdef:a.defers = []) (hok:∀ x, ok' x -> x < W'.heap.size) (hd:∀ d, dst = some d -> d < N)
  (hg:∀ p ∈ (List.range a.tmps.size).map (fun t=>(xg (fr t), a.tmps.getD t undef)) ++ gh, Fits ok' W' p.1 p.2) (hu:∀ t, ¬ t < a.tmps.size -> ∀ ok w, Fits ok w (xg (fr t)) undef):
  Sit W' ok' ⟨⟨N, [], ghP gh, false, []⟩, qX (fun t=>fgt (fr t)) dst (B b), []⟩ (a.put dst (.bool b)) W':=by
 refine ⟨(size_put ..).trans hsz, ⟨?_, fun p hp=>by cases hp⟩, Below.refl _ _, ok', [], fun _ h=>h, fun _ h=>.inl h, ⟨rfl, hok, by simp, by simp, by simp, by simp⟩, ?_⟩
 ·rw [defers_put, hdef]; exact rfl
 ·refine wo (n:=⟨N, [], ghP gh, false, []⟩) ⟨fun t=>?_, fun p hp=>?_⟩ (by simp [FitsE, Fits, Value.oneCell']) (fun d e=>by rw [hsz]; exact hd d e)
  ·by_cases ht:t < a.tmps.size
   ·have:=hg _ (List.mem_append_left _ (List.mem_map_of_mem (f:=fun t=>(xg (fr t), a.tmps.getD t undef)) (List.mem_range.2 ht)))
    simpa only [fgt, FitsE] using this
   ·have e:a.tmps.getD t undef = undef:=by simp [Array.getD_eq_getD_getElem?, Array.getElem?_eq_none (Nat.le_of_not_lt ht)]
    rw [e]
    simp only[fgt, FitsE]
    exact hu t ht _ _
  ·obtain ⟨q, hq, rfl⟩:=List.mem_map.1 hp
   have:=hg q (List.mem_append_right _ hq)
   simpa only [FitsE] using this
theorem zvu {N:Nat} {gh:List (AV × Value)} {fr:Nat -> EV} {mem:List PO} {k:Nat} {w0:World} {ok0:Nat -> Prop} {a:Act} {w:World} (hc:C.At (.on k) w0 ok0) (hs:Sit w0 ok0 ⟨⟨N, [], ghP gh, false, []⟩, fr, mem⟩ a w):
  ∃ ok bs, C.At (.on k) w0 ok0 /\ Own w0 ok0 mem [] [] ok bs w /\ a.defers = [] /\ (∀ x, FitsE ok w bs mem (evO fr x) (a.eval x)) /\ (∀ p ∈ (List.range a.tmps.size).map (fun t=>(xg (fr t), a.tmps.getD t undef)) ++ gh, Fits ok w p.1 p.2) /\
   (∀ t, ¬ t < a.tmps.size -> ∀ ok w, Fits ok w (xg (fr t)) undef):=by
 obtain ⟨s0, s1, s2, ok, bs, s3, s4, s5, s6⟩:=hs
 refine ⟨ok, bs, hc, ⟨s2, s3, s4, s5, by simp, by simp⟩, zxz s1, fun x=>qO fun t _=>s6.1 t, fun p hp=>?_, fun t ht ok2 w2=>?_⟩
 ·rcases List.mem_append.1 hp with hp | hp
  ·obtain ⟨t, _, rfl⟩:=List.mem_map.1 hp
   have:=s6.1 t
   dsimp only at this
   cases he:fr t with
   | pub x=>rw [he] at this; simpa only [FitsE, xg] using this
   | _=>simp only[xg, Fits]
  ·have:=s6.2 (.pub p.1, p.2) (List.mem_map_of_mem (f:=fun p:AV × Value=>(EV.pub p.1, p.2)) hp)
   simpa only [FitsE] using this
 ·have h7:=s6.1 t
  have e:a.tmps.getD t undef = undef:=by simp [Array.getD_eq_getD_getElem?, Array.getElem?_eq_none (Nat.le_of_not_lt ht)]
  rw [e] at h7
  exact zfY h7
theorem zuX {N:Nat} {gh:List (AV × Value)} {fr:Nat -> EV} {mem:List PO} {fop:Operand} {args:Array Operand} {tys:Array TypeId} {k:Nat} {f:FuncId} {fs cs av:List EV} {c:Bool}
  (hn:wV ops ⟨N, [], ghP gh, false, []⟩ = true) (hg:qQ ops fr o = some c) (hd:jO o ⟨N, [], ghP gh, false, []⟩ = true) (ho:o.op = .call { callee:=.value fop, args:=args, argTypes:=tys })
  (hf:c = true -> zqs (evO fr fop) f fs cs) (ha:c = true -> zjR fr args.toList av) (hi:c = true -> zvk C f (fs ++ av ++ cs) mem k)
  (h0:c = false -> wz C ops l (.on k) ⟨⟨N, [], ghP gh, false, []⟩, qX fr o.dst (.pub (.tup [])), mem⟩ Q)
  (h1:c = true -> wz C ops l (.on (k + 1)) ⟨⟨N, [], ghP gh, false, []⟩, qX (fun t=>fgt (fr t)) o.dst (B true), []⟩ Q)
  (h2:c = true -> wz C ops l (.off k) ⟨⟨N, [], ghP gh, false, []⟩, qX (fun t=>fgt (fr t)) o.dst (B false), []⟩ Q):wz C ops (o :: l) (.on k) ⟨⟨N, [], ghP gh, false, []⟩, fr, mem⟩ Q:=by
 intro w0 ok0 a w hc hs
 refine wpListIn_step fun K hK=>?_
 have hsz:=hs.size
 have hw:Region.wanted o (yielded ops a.tmps) = c:=by
  obtain ⟨_, _, _, ok, bs, _, _, s5, s6⟩:=hs
  exact yD s6.1 (fun j o t h1 h2=>by rw [hsz]; exact wM hn j o t h1 h2) hg
 cases c with
 | false=>
  rw [if_neg (by rw [hw]; simp)]
  obtain ⟨s0, s1, s2, ok, bs, s3, s4, s5, s6⟩:=hs
  exact ⟨fun _ _=>trivial, hK _ _ (h0 rfl w0 ok0 _ w hc (Sit.put s0 s1 s2 s3 s4 s5 s6 (Below.refl _ _) (by simp [FitsE, Fits, FitsL, undef]) (qC hd)))⟩
 | true=>
  rw [if_pos hw]
  obtain ⟨ok, bs, _, hown, hdef, hev, hgh, hu⟩:=zvu hc hs
  obtain ⟨us, vs, e, k1, k2⟩:=zqd (hev fop) (hf rfl)
  have hargs:=zfe hev (ha rfl)
  have hI:=hi rfl
  refine ⟨fun _ _=>trivial, ?_⟩
  rw [Oper.semAt_eq _ _ _ (xx hd)]
  rw [call_exec ho hI.1 e]
  simp only[Oper.uponIn]
  refine ⟨fun h=>by simp [FW, Fence.wide] at h, (hI.2 w0 ok0 ok bs w _ _ hc hown ((FitsEL.append k1 hargs).append k2) hgh).mono fun en W' ⟨b, M', ok', he, hJ', hG', hok2, hg2⟩=>?_⟩
  subst he
  have hsit:=zvP (N:=N) (gh:=gh) (fr:=fr) (b:=b) (dst:=o.dst) hsz hdef (fun x hx=>(hok2 x hx).1) (fun d e=>(qC hd d e).1) hg2 hu
  cases b with
  | true=>
   simp only[if_true] at hJ'
   exact hK _ _ (h1 rfl W' ok' _ W' ⟨M', hJ', hG', hok2⟩ hsit)
  | false=>
   simp only[Bool.false_eq_true, if_false] at hJ'
   exact hK _ _ (h2 rfl W' ok' _ W' ⟨M', hJ', hG', hok2⟩ hsit)
theorem zw0 {N:Nat} {gh:List (AV × Value)} {fr:Nat -> EV} {mem:List PO} {fop:Operand} {args:Array Operand} {tys:Array TypeId} {k:Nat} {q:List AV} (hg:yu o = true) (hd:jO o ⟨N, [], ghP gh, false, []⟩ = true)
  (ho:o.op = .call { callee:=.value fop, args:=args, argTypes:=tys }) (hf:evO fr fop = .pub (.v (.func (.yield C.l) #[] #[]))) (ha:args.toList.map (evO fr) = q.map .pub) (hq:C.qs[k]? = some q)
  (h1:wz C ops l (.on (k + 1)) ⟨⟨N, [], ghP gh, false, []⟩, qX (fun t=>fgt (fr t)) o.dst (B true), []⟩ Q)
  (h2:wz C ops l (.off k) ⟨⟨N, [], ghP gh, false, []⟩, qX (fun t=>fgt (fr t)) o.dst (B false), []⟩ Q):wz C ops (o :: l) (.on k) ⟨⟨N, [], ghP gh, false, []⟩, fr, mem⟩ Q:=by
 intro w0 ok0 a w hc hs
 refine wpListIn_plain (kH hg) fun K hK=>?_
 have hsz:=hs.size
 obtain ⟨ok, bs, _, ⟨s2, s3, s4, s5, _, _⟩, hdef, hev, hgh, hu⟩:=zvu hc hs
 obtain ⟨M, hJ, hG, hok⟩:=hc
 have hJw:=C.abides _ _ _ _ hJ s2
 have hGw:=G.stable _ _ hG s2
 have hok':∀ x, ok x -> x < w.heap.size /\ ¬ M x /\ C.okS x:=fun x hx=>by
  rcases s4 x hx with h | h
  ·exact ⟨s5.lt x hx, (hok x h).2.1, (hok x h).2.2⟩
  ·exact ⟨s5.lt x hx, fun hm=>by have:=C.lt _ _ _ hJ x hm; omega, C.up _ _ _ x hJ h⟩
 have hfv:=hev fop
 rw [hf] at hfv
 simp only[FitsE, Fits] at hfv
 have key:∀ (l:List Operand) (xs:List AV), l.map (evO fr) = xs.map .pub -> FitsL ok w xs (l.map a.eval):=by
  intro l
  induction l with
  | nil=>intro xs h; cases xs with
   | nil=>simp [FitsL]
   | cons=>simp at h
  | cons y l ih=>intro xs h; cases xs with
   | nil=>simp at h
   | cons x xs=>
    simp only[List.map_cons, List.cons.injEq] at h
    simp only[List.map_cons, FitsL]
    have:=hev y
    rw [h.1] at this
    exact ⟨_, _, rfl, by simpa only [FitsE] using this, ih xs h.2⟩
 obtain ⟨fn, tmps, assign, body, hy, hr⟩:=C.round k M w ok (args.toList.map a.eval) q _ hq hJw hGw hok' (key _ _ ha) hgh
 refine ⟨fun _ _=>trivial, ?_⟩
 rw [Oper.semAt_eq _ _ _ (kF hg)]
 have hex:(execOp a.eval o).run P w = .ok (.round C.l fn tmps assign body) w:=by
  have hargs:args.map a.eval = (args.toList.map a.eval).toArray:=by rw [← Array.toList_map]
  simp only[execOp, ho, resolve, hfv.1, Deferred.ofValue, invoke, Sem.run_bind, Sem.run_pure, Result.andThen_ok]
  simp only[Array.empty_append] at *
  rw [hargs]
  exact hy
 rw [hex, Oper.uponIn_round]
 refine ⟨fun h=>by simp [FW, Fence.wide] at h, hr.mono fun e W' ⟨b, M', ok', he, hJ', hG', hok2, hg2⟩=>?_⟩
 subst he
 have hsit:=zvP (N:=N) (gh:=gh) (fr:=fr) (b:=b) (dst:=o.dst) hsz hdef (fun x hx=>(hok2 x hx).1) (fun d e=>(qC hd d e).1) hg2 hu
 cases b with
 | true=>
  simp only[if_true] at hJ'
  exact hK _ _ (h1 W' ok' _ W' ⟨M', hJ', hG', hok2⟩ hsit)
 | false=>
  simp only[Bool.false_eq_true, if_false] at hJ'
  exact hK _ _ (h2 W' ok' _ W' ⟨M', hJ', hG', hok2⟩ hsit)
theorem zvE {f:FuncId} {fn:Func} {c:Code} {args:List EV} {mem:List PO} {k:Nat} (hf:P.funcs[f]? = some fn) (hb:fn.body = some c) (hnm:(fn.name == "runtime.NumGoroutine") = false) (hlen':Nat.ble args.length fn.ntmps = true)
  (h:∀ gh:List (AV × Value), qW C c (.on k) ⟨⟨fn.ntmps, [], ghP gh, false, []⟩, frE args, mem⟩ (fun e ph st=>(e = .normal ∨ e = .ret) /\ ∃ (N:Nat) (fr:Nat -> EV) (b:Bool), st = ⟨⟨N, [], ghP gh, false, []⟩, fr, []⟩ /\ RetE P fn st (.v (.bool b)) /\ ph = if b then .on (k + 1) else .off k)):
  zvk C f args mem k:=by
 have hlen:=zLb hlen'
 refine ⟨⟨fn, hf, hnm, by simp [hb]⟩, fun w0 ok0 ok bs w vs gh hat ⟨o1, o2, o3, o4, _, _⟩ hfit hgh=>callsIn_of_wp hf hb trivial ?_⟩
 have hl:=hfit.length
 refine wpIn_mono (h gh w0 ok0 _ w hat ?_) fun e a' w' ⟨ph, w1, ok1, st, hc', hs, he, N, fr, b, hst, hret, hph⟩=>?_
 ·refine ⟨by simp [hl]; omega, ⟨rfl, fun p hp=>by cases hp⟩, o1, ok, bs, o2, o3, o4, fun t=>?_, fun p hp=>?_⟩
  ·show FitsE ok w bs mem (match args[t]? with | some x=>x | none=>.pub .top) _
   by_cases ht:t < args.length
   ·rw [List.getElem?_eq_getElem ht]
    obtain ⟨u, h1, h2⟩:=hfit.get (List.getElem?_eq_getElem ht)
    have h3:t < vs.length:=(zLg h1).1
    have h4:vs[t] = u:=(zLg h1).2
    simp only[Array.getD_eq_getD_getElem?]
    rw [Array.getElem?_append_left (by simpa using h3)]
    simp [h3, h4, h2]
   ·rw [List.getElem?_eq_none (by omega)]
    simp [FitsE, Fits]
  ·obtain ⟨q, hq, rfl⟩:=List.mem_map.1 hp
   simpa only [FitsE] using hgh q hq
 ·subst hst
  obtain ⟨M, hJ, hG, hok⟩:=hc'
  obtain ⟨s0, s1, s2, ok2, bs2, s3, s4, s5, s6⟩:=hs
  have hdef:=zxz s1
  obtain ⟨u, hu1, hu2⟩:=zcT (P:=P) (ok':=fun x=>ok2 x ∨ (w1.heap.size <= x /\ x < w'.heap.size)) s5 (fun _ h=>.inl h) (fun b hb hb'=>.inr ⟨hb, hb'⟩) (tm:=a'.tmps) (fun t=>s6.1 t) hret
  simp only[Fits] at hu2
  have hR:∃ v, (results fn a'.tmps).run P w' = .ok v w' /\ ∃ (b:Bool) (M' ok':Nat -> Prop), Ending.returned v = .returned (.bool b) /\ C.J (if b then .on (k + 1) else .off k) M' w' /\ G.holds w' /\ (∀ x, ok' x -> x < w'.heap.size /\ ¬ M' x /\ C.okS x) /\ ∀ p ∈ gh, Fits ok' w' p.1 p.2:=by
   refine ⟨u, hu1, b, M, ok2, by rw [hu2.1], ?_, G.stable _ _ hG s2, fun x hx=>?_, fun p hp=>?_⟩
   ·rw [← hph]; exact C.abides _ _ _ _ hJ s2
   ·rcases s4 x hx with h | h
    ·exact ⟨s5.lt x hx, (hok x h).2.1, (hok x h).2.2⟩
    ·exact ⟨s5.lt x hx, fun hm=>by have:=C.lt _ _ _ hJ x hm; omega, C.up _ _ _ x hJ h⟩
   ·have:=s6.2 (.pub p.1, p.2) (List.mem_map_of_mem (f:=fun p:AV × Value=>(EV.pub p.1, p.2)) hp)
    simpa only [FitsE] using this
  obtain ⟨v, hv, hR⟩:=hR
  rcases he with rfl | rfl
  ·exact ⟨hdef, v, hv, hR⟩
  ·exact ⟨hdef, v, hv, hR⟩
end
end Go.Av
end
section
namespace Go.Av
open Go.RowKit
section
variable {P:Program} {G:Glob} {fr:Nat -> EV} {mem:List PO} {o:Oper}
theorem zw6 {T:TypeId} {x y:Operand} {k n size:Nat} {rows:List (List EV)} (ho:o.op = .slice T x none (some y) none) (hx:evO fr x = .psl k n) (hm:mem[k]? = some (.row rows)) (hn:rows.length = n) (hy:evO fr y = I 0) (ht:kw P T size = true):
  OpY P G fr mem o (.pub (.sl [])):=
 jb fun ok bs w a _ hmo hfit=>by
  obtain ⟨m, hmo⟩:=hmo
  have hxx:=hfit x (by simp [ho, Op.operands])
  rw [hx] at hxx
  simp only[FitsE] at hxx
  obtain ⟨b, hb, hrow⟩:=hxx
  have e:=(hrow rows hm).2 hn
  have hr:=hmo.row k b rows hb hm
  have e2:a.eval y = .int .i64 0:=xY (hfit y (by simp [ho, Op.operands])) hy
  obtain ⟨el, he, hs⟩:=znw ht
  obtain ⟨ad, c, e3, hc⟩:∃ ad c, a.eval x = .slice ad n c /\ c <= maxLen:=by
   unfold PB.sl at e
   cases hbk:b.blk with
   | none=>
    rw [hbk] at e
    have:=hr.nil hbk
    subst this
    simp at hn
    subst hn
    exact ⟨none, 0, e, by simp [maxLen]⟩
   | some g=>
    rw [hbk] at e
    obtain ⟨cur, _, _, _, hc, _⟩:=hr.blk g hbk
    exact ⟨_, b.cap, e, hc⟩
  refine ⟨.slice (if c = 0 then ad else ad.map (·.add (0 * size))) 0 (c - 0), ?_, ?_⟩
  ·have hb1:(Instr.sliceBounds true n c none (some (a.eval y)) none).run P w = .ok (0, 0, c) w:=by
    simp [Instr.sliceBounds, e2, Instr.sliceBound, asIntOf]
   simp only[execOp, ho, e3, Instr.sliceAt, Instr.slice, Sem.run_bind, run_underlying he, Result.andThen_ok, Option.map_none, Option.map_some, hb1, hs]
   rfl
  ·simp only[FitsE, Fits]
   exact ⟨_, _, size, rfl, by simp, by omega, by simp, by simp⟩
end
end Go.Av
end
section
namespace Go.Av
open Go.RowKit
section
variable {P:Program} {G:Glob}
theorem zvi {st:ASt} {Q:Exit -> ASt -> Prop} {g:Operand} {ps:Array Tmp} {asg bo:Code} {f:FuncId} {fs cs:List AV} {q:List AV} (live:List Tmp) (I0 I1:List PO) (V1:Prop)
  (hg:evO st.fr g = .pub (.fn f fs cs)) (hit:zcM P G f fs cs [q]) (hm:st.mem = I0) (hlen:q.length = ps.size) (hpd:(ps.toList.all fun t=>Nat.blt t st.n.n) = true) (hlv:(live.all fun t=>Nat.blt t st.n.n) = true)
  (round:∀ (gh:List (EV × Value)) (l:Nat) (h1 h2:List (Nat × Obj)),
   jl (r:=some l) P G asg ⟨NS.round st.n.n gh h1, zb8 (jh st.fr live) ps.toList q, I0⟩ (fun e s=>e = .normal /\ s.n = NS.round st.n.n gh h1 /\
    jl (r:=some l) P G bo ⟨NS.round st.n.n gh h2, s.fr, s.mem⟩ (zd2 st.n.marked (NS.round st.n.n gh h2) (jh st.fr live) V1 I1 Q)))
  (hdone:V1 -> Q .normal ⟨st.n.marked, jh st.fr live, I1⟩):jl (r:=none) P G (.rangeFunc g ps asg bo) st Q:=by
 refine zdy (qs:=[q]) live (fun k=>match k with | 0=>True | _=>V1) (fun k=>match k with | 0=>I0 | _=>I1) trivial hg hit hm (fun q' hq'=>by rw [List.mem_singleton.1 hq']; exact hlen) hpd hlv ?_ hdone
 intro k q' gh l h1 h2 hq hV
 cases k with
 | zero=>
  injection hq with hq
  subst hq
  exact round gh l h1 h2
 | succ k=>cases hq
def zyG (P:Program) (fn:Func) (st:ASt) (r:EV):Prop:=fn.results.toList.length ≠ 1 /\ ∃ xs:List EV, r = .tpl xs /\ zj9 P st fn.results.toList xs
theorem zwj {fn:Func} {w:World} {ok:Nat -> Prop} {bs:List PB} {n:Nat} {st:ASt} (hmo:MemOK n ok w bs st.mem) {tm:Array Value} (hf:∀ t, FitsE ok w bs st.mem (st.fr t) (tm.getD t undef)) {r:EV} (h:zyG P fn st r):
  ∃ u, (results fn tm).run P w = .ok u w /\ FitsE ok w bs st.mem r u:=by
 obtain ⟨hl, xs, rfl, h⟩:=h
 obtain ⟨us, h1, h2, h4⟩:=zg1 hmo hf h
 refine ⟨.tuple us.toArray, ?_, by simp only[FitsE]; exact ⟨us, rfl, h2⟩⟩
 rw [results_eq, Array.mapM_eq_mapM_toList]
 simp only[Sem.run_bind, Sem.run_map]
 rw [h1]
 have hlen:us.length ≠ 1:=by rw [h4]; exact hl
 simp [hlen]
def zyz (P:Program) (fn:Func) (gh:List (EV × Value)) (hold:List (Nat × Obj)) (k0:Nat) (out:MOut) (e:Exit) (st:ASt):Prop:=
 (∃ more, st.mem = out.mem ++ more) /\ zbM out.mem.length out.mem /\ k0 <= out.mem.length /\ st.n.dfs = [] /\ (∀ p ∈ gh, p ∈ st.n.gh) /\ (∀ p ∈ hold, p ∈ st.n.hold) /\ match out with
  | .ret r m=>(e = .normal ∨ e = .ret) /\ r.lt m.length /\ zyG P fn st r
  | .pan v _=>∃ u v', e = .panic (pnc u) /\ (EV.pub v', u) ∈ st.n.gh /\ AVle v' v
theorem zwW {f:FuncId} {fn:Func} {c:Code} {args:List EV} {mem:List PO} {out:MOut} (hf:P.funcs[f]? = some fn) (hb:fn.body = some c) (hnm:(fn.name == "runtime.NumGoroutine") = false) (hlen':Nat.ble args.length fn.ntmps = true)
  (h:∀ gh hold, jl (r:=none) P G c ⟨⟨fn.ntmps, [], gh, false, hold⟩, frE args, mem⟩ (zyz P fn gh hold mem.length out)):zeq P G f args mem out:=by
 have hlen:=zLb hlen'
 refine ⟨⟨fn, hf, hnm, by simp [hb]⟩, fun w0 ok0 ok bs w vs gh hold hG hok ⟨o1, o2, o3, o4, o5, o6⟩ hfit=>callsIn_wide.1 (callsIn_of_wp_marks (n:=0) hf hb trivial ?_)⟩
 have hl:=hfit.length
 refine wpIn_mono (h gh hold w0 ok0 _ w hG hok ?_) fun e a' w' ⟨st, hs, hq⟩=>?_
 ·refine ⟨by simp [hl]; omega, ⟨rfl, fun p hp=>⟨⟨⟨(o6 p hp).1.1, by simp [marksOf]⟩, (o6 p hp).1.2⟩, (o6 p hp).2⟩⟩, o1, ok, bs, o2, o3, o4, fun t=>?_, o5⟩
  show FitsE ok w bs mem (match args[t]? with | some x=>x | none=>.pub .top) _
  by_cases ht:t < args.length
  ·rw [List.getElem?_eq_getElem ht]
   obtain ⟨u, h1, h2⟩:=hfit.get (List.getElem?_eq_getElem ht)
   have h3:t < vs.length:=(zLg h1).1
   have h4:vs[t] = u:=(zLg h1).2
   simp only[Array.getD_eq_getD_getElem?]
   rw [Array.getElem?_append_left (by simpa using h3)]
   simp [h3, h4, h2]
  ·rw [List.getElem?_eq_none (by omega)]
   simp [FitsE, Fits]
 ·obtain ⟨⟨more, hmore⟩, hmk, hk0, hdf, hgh, hho, hout⟩:=hq
  obtain ⟨h0, h1, h2, ok', bs', h3, h4, h5, h6⟩:=hs
  have h1m:=h1.1
  rw [hdf] at h1m
  have hlen5:=h5.len
  -- behind the marks, and without what lies behind
  have cut:∀ (w2:World) (X:List (EV × Value)), MK w0 w' w2 -> (∀ k, k ∉ marksOf a'.defers -> w2.heap[k]? = w'.heap[k]?) -> (∀ p ∈ X, FitsE ok' w2 bs' st.mem p.1 p.2) -> (∀ p ∈ X, p.1.lt out.mem.length) ->
    ∃ okx bs2, Own w0 ok0 out.mem gh hold okx bs2 w2 /\ ∀ p ∈ X, FitsE okx w2 bs2 out.mem p.1 p.2:=fun w2 X hw2 hkk hX hXl=>by
   have htk:st.mem.take out.mem.length = out.mem:=by rw [hmore]; simp
   have hghl:∀ p ∈ gh, p.1.lt out.mem.length:=fun p hp=>EV.lt_mono hk0 (by have:=zcZ (o5 p hp); rwa [o4.len] at this)
   have hsit:Sit w0 ok0 ⟨⟨a'.tmps.size, [], X ++ gh, st.n.mks, []⟩, fun _=>.pub .top, st.mem⟩ { a' with defers:=[] } w2:=by
    refine ⟨rfl, ⟨rfl, fun p hp=>by cases hp⟩, h2.trans hw2.below, ok', bs', h3, h4, h5.marked hw2, fun t=>by simp [FitsE, Fits], fun p hp=>?_⟩
    rcases List.mem_append.1 hp with hp | hp
    ·exact hX p hp
    ·exact (h6.2 p (hgh p hp)).congr hw2.cell
   have hw:=zc6 (n:=⟨a'.tmps.size, [], X ++ gh, st.n.mks, []⟩) (fr:=fun _=>.pub .top) (mem:=st.mem) out.mem.length (fun t=>by simp [EV.lt]) (fun l rows hl hr r hrr x hx=>by
     have:=yA hmk (i:=l) (o:=.row rows) (by rw [← htk, List.getElem?_take, if_pos hl]; exact hr)
     exact this r hrr x hx) (fun p hp=>by
     rcases List.mem_append.1 hp with hp | hp
     ·exact hXl p hp
     ·exact hghl p hp) (fun l es hl hes=>yA hmk (i:=l) (o:=.map es) (by rw [← htk, List.getElem?_take, if_pos hl]; exact hes))
   obtain ⟨_, _, t2, okx, bsx, t3, t4, t5, t6⟩:=hw w0 ok0 _ w2 hsit
   simp only[htk] at t5 t6
   refine ⟨okx, bsx, ⟨t2, t3, t4, t5, fun p hp=>t6.2 p (List.mem_append_right _ hp), fun p hp=>?_⟩, fun p hp=>t6.2 p (List.mem_append_left _ hp)⟩
   obtain ⟨k1, k2⟩:=h1.2 p (hho p hp)
   exact ⟨⟨k1.1.1, k1.2⟩, by rw [hkk _ k1.1.2]; exact k2⟩
  cases out with
  | ret r m=>
   obtain ⟨he, hrl, hret⟩:=hout
   have hlv:LeavesInM Fence.wide 0 P fn a'.tmps (fun e w'=>∃ ok' bs', Own w0 ok0 m gh hold ok' bs' w' /\ ∃ u, e = .returned u /\ FitsE ok' w' bs' m r u) a'.defers .returning w':=zau h1m fun w2 hw2 hkk=>by
    obtain ⟨u, hu1, hu2⟩:=zwj (P:=P) (st:=st) (h5.marked hw2) (tm:=a'.tmps) (fun t=>(h6.1 t).congr hw2.cell) hret
    obtain ⟨okx, bsx, hown, hX⟩:=cut w2 [(r, u)] hw2 hkk (fun p hp=>by rw [List.mem_singleton] at hp; subst hp; exact hu2) (fun p hp=>by rw [List.mem_singleton] at hp; subst hp; exact hrl)
    exact ⟨u, hu1, okx, bsx, hown, u, rfl, hX _ (List.mem_singleton_self _)⟩
   rcases he with rfl | rfl
   ·exact hlv
   ·exact hlv
  | pan v m=>
   obtain ⟨u, v', rfl, hu, hv⟩:=hout
   refine xE h1m fun w2 hw2 hkk=>?_
   obtain ⟨okx, bsx, hown, hX⟩:=cut w2 [(.pub v', u)] hw2 hkk (fun p hp=>by
    rw [List.mem_singleton] at hp; subst hp; exact (h6.2 _ hu).congr hw2.cell) (fun p hp=>by rw [List.mem_singleton] at hp; subst hp; simp [EV.lt])
   have:=hX _ (List.mem_singleton_self _)
   simp only[FitsE] at this
   exact ⟨okx, bsx, hown, u, rfl, hv _ _ _ this⟩
theorem zwY {fn:Func} {gh:List (EV × Value)} {hold:List (Nat × Obj)} {k0 N:Nat} {mks:Bool} {r:EV} {m:List PO} {e:Exit} {fr:Nat -> EV} {mem:List PO} (more:List PO) (hm:mem = m ++ more) (hk:zbM m.length m) (h0:k0 <= m.length) (he:e = .normal ∨ e = .ret) (hr:r.lt m.length)
  (hret:zyG P fn ⟨⟨N, [], gh, mks, hold⟩, fr, mem⟩ r):zyz P fn gh hold k0 (.ret r m) e ⟨⟨N, [], gh, mks, hold⟩, fr, mem⟩:=
 ⟨⟨more, hm⟩, hk, h0, rfl, fun _ h=>h, fun _ h=>h, he, hr, hret⟩
end
end Go.Av
end
