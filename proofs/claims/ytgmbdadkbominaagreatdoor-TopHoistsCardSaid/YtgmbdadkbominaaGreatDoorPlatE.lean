import Derived.Test.YtgmbdadkbominaaGreatDoorPlatD
import Derived.RangeFuncIn
set_option linter.unusedVariables false
set_option linter.unusedSimpArgs false
section
namespace Go.Av
open Go.RowKit
inductive Ph where
 | on (k:Nat)
 | off (k:Nat)
structure Cx (P:Program) (G:Glob) where
 l:Nat
 qs:List (List AV)
 J:Ph -> (Nat -> Prop) -> World -> Prop
 okS:Nat -> Prop
 lt:∀ p M W, J p M W -> ∀ x, M x -> x < W.heap.size
 up:∀ p M W x, J p M W -> W.heap.size <= x -> okS x
 abides:∀ p M W W', J p M W -> Below W.heap.size W W' -> J p M W'
 round:∀ (k:Nat) (M:Nat -> Prop) (W:World) (ok:Nat -> Prop) (us:List Value) (q:List AV) (gh:List (AV × Value)), qs[k]? = some q -> J (.on k) M W -> G.holds W ->
  (∀ x, ok x -> x < W.heap.size /\ ¬ M x /\ okS x) -> FitsL ok W q us -> (∀ p ∈ gh, Fits ok W p.1 p.2) ->
  ∃ fn tmps assign body, (Instr.yield l us.toArray).run P W = .ok (.round l fn tmps assign body) W /\
   RoundIn (FW none) 0 P l fn tmps assign body W (fun e W'=>∃ (b:Bool) (M' ok':Nat -> Prop), e = .returned (.bool b) /\ J (if b then .on (k + 1) else .off k) M' W' /\ G.holds W' /\
    (∀ x, ok' x -> x < W'.heap.size /\ ¬ M' x /\ okS x) /\ ∀ p ∈ gh, Fits ok' W' p.1 p.2)
section
variable {P:Program} {G:Glob} (C:Cx P G)
def Cx.At (ph:Ph) (w0:World) (ok0:Nat -> Prop):Prop:=∃ M, C.J ph M w0 /\ G.holds w0 /\ ∀ x, ok0 x -> x < w0.heap.size /\ ¬ M x /\ C.okS x
def Cx.lift (Q:Exit -> Ph -> ASt -> Prop):Exit -> Act -> World -> Prop:=fun e a w=>∃ ph w0 ok0 st, C.At ph w0 ok0 /\ Sit w0 ok0 st a w /\ Q e ph st
def qW (c:Code) (ph:Ph) (st:ASt) (Q:Exit -> Ph -> ASt -> Prop):Prop:=
 ∀ (w0:World) (ok0:Nat -> Prop) (a:Act) (w:World), C.At ph w0 ok0 -> Sit w0 ok0 st a w -> c.wpIn (FW none) 0 P (C.lift Q) a w
def wz (ops:Array Oper) (l:List Oper) (ph:Ph) (st:ASt) (Q:Exit -> Ph -> ASt -> Prop):Prop:=
 ∀ (w0:World) (ok0:Nat -> Prop) (a:Act) (w:World), C.At ph w0 ok0 -> Sit w0 ok0 st a w -> wpListIn (FW none) 0 P ops (C.lift Q) l a w
end
section
variable {P:Program} {G:Glob} {C:Cx P G} {ph:Ph} {st st':ASt} {Q:Exit -> Ph -> ASt -> Prop} {ops:Array Oper} {l:List Oper} {o:Oper}
theorem Cx.At.ok {w0:World} {ok0:Nat -> Prop} (h:C.At ph w0 ok0):∀ b, ok0 b -> b < w0.heap.size:=fun b hb=>by
 obtain ⟨M, _, _, h3⟩:=h; exact (h3 b hb).1
theorem Cx.At.g {w0:World} {ok0:Nat -> Prop} (h:C.At ph w0 ok0):G.holds w0:=by obtain ⟨M, _, h2, _⟩:=h; exact h2
theorem yf {c:Code} (h:jl (r:=none) P G c st (fun e s=>Q e ph s)):qW C c ph st Q:=fun w0 ok0 a w hc hs=>
 wpIn_mono (h w0 ok0 a w hc.g hc.ok hs) fun _ _ _ ⟨s, hs', hq⟩=>⟨ph, w0, ok0, s, hc, hs', hq⟩
theorem y5 (h:Q .normal ph st):qW C .skip ph st Q:=fun _ _ _ _ hc hs=>wpIn_skip ⟨_, _, _, st, hc, hs, h⟩
theorem zhR (h:Q .ret ph st):qW C .ret ph st Q:=fun _ _ _ _ hc hs=>wpIn_ret ⟨_, _, _, st, hc, hs, h⟩
theorem zeV {id:Nat} (h:Q (.exit id) ph st):qW C (.exit id) ph st Q:=fun _ _ _ _ hc hs=>wpIn_exit ⟨_, _, _, st, hc, hs, h⟩
def zbJ (K:Ph -> ASt -> Prop) (Q:Exit -> Ph -> ASt -> Prop):Exit -> Ph -> ASt -> Prop
 | .normal, p, s=>K p s
 | e, p, s=>Q e p s
theorem qE {K:Ph -> ASt -> Prop} (h:K ph st):zbJ K Q .normal ph st:=h
theorem zc1 {K:Ph -> ASt -> Prop} (h:Q .ret ph st):zbJ K Q .ret ph st:=h
theorem zbc {K:Ph -> ASt -> Prop} {id:Nat} (h:Q (.exit id) ph st):zbJ K Q (.exit id) ph st:=h
theorem jU {x y:Code} (h:qW C x ph st (zbJ (fun p s=>qW C y p s Q) Q)):qW C (.seq x y) ph st Q:=by
 intro w0 ok0 a w hc hs
 refine wpIn_seq (wpIn_mono (h w0 ok0 a w hc hs) fun e a' w' ⟨p, w1, ok1, s, hc', hs', hq⟩=>?_)
 cases e <;> first | exact hq w1 ok1 a' w' hc' hs' | exact ⟨p, w1, ok1, s, hc', hs', hq⟩
def yt (id:Nat) (Q:Exit -> Ph -> ASt -> Prop):Exit -> Ph -> ASt -> Prop
 | .exit i, p, s=>if i = id then Q .normal p s else Q (.exit i) p s
 | e, p, s=>Q e p s
theorem yS {id:Nat} (h:Q .normal ph st):yt id Q .normal ph st:=h
theorem zc9 {id:Nat} (h:Q .ret ph st):yt id Q .ret ph st:=h
theorem zeP {id:Nat} (h:Q .normal ph st):yt id Q (.exit id) ph st:=by simpa [yt] using h
theorem xG {id:Nat} {c:Code} (h:qW C c ph st (yt id Q)):qW C (.block id c) ph st Q:=by
 intro w0 ok0 a w hc hs
 refine wpIn_block (wpIn_mono (h w0 ok0 a w hc hs) fun e a' w' ⟨p, w1, ok1, s, hc', hs', hq⟩=>?_)
 cases e with
 | exit i=>
  by_cases hi:i = id
  ·simp only[Exit.inBlock, yt, if_pos hi] at hq ⊢; exact ⟨p, w1, ok1, s, hc', hs', hq⟩
  ·simp only[Exit.inBlock, yt, if_neg hi] at hq ⊢; exact ⟨p, w1, ok1, s, hc', hs', hq⟩
 | _=>exact ⟨p, w1, ok1, s, hc', hs', hq⟩
theorem vW {c:Operand} {x y:Code} {b:Bool} (hb:evO st.fr c = .pub (.v (.bool b))) (h1:b = true -> qW C x ph st Q) (h2:b = false -> qW C y ph st Q):qW C (.cond c x y) ph st Q:=by
 intro w0 ok0 a w hc hs
 obtain ⟨ok, bs, _, _, h5, h6⟩:=hs.ex
 have he:=qO (fr:=st.fr) (a:=a) (x:=c) fun t _=>h6.1 t
 rw [hb] at he
 simp only[FitsE, Fits] at he
 cases b with
 | true=>exact wpIn_cond_true he.1 (h1 rfl w0 ok0 a w hc hs)
 | false=>exact wpIn_cond_false he.1 (h2 rfl w0 ok0 a w hc hs)
theorem zds {F:Fence} {n:Nat} {ι:Type} (R:ι -> Act -> World -> Prop) (μ:ι -> Nat) {c:Code} {Q:Exit -> Act -> World -> Prop} {a:Act} {w:World} (i0:ι) (h0:R i0 a w)
  (round:∀ i a w, R i a w -> c.wpIn F n P (Exit.then (fun a' w'=>∃ j, μ j < μ i /\ R j a' w') Q) a w):(Code.loop c).wpIn F n P Q a w:=by
 have hdec:∀ (a:Act) (w:World), Decidable (∃ i, R i a w):=fun _ _=>Classical.propDecidable _
 have hm:∀ (a:Act) (w:World), (∃ i, R i a w) -> ∃ n, ∃ i, R i a w /\ μ i = n:=fun a w ⟨i, h⟩=>⟨μ i, i, h, rfl⟩
 have least:∀ (p:Nat -> Prop), (∃ n, p n) -> ∃ n, p n /\ ∀ m, p m -> n <= m:=fun p ⟨n, hn⟩=>by
  induction n using Nat.strongRecOn with
  | _ n ih=>
   by_cases h:∃ m, m < n /\ p m
   ·obtain ⟨m, h1, h2⟩:=h; exact ih m h1 h2
   ·exact ⟨n, hn, fun m hm=>Nat.le_of_not_lt fun hlt=>h ⟨m, hlt, hm⟩⟩
 let M:Act -> World -> Nat:=fun a w=>@dite Nat (∃ i, R i a w) (hdec a w) (fun h=>Classical.choose (least _ (hm a w h))) (fun _=>0)
 have hM:∀ (a:Act) (w:World), (∃ i, R i a w) -> (∃ i, R i a w /\ μ i = M a w) /\ ∀ i, R i a w -> M a w <= μ i:=fun a w h=>by
  have hs:=Classical.choose_spec (least _ (hm a w h))
  have e:M a w = Classical.choose (least _ (hm a w h)):=by simp only[M]; rw [dif_pos h]
  rw [e]
  exact ⟨hs.1, fun i hi=>hs.2 _ ⟨i, hi, rfl⟩⟩
 refine wpIn_loop (fun a w=>∃ i, R i a w) M ⟨i0, h0⟩ fun a w hI=>?_
 obtain ⟨⟨i, hi, hmi⟩, _⟩:=hM a w hI
 refine wpIn_mono (round i a w hi) fun e a' w' hq=>?_
 cases e <;> try exact hq
 obtain ⟨j, hj, hs2⟩:=hq
 refine ⟨⟨j, hs2⟩, ?_⟩
 have:=(hM a' w' ⟨j, hs2⟩).2 j hs2
 omega
theorem zeM {ι:Type} (I:ι -> ASt) (p:ι -> Ph) (μ:ι -> Nat) {c:Code} (i0:ι) (hp:p i0 = ph) (h0:Weak st (I i0))
  (round:∀ i, qW C c (p i) (I i) (zbJ (fun q s=>∃ j, μ j < μ i /\ p j = q /\ Weak s (I j)) Q)):qW C (.loop c) ph st Q:=by
 intro w0 ok0 a w hc hs
 refine zds (fun i a w=>∃ w0 ok0, C.At (p i) w0 ok0 /\ Sit w0 ok0 (I i) a w) μ i0 ⟨w0, ok0, by rw [hp]; exact hc, h0 w0 ok0 a w hs⟩ fun i a w ⟨w1, ok1, hc1, hs1⟩=>?_
 refine wpIn_mono (round i w1 ok1 a w hc1 hs1) fun e a' w' ⟨q, w2, ok2, s, hc2, hs2, hq⟩=>?_
 cases e <;> try exact ⟨q, w2, ok2, s, hc2, hs2, hq⟩
 obtain ⟨j, hj, rfl, hw⟩:=hq
 exact ⟨j, hj, w2, ok2, hc2, hw _ _ _ _ hs2⟩
theorem yT {id:Nat} {l:List Oper} (h:wz C l.toArray l ph st Q):qW C (.region id l.toArray false) ph st Q:=
 fun w0 ok0 a w hc hs=>wpIn_region_lit (h w0 ok0 a w hc hs)
theorem zas (h:Q .normal ph st):wz C ops [] ph st Q:=fun _ _ _ _ hc hs=>⟨_, _, _, st, hc, hs, h⟩
theorem vX {x:EV} (hg:yu o = true) (hd:jO o st.n = true) (ho:OpY P G st.fr st.mem o x) (h:wz C ops l ph ⟨st.n, qX st.fr o.dst x, st.mem⟩ Q):wz C ops (o :: l) ph st Q:=by
 intro w0 ok0 a w hc hs
 exact wpListIn_plain (kH hg) fun K hK=>yg (kF hg) <| (ho.toM (qC hd)) w0 ok0 a w hc.g hc.ok hs K _ fun a' w' hs'=>hK _ _ (h w0 ok0 a' w' hc hs')
theorem qN {x:EV} {c:Bool} (hn:wV ops st.n = true) (hg:qQ ops st.fr o = some c) (hd:jO o st.n = true) (ho:c = true -> OpY P G st.fr st.mem o x)
  (h:wz C ops l ph ⟨st.n, qX st.fr o.dst (if c = true then x else .pub (.tup [])), st.mem⟩ Q):wz C ops (o :: l) ph st Q:=by
 intro w0 ok0 a w hc hs
 refine wpListIn_step fun K hK=>?_
 obtain ⟨ok, bs, _, _, h5, h6⟩:=hs.ex
 have hw:=yD h6.1 (fun j o t h1 h2=>by rw [hs.size]; exact wM hn j o t h1 h2) hg
 cases c with
 | true=>
  simp only[if_true] at h
  rw [if_pos hw]
  exact yg (xx hd) <| ((ho rfl).toM (qC hd)) w0 ok0 a w hc.g hc.ok hs K _ fun a' w' hs'=>hK _ _ (h w0 ok0 a' w' hc hs')
 | false=>
  simp only[Bool.false_eq_true, if_false] at h
  rw [if_neg (by rw [hw]; simp)]
  obtain ⟨h0, h1, h2, ok, bs, h3, h4, h5, h6⟩:=hs
  exact ⟨fun _ _=>trivial, hK _ _ (h w0 ok0 _ w hc (Sit.put h0 h1 h2 h3 h4 h5 h6 (Below.refl _ _) (by simp [FitsE, Fits, FitsL, undef]) (qC hd)))⟩
def xg:EV -> AV
 | .pub x=>x
 | _=>.top
def fgt (e:EV):EV:=.pub (xg e)
theorem zfY {ok ok':Nat -> Prop} {w w':World} {bs:List PB} {mem:List PO} {e:EV} (h:FitsE ok w bs mem e undef):Fits ok' w' (xg e) undef:=by
 cases e with
 | pub y=>
  simp only[FitsE] at h
  simp only[xg]
  cases y with
  | top=>simp only[Fits]
  | tup l=>
   simp only[Fits] at h ⊢
   obtain ⟨vs, e, h8⟩:=h
   have e':vs = []:=by simpa [undef] using e.symm
   subst e'
   refine ⟨[], e, ?_⟩
   cases l with
   | nil=>simp [FitsL]
   | cons=>simp [FitsL] at h8
  | v x=>simpa only [Fits] using h
  | _=>simp [Fits, undef] at h
 | _=>simp only[xg, Fits]
theorem xJ {fop:Operand} {args:Array Operand} {tys:Array TypeId} {k:Nat} {q:List AV} {c:Bool} (hn:wV ops st.n = true) (hg:qQ ops st.fr o = some c) (hd:jO o st.n = true)
  (ho:o.op = .call { callee:=.value fop, args:=args, argTypes:=tys }) (hf:c = true -> evO st.fr fop = .pub (.v (.func (.yield C.l) #[] #[]))) (ha:c = true -> args.toList.map (evO st.fr) = q.map .pub) (hq:c = true -> C.qs[k]? = some q)
  (hmem:st.mem = []) (hgh:st.n.gh = []) (hmk:st.n.mks = false) (hdf:st.n.dfs = []) (hh:st.n.hold = [])
  (h0:c = false -> wz C ops l (.on k) ⟨st.n, qX st.fr o.dst (.pub (.tup [])), []⟩ Q)
  (h1:c = true -> wz C ops l (.on (k + 1)) ⟨st.n, qX (fun t=>fgt (st.fr t)) o.dst (B true), []⟩ Q)
  (h2:c = true -> wz C ops l (.off k) ⟨st.n, qX (fun t=>fgt (st.fr t)) o.dst (B false), []⟩ Q):wz C ops (o :: l) (.on k) st Q:=by
 intro w0 ok0 a w hc hs
 refine wpListIn_step fun K hK=>?_
 obtain ⟨s0, s1, s2, ok, bs, s3, s4, s5, s6⟩:=hs
 have hw:=yD s6.1 (fun j o t h1 h2=>by rw [s0]; exact wM hn j o t h1 h2) hg
 have hdef:a.defers = []:=by
  have:=s1.1
  rw [hmk, hdf] at this
  cases hds:a.defers with
  | nil=>rfl
  | cons d ds=>
   rw [hds] at this
   simp only[Dfs] at this
   rcases this with ⟨h, _⟩ | ⟨t, l', e, _⟩
   ·cases h
   ·cases e
 cases c with
 | false=>
  rw [if_neg (by rw [hw]; simp)]
  rw [hmem] at s5 s6
  exact ⟨fun _ _=>trivial, hK _ _ (h0 rfl w0 ok0 _ w hc (Sit.put s0 s1 s2 s3 s4 s5 s6 (Below.refl _ _) (by simp [FitsE, Fits, FitsL, undef]) (qC hd)))⟩
 | true=>
  rw [if_pos hw]
  obtain ⟨M, hJ, hG, hok⟩:=hc
  have hJw:=C.abides _ _ _ _ hJ s2
  have hGw:=G.stable _ _ hG s2
  have hok':∀ x, ok x -> x < w.heap.size /\ ¬ M x /\ C.okS x:=fun x hx=>by
   rcases s4 x hx with h | h
   ·exact ⟨s5.lt x hx, (hok x h).2.1, (hok x h).2.2⟩
   ·exact ⟨s5.lt x hx, fun hm=>by have:=C.lt _ _ _ hJ x hm; omega, C.up _ _ _ x hJ h⟩
  have hfv:=qO (fr:=st.fr) (a:=a) (x:=fop) fun t _=>s6.1 t
  rw [hf rfl] at hfv
  simp only[FitsE, Fits] at hfv
  have key:∀ (l:List Operand) (xs:List AV), l.map (evO st.fr) = xs.map .pub -> FitsL ok w xs (l.map a.eval):=by
   intro l
   induction l with
   | nil=>intro xs h; cases xs with
    | nil=>simp [FitsL]
    | cons=>simp at h
   | cons y l ih=>intro xs h; cases xs with
    | nil=>simp at h
    | cons x xs=>
     simp only[List.map_cons, List.cons.injEq] at h
     simp only[List.map_cons, FitsL]
     have:=qO (fr:=st.fr) (a:=a) (x:=y) fun t _=>s6.1 t
     rw [h.1] at this
     exact ⟨_, _, rfl, by simpa only [FitsE] using this, ih xs h.2⟩
  let gh:List (AV × Value):=(List.range a.tmps.size).map fun t=>(xg (st.fr t), a.tmps.getD t undef)
  have hgh':∀ p ∈ gh, Fits ok w p.1 p.2:=fun p hp=>by
   obtain ⟨t, _, rfl⟩:=List.mem_map.1 hp
   have:=s6.1 t
   cases he:st.fr t with
   | pub x=>rw [he] at this; simpa only [FitsE, xg] using this
   | _=>simp only[xg, Fits]
  obtain ⟨fn, tmps, assign, body, hy, hr⟩:=C.round k M w ok (args.toList.map a.eval) q gh (hq rfl) hJw hGw hok' (key _ _ (ha rfl)) hgh'
  refine ⟨fun _ _=>trivial, ?_⟩
  rw [Oper.semAt_eq _ _ _ (xx hd)]
  have hex:(execOp a.eval o).run P w = .ok (.round C.l fn tmps assign body) w:=by
   have hargs:args.map a.eval = (args.toList.map a.eval).toArray:=by rw [← Array.toList_map]
   simp only[execOp, ho, resolve, hfv.1, Deferred.ofValue, invoke, Sem.run_bind, Sem.run_pure, Result.andThen_ok]
   simp only[Array.empty_append] at *
   rw [hargs]
   exact hy
  rw [hex, Oper.uponIn_round]
  refine ⟨fun h=>by simp [FW, Fence.wide] at h, hr.mono fun e W' ⟨b, M', ok', he, hJ', hG', hok2, hg2⟩=>?_⟩
  subst he
  have hsit:∀ x:EV, FitsE ok' W' [] [] x (.bool b) -> Sit W' ok' ⟨st.n, qX (fun t=>fgt (st.fr t)) o.dst x, []⟩ (a.put o.dst (.bool b)) W':=fun x hx=>by
   refine ⟨(size_put ..).trans s0, ⟨?_, fun p hp=>by rw [hh] at hp; cases hp⟩, Below.refl _ _, ok', [], fun _ h=>h, fun _ h=>.inl h, ⟨rfl, fun x hx=>(hok2 x hx).1, by simp, by simp, by simp, by simp⟩, ?_⟩
   ·rw [defers_put, hdef]; exact hdf
   ·refine wo (n:=st.n) ⟨fun t=>?_, fun p hp=>by rw [hgh] at hp; cases hp⟩ hx (fun d e=>by rw [s0]; exact (qC hd d e).1)
    by_cases ht:t < a.tmps.size
    ·have:=hg2 _ (List.mem_map_of_mem (f:=fun t=>(xg (st.fr t), a.tmps.getD t undef)) (List.mem_range.2 ht))
     simpa only [fgt, FitsE] using this
    ·have hu:a.tmps.getD t undef = undef:=by simp [Array.getD_eq_getD_getElem?, Array.getElem?_eq_none (Nat.le_of_not_lt ht)]
     have h7:=s6.1 t
     rw [hu] at h7 ⊢
     simp only[fgt, FitsE]
     exact zfY h7
  cases b with
  | true=>
   simp only[if_true] at hJ'
   exact hK _ _ (h1 rfl W' ok' _ W' ⟨M', hJ', hG', hok2⟩ (hsit _ (by simp [FitsE, Fits, Value.oneCell'])))
  | false=>
   simp only[Bool.false_eq_true, if_false] at hJ'
   exact hK _ _ (h2 rfl W' ok' _ W' ⟨M', hJ', hG', hok2⟩ (hsit _ (by simp [FitsE, Fits, Value.oneCell'])))
def zcM (P:Program) (G:Glob) (f:FuncId) (fs cs:List AV) (qs:List (List AV)):Prop:=
 Enters P f /\ ∀ (C:Cx P G) (w:World) (ok:Nat -> Prop) (us vs:List Value), C.qs = qs -> C.At (.on 0) w ok -> FitsL ok w fs us -> FitsL ok w cs vs ->
  CallsIn (FW none) 0 P f (us ++ [Value.func (.yield C.l) #[] #[]] ++ vs).toArray w (fun e w'=>∃ v ph M, e = .returned v /\ C.J ph M w' /\ (ph = .on qs.length ∨ ∃ k, ph = .off k))
theorem ze2 {f:FuncId} {fn:Func} {c:Code} {fs cs:List AV} {qs:List (List AV)} (hf:P.funcs[f]? = some fn) (hb:fn.body = some c) (hnm:(fn.name == "runtime.NumGoroutine") = false) (hlen':Nat.ble (fs ++ [AV.top] ++ cs).length fn.ntmps = true) (hres:fn.results = #[])
  (h:∀ C:Cx P G, C.qs = qs -> qW C c (.on 0) ⟨fn.ntmps, zmR (fs ++ [.v (.func (.yield C.l) #[] #[])] ++ cs), []⟩ (fun e ph st=>(e = .normal ∨ e = .ret) /\ st.n = fn.ntmps /\ (ph = .on qs.length ∨ ∃ k, ph = .off k))):zcM P G f fs cs qs:=by
 have hlen:=zLb hlen'
 refine ⟨⟨fn, hf, hnm, by simp [hb]⟩, fun C w ok us vs hC hat hfs hcs=>callsIn_of_wp hf hb trivial ?_⟩
 have hfit:FitsL ok w (fs ++ [.v (.func (.yield C.l) #[] #[])] ++ cs) (us ++ [Value.func (.yield C.l) #[] #[]] ++ vs):=(hfs.append (by simp [FitsL, Fits, Value.oneCell'])).append hcs
 have hl:=hfit.length
 have hlen2:(fs ++ [AV.v (.func (.yield C.l) #[] #[])] ++ cs).length <= fn.ntmps:=by simpa using hlen
 refine wpIn_mono (h C hC w ok _ w hat ?_) fun e a' w' ⟨ph, w1, ok1, st, hc', hs, he, hn, hph⟩=>?_
 ·refine ⟨by simp only[Array.size_append, Array.size_replicate, List.size_toArray, hl]; omega, ⟨rfl, fun p hp=>by cases hp⟩, Below.refl _ _, ok, [], fun _ h=>h, fun _ h=>.inl h, ⟨rfl, hat.ok, by simp, by simp, by simp, by simp⟩, fun t=>?_, fun p hp=>by cases hp⟩
  generalize hxs:fs ++ [AV.v (.func (.yield C.l) #[] #[])] ++ cs = xs at *
  generalize hvs:us ++ [Value.func (.yield C.l) #[] #[]] ++ vs = ws at *
  show FitsE ok w [] [] (match xs[t]? with | some x=>.pub x | none=>.pub .top) _
  by_cases ht:t < xs.length
  ·rw [List.getElem?_eq_getElem ht]
   obtain ⟨u, h1, h2⟩:=hfit.get (List.getElem?_eq_getElem ht)
   simp only[FitsE]
   have h3:t < ws.length:=(zLg h1).1
   have h4:ws[t] = u:=(zLg h1).2
   simp only[Array.getD_eq_getD_getElem?]
   rw [Array.getElem?_append_left (by simpa using h3)]
   simp [h3, h4, h2]
  ·rw [List.getElem?_eq_none (by omega)]
   simp [FitsE, Fits]
 ·obtain ⟨s0, s1, s2, _⟩:=hs
  have hdef:a'.defers = []:=by
   have:=s1.1
   rw [hn] at this
   cases hds:a'.defers with
   | nil=>rfl
   | cons d ds=>
    rw [hds] at this
    simp only[Dfs] at this
    rcases this with ⟨h, _⟩ | ⟨t, l', e, _⟩
    ·cases h
    ·cases e
  obtain ⟨M, hJ, _, _⟩:=hc'
  have hR:∃ v, (results fn a'.tmps).run P w' = .ok v w' /\ ∃ v' ph M, Ending.returned v = .returned v' /\ C.J ph M w' /\ (ph = .on qs.length ∨ ∃ k, ph = .off k):=
   ⟨_, results_none hres _ _ _, _, ph, M, rfl, C.abides _ _ _ _ hJ s2, hph⟩
  obtain ⟨v, hv, hR⟩:=hR
  rcases he with rfl | rfl
  ·exact ⟨hdef, v, hv, hR⟩
  ·exact ⟨hdef, v, hv, hR⟩
end
end Go.Av
end
section
namespace Go.Av
open Go.RowKit
@[reducible] def NS.round (n:Nat) (gh:List (EV × Value)) (hold:List (Nat × Obj)):NS:=⟨n, [], gh, false, hold⟩
@[reducible] def NS.marked (n:NS):NS:=⟨n.n, n.dfs, n.gh, true, n.hold⟩
def zb8 (fr:Nat -> EV):List Tmp -> List AV -> (Nat -> EV)
 | p :: ps, q :: qs=>zb8 (qX fr (some p) (.pub q)) ps qs
 | _, _=>fr
def jh (fr:Nat -> EV) (live:List Tmp):Nat -> EV:=fun t=>bif live.contains t then fr t else .pub .top
theorem xO {fr:Nat -> EV} {live:List Tmp} {t:Nat} (h:live.contains t = false):jh fr live t = .pub .top:=by
 unfold jh; rw [h]; rfl
def zd2 (N Nr:NS) (fr:Nat -> EV) (V:Prop) (I':List PO) (Q:Exit -> ASt -> Prop):Exit -> ASt -> Prop
 | .normal, s=>s.n = Nr /\ V /\ Weak s ⟨s.n, fun _=>.pub .top, I'⟩
 | .ret, s=>s.n = Nr /\ Q .ret ⟨N, fr, s.mem⟩
 | .exit id, s=>s.n = Nr /\ Q (.exit id) ⟨N, fr, s.mem⟩
 | .goto i, s=>s.n = Nr /\ Q (.goto i) ⟨N, fr, s.mem⟩
 | _, _=>False
section
variable {ok:Nat -> Prop} {w:World} {bs:List PB} {mem:List PO}
theorem zBs {l:Nat} {o o':Obj} (h:w.heap[l]? = some o) (h1:still o = true) (h2:still o' = true) (a:Addr):(w.putObj l o').cell? a = w.cell? a:=by
 unfold World.cell?
 by_cases e:a.block = l
 ·subst e
  have hlt:=(Array.getElem?_eq_some_iff.1 h).1
  have:(w.putObj a.block o').heap[a.block]? = some o':=by simp [World.putObj, hlt]
  rw [this, h]
  cases o <;> simp [still] at h1 <;> cases o' <;> simp [still] at h2 <;> rfl
 ·have:(w.putObj l o').heap[a.block]? = w.heap[a.block]?:=by simp [World.putObj, Array.getElem?_setIfInBounds_ne (Ne.symm e)]
  rw [this]
theorem vU {l:Nat} {o o':Obj} (h:w.heap[l]? = some o) (h1:still o = true) (h2:still o' = true):zAn w (w.putObj l o'):=⟨zBs h h1 h2, fun g arr c hg=>by
 by_cases e:l = g
 ·subst e; rw [h] at hg; injection hg with hg; subst hg; cases h1
 ·rw [show (w.putObj l o').heap[g]? = w.heap[g]? by simp [World.putObj, Array.getElem?_setIfInBounds_ne e]]; exact hg⟩
theorem ja {l k:Nat} {o':Obj} (h:k ≠ l):(w.putObj l o').heap[k]? = w.heap[k]?:=by simp [World.putObj, Array.getElem?_setIfInBounds_ne (Ne.symm h)]
theorem kK {l:Nat} {o o':Obj} (h:w.heap[l]? = some o):(w.putObj l o').heap[l]? = some o':=by
 have hlt:=(Array.getElem?_eq_some_iff.1 h).1
 simp [World.putObj, hlt]
theorem size_put' {l:Nat} {o':Obj}:(w.putObj l o').heap.size = w.heap.size:=by simp [World.putObj]
theorem MemOK.put {n l:Nat} {o o':Obj} (h:MemOK n ok w bs mem) (hl:w.heap[l]? = some o) (h1:still o = true) (h2:still o' = true):MemOK n ok (w.putObj l o') bs mem:=by
 refine ⟨h.len, fun b hb=>by rw [size_put']; exact h.lt b hb, fun l' b rows hb hm=>?_, fun l' b es hb hm=>?_, h.own', h.dist'⟩
 ·have hr:=h.row l' b rows hb hm
  refine ⟨hr.size, hr.nil, hr.pos, fun g hg=>?_⟩
  obtain ⟨cur, hc, h5, h6, h7, h8⟩:=hr.blk g hg
  have hne:g ≠ l:=fun e=>by subst e; rw [hl] at hc; injection hc with hc; subst hc; cases h1
  refine ⟨cur, by rw [ja hne]; exact hc, h5, h6, h7, fun i j r x hr hx=>?_⟩
  obtain ⟨u, h9, h10, h11⟩:=h8 i j r x hr hx
  exact ⟨u, h9, h10, h11.congr (vU hl h1 h2)⟩
 ·obtain ⟨g, arr, h3, h4, h5, h6⟩:=h.mp l' b es hb hm
  have hne:g ≠ l:=fun e=>by subst e; rw [hl] at h4; injection h4 with h4; subst h4; cases h1
  refine ⟨g, arr, h3, by rw [ja hne]; exact h4, h5, fun i k x hx=>?_⟩
  obtain ⟨v, h7, h8⟩:=h6 i k x hx
  exact ⟨v, h7, h8.congr (vU hl h1 h2)⟩
theorem MemOK.more {n:Nat} {ok':Nat -> Prop} (h:MemOK n ok w bs mem) (hlt:∀ b, ok' b -> b < w.heap.size) (hown:∀ (l:Nat) (b:PB) (o:PO) (g:Nat), bs[l]? = some b -> mem[l]? = some o -> o.live = true -> b.blk = some g -> ¬ ok' g):
  MemOK n (fun b=>ok b ∨ ok' b) w bs mem:=by
 refine ⟨h.len, fun b hb=>hb.elim (h.lt b) (hlt b), fun l b rows hb hm=>?_, fun l b es hb hm=>?_, fun l b o g hb hm ho hg=>?_, h.dist'⟩
 ·have hr:=h.row l b rows hb hm
  refine ⟨hr.size, hr.nil, hr.pos, fun g hg=>?_⟩
  obtain ⟨cur, hc, h5, h6, h7, h8⟩:=hr.blk g hg
  refine ⟨cur, hc, h5, h6, h7, fun i j r x hr hx=>?_⟩
  obtain ⟨u, h9, h10, h11⟩:=h8 i j r x hr hx
  exact ⟨u, h9, h10, h11.mono (fun b hb=>.inl hb) (fun _ _=>rfl) (Turn.refl _ _)⟩
 ·obtain ⟨g, arr, h3, h4, h5, h6⟩:=h.mp l b es hb hm
  refine ⟨g, arr, h3, h4, h5, fun i k x hx=>?_⟩
  obtain ⟨v, h7, h8⟩:=h6 i k x hx
  exact ⟨v, h7, h8.mono (fun b hb=>.inl hb) (fun _ _=>rfl) (Turn.refl _ _)⟩
 ·obtain ⟨h1, h2⟩:=h.own' l b o g hb hm ho hg
  exact ⟨h1, fun hk=>hk.elim h2 (hown l b o g hb hm ho hg)⟩
end
theorem Dfs.marks {mk:Bool} {w0 w:World} {tm:Array Value}:∀ {ds:List Deferred} {B:Nat} {l:List Tmp}, Dfs mk w0 w tm ds B l -> ∀ D ∈ marksOf ds, w0.heap.size <= D /\ D < B /\ w.heap[D]? = some (.deferred (some []))
 | [], _, _, _, D, hD=>by cases hD
 | d :: ds, B, l, h, D, hD=>by
  simp only[Dfs] at h
  rcases h with ⟨_, E, rfl, h1, h2, h3, h4⟩ | ⟨t, l', rfl, ⟨f, us, vs, rfl, _⟩, h2⟩
  ·simp only[marksOf, List.mem_cons] at hD
   rcases hD with rfl | hD
   ·exact ⟨h1, h2, h3⟩
   ·have:=h4.marks D hD; exact ⟨this.1, by omega, this.2.2⟩
  ·exact h2.marks D hD
theorem Dfs.again {mk:Bool} {w0 w w':World} {tm:Array Value}:∀ {ds:List Deferred} {B B':Nat} {l:List Tmp}, Dfs mk w0 w tm ds B l -> (∀ D ∈ marksOf ds, w'.heap[D]? = some (.deferred (some []))) -> B <= B' -> Dfs true w0 w' tm ds B' l
 | [], _, _, _, h, _, _=>by simpa only [Dfs] using h
 | d :: ds, B, B', l, h, hD, hB=>by
  simp only[Dfs] at h ⊢
  rcases h with ⟨_, E, rfl, h1, h2, h3, h4⟩ | ⟨t, l', rfl, ⟨f, us, vs, rfl, h0⟩, h2⟩
  ·exact .inl ⟨trivial, E, rfl, h1, by omega, hD E (by simp [marksOf]), h4.again (fun D h=>hD D (by simp [marksOf, h])) (Nat.le_refl _)⟩
  ·exact .inr ⟨t, l', rfl, ⟨f, us, vs, rfl, h0⟩, h2.again (fun D h=>hD D (by simpa [marksOf] using h)) hB⟩
theorem zcW {ok:Nat -> Prop} {w:World} {bs:List PB} {mem:List PO} {n:NS}:∀ {ps:List Tmp} {qs:List AV} {us:List Value} {fr:Nat -> EV} {a:Act}, Slots ok w bs mem n fr a -> FitsL ok w qs us -> (∀ p ∈ ps, p < a.tmps.size) ->
  Slots ok w bs mem n (zb8 fr ps qs) ⟨(ps.zip us).foldl (fun t (p, v)=>t.setIfInBounds p v) a.tmps, a.defers⟩ /\ ((ps.zip us).foldl (fun t (p, v)=>t.setIfInBounds p v) a.tmps).size = a.tmps.size
 | [], qs, us, fr, a, h, _, _=>by simpa [zb8] using h
 | p :: ps, [], us, fr, a, h, hq, _=>by simp only[FitsL] at hq; subst hq; simpa [zb8] using h
 | p :: ps, q :: qs, us, fr, a, h, hq, hp=>by
  simp only[FitsL] at hq
  obtain ⟨u, us', rfl, h1, h2⟩:=hq
  simp only[List.zip_cons_cons, List.foldl_cons, zb8]
  have h3:=wo (dst:=some p) (x:=.pub q) (u:=u) h (by simpa only [FitsE] using h1) (fun d e=>by injection e with e; subst e; exact hp p (by simp))
  have h4:=zcW (ps:=ps) (a:=a.put (some p) u) h3 h2 (fun x hx=>by rw [size_put]; exact hp x (by simp [hx]))
  refine ⟨h4.1, h4.2.trans (size_put ..)⟩
section
variable {P:Program} {G:Glob}
theorem zdy {st:ASt} {Q:Exit -> ASt -> Prop} {g:Operand} {ps:Array Tmp} {as bo:Code} {f:FuncId} {fs cs:List AV} {qs:List (List AV)} (live:List Tmp) (V:Nat -> Prop) (I:Nat -> List PO) (hV0:V 0)
  (hg:evO st.fr g = .pub (.fn f fs cs)) (hit:zcM P G f fs cs qs) (hm:st.mem = I 0) (hlen:∀ q ∈ qs, q.length = ps.size) (hpd:(ps.toList.all fun t=>Nat.blt t st.n.n) = true) (hlv:(live.all fun t=>Nat.blt t st.n.n) = true)
  (round:∀ (k:Nat) (q:List AV) (gh:List (EV × Value)) (l:Nat) (h1 h2:List (Nat × Obj)), qs[k]? = some q -> V k ->
   jl (r:=some l) P G as ⟨NS.round st.n.n gh h1, zb8 (jh st.fr live) ps.toList q, I k⟩ (fun e s=>e = .normal /\ s.n = NS.round st.n.n gh h1 /\
    jl (r:=some l) P G bo ⟨NS.round st.n.n gh h2, s.fr, s.mem⟩ (zd2 st.n.marked (NS.round st.n.n gh h2) (jh st.fr live) (V (k + 1)) (I (k + 1)) Q)))
  (hdone:V qs.length -> Q .normal ⟨st.n.marked, jh st.fr live, I qs.length⟩):jl (r:=none) P G (.rangeFunc g ps as bo) st Q:=by
 intro w0 ok0 a w hG hok hs
 obtain ⟨s0, s1, s2, ok, bs, s3, s4, s5, s6⟩:=hs
 have hgv:=qO (fr:=st.fr) (a:=a) (x:=g) fun t _=>s6.1 t
 rw [hg] at hgv
 simp only[FitsE, Fits] at hgv
 obtain ⟨us, vs, ge, hus, hvs⟩:=hgv
 refine wpIn_rangeFunc ?_
 intro fn hfn
 obtain ⟨rec, hrec⟩:∃ rec:LoopState -> Option Code -> Loop, rec = fun st pe=>{ state:=st, pending:=pe, fn, tmps:=a.tmps, params:=ps, assign:=as, body:=bo, defers:=w.heap.size }:=⟨_, rfl⟩
 obtain ⟨W1, hW1⟩:∃ W1, (w.alloc (.deferred (some []))).alloc (.loop (rec .ready none)) = W1:=⟨_, rfl⟩
 have hb1:Below w.heap.size w W1:=by
  rw [← hW1]
  exact ((Below.refl w.heap.size w).alloc (Nat.le_refl _) _).alloc (by simp) _
 have hL1:W1.heap[w.heap.size + 1]? = some (.loop (rec .ready none)):=by
  rw [← hW1]; have:=World.alloc_heap_new (w.alloc (.deferred (some []))) (.loop (rec .ready none)); rwa [World.size_alloc] at this
 have hK1:W1.heap[w.heap.size]? = some (.deferred (some [])):=by
  rw [← hW1]; exact (Below.heap_alloc _ _ _ (by simp)).trans (World.alloc_heap_new w _)
 have hsz1:W1.heap.size = w.heap.size + 2:=by rw [← hW1]; simp
 let hold0:List (Nat × Obj):=(w.heap.size, .deferred (some [])) :: (st.n.hold ++ (marksOf a.defers).map fun D=>(D, .deferred (some [])))
 have hhold:∀ p ∈ hold0, stl w0.heap.size [] p /\ p.1 < w.heap.size + 1 /\ W1.heap[p.1]? = some p.2:=fun p hp=>by
  simp only[hold0, List.mem_cons, List.mem_append, List.mem_map] at hp
  rcases hp with rfl | hp | ⟨D, hD, rfl⟩
  ·exact ⟨⟨⟨rfl, by simp [marksOf]⟩, s2.size⟩, by simp, hK1⟩
  ·obtain ⟨h1, h2⟩:=s1.2 p hp
   have hlt:=(Array.getElem?_eq_some_iff.1 h2).1
   exact ⟨⟨⟨h1.1.1, by simp [marksOf]⟩, h1.2⟩, by omega, by rw [hb1.block _ hlt]; exact h2⟩
  ·obtain ⟨h0, h1, h2⟩:=s1.1.marks D hD
   exact ⟨⟨⟨rfl, by simp [marksOf]⟩, h0⟩, by simp only; omega, by rw [hb1.block _ h1]; exact h2⟩
 let gh0:List (EV × Value):=(List.range a.tmps.size).map (fun t=>(jh st.fr live t, a.tmps.getD t undef)) ++ st.n.gh
 have hgh0:∀ p ∈ gh0, FitsE ok w bs st.mem p.1 p.2:=fun p hp=>by
  simp only[gh0, List.mem_append, List.mem_map] at hp
  rcases hp with ⟨t, _, rfl⟩ | hp
  ·simp only[jh]
   cases live.contains t with
   | true=>exact s6.1 t
   | false=>simp [FitsE, Fits]
  ·exact s6.2 p hp
 let frl:=jh st.fr live
 let Kx:Code -> List PO -> Prop:=fun c mem=>jl (r:=none) P G c ⟨st.n.marked, frl, mem⟩ Q
 let Core:(Nat -> Prop) -> List PO -> World -> Prop:=fun M mem W=>Below w0.heap.size w0 W /\ (∀ p ∈ hold0, W.heap[p.1]? = some p.2) /\ ∃ (ok:Nat -> Prop) (bs:List PB), (∀ b, ok0 b -> ok b) /\ (∀ b, ok b -> ok0 b ∨ w0.heap.size <= b) /\
  MemOK w0.heap.size ok W bs mem /\ (∀ p ∈ gh0, FitsE ok W bs mem p.1 p.2) /\ ∀ x, M x ↔ ∃ (l:Nat) (b:PB) (o:PO), bs[l]? = some b /\ mem[l]? = some o /\ o.live = true /\ b.blk = some x
 let J:Ph -> (Nat -> Prop) -> World -> Prop:=fun ph M W=>match ph with
  | .on k=>(V k /\ Core M (I k) W) /\ W.heap[w.heap.size + 1]? = some (.loop (rec .ready none))
  | .off _=>∃ c mem, Core M mem W /\ Kx c mem /\ W.heap[w.heap.size + 1]? = some (.loop (rec .done (some c)))
 have core_lt:∀ M mem W, Core M mem W -> ∀ x, M x -> x < W.heap.size:=fun M mem W h x hx=>by
  obtain ⟨_, _, ok, bs, _, _, h5, _, h7⟩:=h
  obtain ⟨l, b, o, e1, e2, e0, e3⟩:=(h7 x).1 hx
  exact h5.live_lt e1 e2 e0 e3
 have core_ab:∀ M mem W W', Core M mem W -> Below W.heap.size W W' -> Core M mem W':=fun M mem W W' h hb=>by
  obtain ⟨h1, h2, ok, bs, h3, h4, h5, h6, h7⟩:=h
  refine ⟨wI h1 h1.size hb, fun p hp=>by rw [hb.block _ (Array.getElem?_eq_some_iff.1 (h2 p hp)).1]; exact h2 p hp, okN ok W W', bs, fun b hb=>.inl (h3 b hb), fun b hb'=>?_, h5.grow hb, fun p hp=>(h6 p hp).grow h5.lt hb, h7⟩
  rcases hb' with h | h
  ·exact h4 b h
  ·exact .inr (Nat.le_trans h1.size h.1)
 have core_put:∀ M mem W o o', Core M mem W -> W.heap[w.heap.size + 1]? = some o -> still o = true -> still o' = true -> Core M mem (W.putObj (w.heap.size + 1) o'):=fun M mem W o o' h hl ho ho'=>by
  obtain ⟨h1, h2, ok, bs, h3, h4, h5, h6, h7⟩:=h
  refine ⟨h1.trans ⟨rfl, rfl, rfl, Nat.le_of_eq size_put'.symm, fun k hk=>ja (by have:=s2.size; omega)⟩, fun p hp=>by rw [ja (by have:=(hhold p hp).2.1; omega)]; exact h2 p hp, ok, bs, h3, h4, h5.put hl ho ho', fun p hp=>(h6 p hp).congr (vU hl ho ho'), h7⟩
 have hs2:=s2.size
 have hround:∀ (k:Nat) (M:Nat -> Prop) (W:World) (okI:Nat -> Prop) (xs:List Value) (q:List AV) (gh:List (AV × Value)), qs[k]? = some q -> J (.on k) M W -> G.holds W ->
   (∀ x, okI x -> x < W.heap.size /\ ¬ M x /\ (ok0 x ∨ w0.heap.size <= x)) -> FitsL okI W q xs -> (∀ p ∈ gh, Fits okI W p.1 p.2) ->
   ∃ fn tmps assign body, (Instr.yield (w.heap.size + 1) xs.toArray).run P W = .ok (.round (w.heap.size + 1) fn tmps assign body) W /\
    RoundIn (FW none) 0 P (w.heap.size + 1) fn tmps assign body W (fun e W'=>∃ (b:Bool) (M' ok':Nat -> Prop), e = .returned (.bool b) /\ J (if b then .on (k + 1) else .off k) M' W' /\ G.holds W' /\
     (∀ x, ok' x -> x < W'.heap.size /\ ¬ M' x /\ (ok0 x ∨ w0.heap.size <= x)) /\ ∀ p ∈ gh, Fits ok' W' p.1 p.2):=by
  intro k M W okI xs q gh hq hJ hGW hokI hfit hgh
  obtain ⟨⟨hVk, hc⟩, hL⟩:=hJ
  have hxl:xs.length = q.length:=hfit.length
  have hy:=run_yield (P:=P) (args:=xs.toArray) hL (by rw [hrec]; simp [hxl, hlen q (List.mem_of_getElem? hq)])
  rw [hrec] at hy
  obtain ⟨h1, h2, ok2, bs2, h3, h4, h5, h6, h7⟩:=hc
  let ghA:List (EV × Value):=gh0 ++ gh.map fun p=>(.pub p.1, p.2)
  let okR:Nat -> Prop:=fun b=>ok2 b ∨ okI b
  have h5R:MemOK w0.heap.size okR W bs2 (I k):=h5.more (fun b hb=>(hokI b hb).1) (fun l b o g e1 e2 e0 e3 he=>(hokI g he).2.1 ((h7 g).2 ⟨l, b, o, e1, e2, e0, e3⟩))
  have hghA:∀ p ∈ ghA, FitsE okR W bs2 (I k) p.1 p.2:=fun p hp=>by
   simp only[ghA, List.mem_append, List.mem_map] at hp
   rcases hp with hp | ⟨p', hp, rfl⟩
   ·exact (h6 p hp).mono (fun b hb=>.inl hb) (fun _ _=>rfl) (Turn.refl _ _)
   ·simp only[FitsE]; exact (hgh p' hp).mono (fun b hb=>.inr hb) (fun _ _=>rfl)
  have hslots:Slots okR W bs2 (I k) (NS.round st.n.n ghA ((w.heap.size + 1, .loop (rec .ready none)) :: hold0)) (jh st.fr live) ⟨a.tmps, []⟩:=by
   refine ⟨fun t=>?_, hghA⟩
   by_cases ht:t < a.tmps.size
   ·exact hghA (jh st.fr live t, a.tmps.getD t undef) (by simp only[ghA, gh0, List.mem_append, List.mem_map]; exact .inl (.inl ⟨t, List.mem_range.2 ht, rfl⟩))
   ·have:live.contains t = false:=by
     cases hc:live.contains t with
     | false=>rfl
     | true=>
      rw [List.all_eq_true] at hlv
      have:=hlv t (by simpa using hc)
      simp only[Nat.blt_eq] at this
      omega
    rw [xO this]; simp [FitsE, Fits]
  have hset:=zcW (ps:=ps.toList) (qs:=q) (us:=xs) hslots (hfit.mono (fun b hb=>.inr hb) (fun _ _=>rfl)) (fun p hp=>by
   rw [List.all_eq_true] at hpd
   have:=hpd p hp
   simp only[Nat.blt_eq] at this
   exact Nat.lt_of_lt_of_eq this s0.symm)
  have hfold:(ps.zip xs.toArray).foldl (fun t (x:Tmp × Value)=>t.setIfInBounds x.1 x.2) a.tmps = (ps.toList.zip xs).foldl (fun t (x:Tmp × Value)=>t.setIfInBounds x.1 x.2) a.tmps:=by
   rw [← Array.foldl_toList, Array.toList_zip]
  refine ⟨fn, _, as, bo, hy, roundIn_of_wpIn (F:=FW none) trivial ?_⟩
  have hr:=round k q ghA (w.heap.size + 1) ((w.heap.size + 1, .loop (rec .ready none)) :: hold0) ((w.heap.size + 1, .loop { rec .ready none with state:=.busy }) :: hold0) hq hVk
  have hsit0:Sit w0 ok0 ⟨NS.round st.n.n ghA ((w.heap.size + 1, .loop (rec .ready none)) :: hold0), zb8 (jh st.fr live) ps.toList q, I k⟩ { tmps:=(ps.zip xs.toArray).foldl (fun t (x:Tmp × Value)=>t.setIfInBounds x.1 x.2) a.tmps, defers:=[] } W:=by
   rw [hfold]
   refine ⟨hset.2.trans s0, ⟨rfl, fun p hp=>?_⟩, h1, okR, bs2, fun b hb=>.inl (h3 b hb), fun b hb=>hb.elim (h4 b) (fun h=>(hokI b h).2.2), h5R, hset.1⟩
   rcases List.mem_cons.1 hp with rfl | hp
   ·exact ⟨⟨⟨rfl, by simp [marksOf]⟩, by have:=s2.size; simp only; omega⟩, hL⟩
   ·exact ⟨(hhold p hp).1, h2 p hp⟩
  refine wpIn_mono (hr w0 ok0 _ W hG hok (by rw [hrec] at hsit0 ⊢; exact hsit0)) fun e a1 w1 ⟨s, hs, he, hn, hbody⟩=>?_
  subst he
  have hheld:∀ p ∈ (w.heap.size + 1, Obj.loop (rec .ready none)) :: hold0, w1.heap[p.1]? = some p.2:=fun p hp=>by
   have:=hs.nod.2
   rw [hn] at this
   exact (this p hp).2
  have hL1':=hheld _ (List.mem_cons_self ..)
  simp only at hL1'
  refine ⟨_, run_beginRound hL1' (by rw [hrec]), ?_⟩
  obtain ⟨t0, t1, t2, ok3, bs3, t3, t4, t5, t6⟩:=hs
  rw [hn] at t0 t1 t6
  have hput:∀ k, k < w0.heap.size -> (w1.putObj (w.heap.size + 1) (.loop { rec .ready none with state:=.busy })).heap[k]? = w1.heap[k]?:=fun k hk=>ja (by omega)
  have hsit1:Sit w0 ok0 ⟨NS.round st.n.n ghA ((w.heap.size + 1, .loop { rec .ready none with state:=.busy }) :: hold0), s.fr, s.mem⟩ a1 (w1.putObj (w.heap.size + 1) (.loop { rec .ready none with state:=.busy })):=by
   have hd0:a1.defers = []:=by
    have:=t1.1
    cases hd:a1.defers with
    | nil=>rfl
    | cons d ds=>
     rw [hd] at this
     simp only[Dfs] at this
     rcases this with ⟨h, _⟩ | ⟨t, l', e, _⟩
     ·cases h
     ·cases e
   refine ⟨t0, ⟨?_, fun p hp=>?_⟩, t2.trans ⟨rfl, rfl, rfl, Nat.le_of_eq size_put'.symm, hput⟩, ok3, bs3, t3, t4, t5.put hL1' rfl rfl, t6.map fun _ _ h=>h.congr (vU hL1' rfl rfl)⟩
   ·rw [hd0]; rfl
   ·rw [hd0]
    rcases List.mem_cons.1 hp with rfl | hp
    ·exact ⟨⟨⟨rfl, by simp [marksOf]⟩, by have:=s2.size; simp only; omega⟩, kK hL1'⟩
    ·exact ⟨(hhold p hp).1, by rw [ja (by have:=(hhold p hp).2.1; omega)]; exact hheld p (List.mem_cons_of_mem _ hp)⟩
  refine wpIn_mono (hbody w0 ok0 a1 _ hG hok hsit1) fun e a2 w2 ⟨s2', hs2', hq2⟩=>?_
  have fin:∀ (jump:Option Code) (mem:List PO), s2'.n = NS.round st.n.n ghA ((w.heap.size + 1, .loop { rec .ready none with state:=.busy }) :: hold0) ->
    (∃ fr', Sit w0 ok0 ⟨s2'.n, fr', mem⟩ a2 w2) -> ∃ W', (Instr.endRound (w.heap.size + 1) jump).run P w2 = .ok (.bool jump.isNone) W' /\
     W'.heap[w.heap.size + 1]? = some (.loop (rec (if jump.isNone then .ready else .done) jump)) /\ G.holds W' /\
     ∃ M' ok', Core M' mem W' /\ (∀ x, ok' x -> x < W'.heap.size /\ ¬ M' x /\ (ok0 x ∨ w0.heap.size <= x)) /\ ∀ p ∈ gh, Fits ok' W' p.1 p.2:=fun jump mem hn2 ⟨fr', hs3⟩=>by
   obtain ⟨v0, v1, v2, ok4, bs4, v3, v4, v5, v6⟩:=hs3
   rw [hn2] at v1 v6
   have hL2:=(v1.2 _ (List.mem_cons_self ..)).2
   simp only at hL2
   have hbel:Below w0.heap.size w0 (w2.putObj (w.heap.size + 1) (.loop (rec (if jump.isNone then .ready else .done) jump))):=v2.trans ⟨rfl, rfl, rfl, Nat.le_of_eq size_put'.symm, fun k hk=>ja (by omega)⟩
   refine ⟨w2.putObj (w.heap.size + 1) (.loop (rec (if jump.isNone then .ready else .done) jump)), ?_, kK hL2, G.stable _ _ hG hbel, _, ok4, ⟨hbel, fun p hp=>?_, ok4, bs4, v3, v4, v5.put hL2 rfl rfl, fun p hp=>(v6.2 p (by simp only[ghA, List.mem_append]; exact .inl hp)).congr (vU hL2 rfl rfl), fun x=>Iff.rfl⟩, fun x hx=>⟨by rw [size_put']; exact v5.lt x hx, fun ⟨l, b, o, e1, e2, e0, e3⟩=>(v5.own' l b o x e1 e2 e0 e3).2 hx, v4 x hx⟩, fun p hp=>?_⟩
   ·have:=run_endRound (P:=P) jump hL2
    rw [hrec] at this ⊢
    exact this
   ·rw [ja (by have:=(hhold p hp).2.1; omega)]
    exact (v1.2 p (List.mem_cons_of_mem _ hp)).2
   ·have:=v6.2 (.pub p.1, p.2) (by simp only[ghA, List.mem_append, List.mem_map]; exact .inr ⟨p, hp, rfl⟩)
    simp only[FitsE] at this
    exact this.congr (vU hL2 rfl rfl)
  cases e with
  | normal=>
   obtain ⟨hn2, hV2, hwk⟩:=hq2
   obtain ⟨W', e1, e2, e3, M', ok', e4, e5, e6⟩:=fin none (I (k + 1)) hn2 ⟨_, hwk _ _ _ _ hs2'⟩
   exact ⟨_, W', e1, true, M', ok', rfl, ⟨⟨hV2, e4⟩, e2⟩, e3, e5, e6⟩
  | ret=>
   obtain ⟨hn2, hq2⟩:=hq2
   obtain ⟨W', e1, e2, e3, M', ok', e4, e5, e6⟩:=fin (some .ret) s2'.mem hn2 ⟨_, hs2'⟩
   exact ⟨_, W', e1, false, M', ok', rfl, ⟨.ret, s2'.mem, e4, zN hq2, e2⟩, e3, e5, e6⟩
  | exit id=>
   obtain ⟨hn2, hq2⟩:=hq2
   obtain ⟨W', e1, e2, e3, M', ok', e4, e5, e6⟩:=fin (some (.exit id)) s2'.mem hn2 ⟨_, hs2'⟩
   exact ⟨_, W', e1, false, M', ok', rfl, ⟨.exit id, s2'.mem, e4, zAj hq2, e2⟩, e3, e5, e6⟩
  | goto i=>
   obtain ⟨hn2, hq2⟩:=hq2
   obtain ⟨W', e1, e2, e3, M', ok', e4, e5, e6⟩:=fin (some (.goto i)) s2'.mem hn2 ⟨_, hs2'⟩
   exact ⟨_, W', e1, false, M', ok', rfl, ⟨.goto i, s2'.mem, e4, zlk hq2, e2⟩, e3, e5, e6⟩
  | panic ch=>exact hq2.elim
  | outgrown=>exact hq2.elim
 let C:Cx P G:={
  l:=w.heap.size + 1
  qs:=qs
  J:=J
  okS:=fun x=>ok0 x ∨ w0.heap.size <= x
  lt:=fun ph M W h=>by
   cases ph with
   | on k=>exact core_lt _ _ _ h.1.2
   | off k=>obtain ⟨c, mem, h1, _⟩:=h; exact core_lt _ _ _ h1
  up:=fun ph M W x h hx=>by
   have hb:Below w0.heap.size w0 W:=by
    cases ph with
    | on k=>exact h.1.2.1
    | off k=>obtain ⟨c, mem, h1, _⟩:=h; exact h1.1
   exact .inr (Nat.le_trans hb.size hx)
  abides:=fun ph M W W' h hb=>by
   cases ph with
   | on k=>exact ⟨⟨h.1.1, core_ab _ _ _ _ h.1.2 hb⟩, by rw [hb.block _ (Array.getElem?_eq_some_iff.1 h.2).1]; exact h.2⟩
   | off k=>obtain ⟨c, mem, h1, h2, h3⟩:=h; exact ⟨c, mem, core_ab _ _ _ _ h1 hb, h2, by rw [hb.block _ (Array.getElem?_eq_some_iff.1 h3).1]; exact h3⟩
  round:=hround }
 refine ⟨w.heap.size + 1, [{ target:=.collected w.heap.size, args:=#[] }], W1, { target:=.fn (.func f) vs.toArray, args:=(us ++ [Value.func (.yield (w.heap.size + 1)) #[] #[]]).toArray }, W1, f, (us ++ [Value.func (.yield (w.heap.size + 1)) #[] #[]] ++ vs).toArray, W1, ?_, ?_, fun _ _=>trivial, ?_, fun h=>by simp [FW, Fence.wide] at h, ?_⟩
 ·rw [← hW1, hrec]; exact run_enterLoop_outer _ _ _ _ _
 ·simp only[resolve, ge, Deferred.ofValue, Sem.run_bind, Sem.run_pure, Result.andThen_ok]
  congr 3
  apply Array.toList_inj.1
  simp [Act.eval]
 ·simp only[invoke]
  rw [show (us ++ [Value.func (.yield (w.heap.size + 1)) #[] #[]]).toArray ++ vs.toArray = (us ++ [Value.func (.yield (w.heap.size + 1)) #[] #[]] ++ vs).toArray from by simp]
  exact enter_run hit.1 _ _
 ·have hcore1:Core (fun x=>∃ (l:Nat) (b:PB) (o:PO), bs[l]? = some b /\ (I 0)[l]? = some o /\ o.live = true /\ b.blk = some x) (I 0) W1:=by
   rw [hm] at s5 hgh0
   refine ⟨wI s2 s2.size hb1, fun p hp=>(hhold p hp).2.2, okN ok w W1, bs, fun b hb=>.inl (s3 b hb), fun b hb'=>?_, s5.grow hb1, fun p hp=>(hgh0 p hp).grow s5.lt hb1, fun x=>Iff.rfl⟩
   rcases hb' with h | h
   ·exact s4 b h
   ·exact .inr (Nat.le_trans s2.size h.1)
  have hat:C.At (.on 0) W1 ok:=by
   refine ⟨_, ⟨⟨hV0, hcore1⟩, hL1⟩, G.stable _ _ (G.stable _ _ hG s2) hb1, fun x hx=>⟨Nat.lt_of_lt_of_le (s5.lt x hx) hb1.size, fun ⟨l, b, o, e1, e2, e0, e3⟩=>?_, s4 x hx⟩⟩
   rw [← hm] at e2
   exact (s5.own' l b o x e1 e2 e0 e3).2 hx
  have hlow:∀ (l:List AV) (xs:List Value), FitsL ok w l xs -> FitsL ok W1 l xs:=fun l xs h=>h.mono (fun _ hb=>hb) (fun b hb=>hb1.block b (s5.lt b hb))
  refine (hit.2 C W1 ok us vs rfl hat (hlow _ _ hus) (hlow _ _ hvs)).mono fun e W2 ⟨v, ph, M, he, hJ, hph⟩=>?_
  subst he
  have fin:∀ (mem:List PO) (L:Loop), Core M mem W2 -> W2.heap[w.heap.size + 1]? = some (.loop L) -> Sit w0 ok0 ⟨st.n.marked, frl, mem⟩ { a with defers:=[{ target:=.collected w.heap.size, args:=#[] }] ++ a.defers } (W2.putObj (w.heap.size + 1) (.loop { L with state:=.exhausted })):=fun mem L hc hL=>by
   obtain ⟨h1, h2, ok2, bs2, h3, h4, h5, h6, h7⟩:=core_put _ _ _ _ (.loop { L with state:=.exhausted }) hc hL rfl rfl
   refine ⟨s0, ⟨?_, fun p hp=>⟨⟨⟨(s1.2 p hp).1.1.1, by
    have hlt:=(Array.getElem?_eq_some_iff.1 (s1.2 p hp).2).1
    simp only[List.cons_append, List.nil_append, marksOf, List.mem_cons, not_or]
    exact ⟨by omega, (s1.2 p hp).1.1.2⟩⟩, (s1.2 p hp).1.2⟩, h2 p (by simp only[hold0, List.mem_cons, List.mem_append]; exact .inr (.inl hp))⟩⟩, h1, ok2, bs2, h3, h4, h5, fun t=>?_, fun p hp=>h6 p (by simp only[gh0, List.mem_append]; exact .inr hp)⟩
   ·simp only[List.cons_append, List.nil_append, Dfs]
    refine .inl ⟨trivial, w.heap.size, rfl, s2.size, ?_, h2 (w.heap.size, .deferred (some [])) (by simp [hold0]), s1.1.again (fun D hD=>h2 (D, _) (by simp only[hold0, List.mem_cons, List.mem_append, List.mem_map]; exact .inr (.inr ⟨D, hD, rfl⟩))) (Nat.le_refl _)⟩
    have:=(Array.getElem?_eq_some_iff.1 (h2 (w.heap.size, .deferred (some [])) (by simp [hold0]))).1
    exact this
   ·by_cases ht:t < a.tmps.size
    ·exact h6 (jh st.fr live t, a.tmps.getD t undef) (by simp only[gh0, List.mem_append, List.mem_map]; exact .inl ⟨t, List.mem_range.2 ht, rfl⟩)
    ·have:live.contains t = false:=by
      cases hc:live.contains t with
      | false=>rfl
      | true=>
       rw [List.all_eq_true] at hlv
       have:=hlv t (by simpa using hc)
       simp only[Nat.blt_eq] at this
       omega
     show FitsE _ _ _ _ (jh st.fr live t) _
     rw [xO this]; simp [FitsE, Fits]
  cases ph with
  | on k=>
   rcases hph with hph | ⟨k', hph⟩
   ·injection hph with hph
    subst hph
    obtain ⟨⟨hVn, hc⟩, hL⟩:=hJ
    refine ⟨none, _, run_endLoop hL (by rw [hrec]; simp) ▸ (by rw [hrec]), ⟨_, fin _ _ hc hL, hdone hVn⟩⟩
   ·cases hph
  | off k=>
   obtain ⟨c, mem, hc, hk, hL⟩:=hJ
   refine ⟨some c, _, run_endLoop hL (by rw [hrec]; simp) ▸ (by rw [hrec]), hk w0 ok0 _ _ hG hok (fin _ _ hc hL)⟩
end
end Go.Av
end
