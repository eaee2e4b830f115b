import Derived.Test.YtdjncbjfejdamaaGreatDoorPlatB
import Derived.RangeFuncIn
set_option linter.unusedVariables false
set_option linter.unusedSimpArgs false
section
namespace Go.Av
open Go.RowKit
inductive Ph where
 | on (k:Nat)
 | off (k:Nat)
structure Cx (P:Program) (G:Glob) where
 l:Nat
 qs:List (List AV)
 J:Ph -> (Nat -> Prop) -> World -> Prop
 okS:Nat -> Prop
 lt:∀ p M W, J p M W -> ∀ x, M x -> x < W.heap.size
 up:∀ p M W x, J p M W -> W.heap.size <= x -> okS x
 abides:∀ p M W W', J p M W -> Below W.heap.size W W' -> J p M W'
 round:∀ (k:Nat) (M:Nat -> Prop) (W:World) (ok:Nat -> Prop) (us:List Value) (q:List AV) (gh:List (AV × Value)), qs[k]? = some q -> J (.on k) M W -> G.holds W ->
  (∀ x, ok x -> x < W.heap.size /\ ¬ M x /\ okS x) -> FitsL ok W q us -> (∀ p ∈ gh, Fits ok W p.1 p.2) ->
  ∃ fn tmps assign body, (Instr.yield l us.toArray).run P W = .ok (.round l fn tmps assign body) W /\
   RoundIn (FW none) 0 P l fn tmps assign body W (fun e W'=>∃ (b:Bool) (M' ok':Nat -> Prop), e = .returned (.bool b) /\ J (if b then .on (k + 1) else .off k) M' W' /\ G.holds W' /\
    (∀ x, ok' x -> x < W'.heap.size /\ ¬ M' x /\ okS x) /\ ∀ p ∈ gh, Fits ok' W' p.1 p.2)
section
variable {P:Program} {G:Glob} (C:Cx P G)
def Cx.At (ph:Ph) (w0:World) (ok0:Nat -> Prop):Prop:=∃ M, C.J ph M w0 /\ G.holds w0 /\ ∀ x, ok0 x -> x < w0.heap.size /\ ¬ M x /\ C.okS x
def Cx.lift (Q:Exit -> Ph -> ASt -> Prop):Exit -> Act -> World -> Prop:=fun e a w=>∃ ph w0 ok0 st, C.At ph w0 ok0 /\ Sit w0 ok0 st a w /\ Q e ph st
def vY (c:Code) (ph:Ph) (st:ASt) (Q:Exit -> Ph -> ASt -> Prop):Prop:=
 ∀ (w0:World) (ok0:Nat -> Prop) (a:Act) (w:World), C.At ph w0 ok0 -> Sit w0 ok0 st a w -> c.wpIn (FW none) 0 P (C.lift Q) a w
def zan (ops:Array Oper) (l:List Oper) (ph:Ph) (st:ASt) (Q:Exit -> Ph -> ASt -> Prop):Prop:=
 ∀ (w0:World) (ok0:Nat -> Prop) (a:Act) (w:World), C.At ph w0 ok0 -> Sit w0 ok0 st a w -> wpListIn (FW none) 0 P ops (C.lift Q) l a w
end
section
variable {P:Program} {G:Glob} {C:Cx P G} {ph:Ph} {st st':ASt} {Q:Exit -> Ph -> ASt -> Prop} {ops:Array Oper} {l:List Oper} {o:Oper}
theorem Cx.At.ok {w0:World} {ok0:Nat -> Prop} (h:C.At ph w0 ok0):∀ b, ok0 b -> b < w0.heap.size:=fun b hb=>by
 obtain ⟨M, _, _, h3⟩:=h; exact (h3 b hb).1
theorem Cx.At.g {w0:World} {ok0:Nat -> Prop} (h:C.At ph w0 ok0):G.holds w0:=by obtain ⟨M, _, h2, _⟩:=h; exact h2
theorem zgy {c:Code} (h:wL (r:=none) P G c st (fun e s=>Q e ph s)):vY C c ph st Q:=fun w0 ok0 a w hc hs=>
 wpIn_mono (h w0 ok0 a w hc.g hc.ok hs) fun _ _ _ ⟨s, hs', hq⟩=>⟨ph, w0, ok0, s, hc, hs', hq⟩
theorem zhp (h:Q .normal ph st):vY C .skip ph st Q:=fun _ _ _ _ hc hs=>wpIn_skip ⟨_, _, _, st, hc, hs, h⟩
theorem zrT (h:Q .ret ph st):vY C .ret ph st Q:=fun _ _ _ _ hc hs=>wpIn_ret ⟨_, _, _, st, hc, hs, h⟩
theorem zpr {id:Nat} (h:Q (.exit id) ph st):vY C (.exit id) ph st Q:=fun _ _ _ _ hc hs=>wpIn_exit ⟨_, _, _, st, hc, hs, h⟩
def zi3 (K:Ph -> ASt -> Prop) (Q:Exit -> Ph -> ASt -> Prop):Exit -> Ph -> ASt -> Prop
 | .normal, p, s=>K p s
 | e, p, s=>Q e p s
theorem zZk {K:Ph -> ASt -> Prop} (h:K ph st):zi3 K Q .normal ph st:=h
theorem zoe {K:Ph -> ASt -> Prop} (h:Q .ret ph st):zi3 K Q .ret ph st:=h
theorem zlv {K:Ph -> ASt -> Prop} {id:Nat} (h:Q (.exit id) ph st):zi3 K Q (.exit id) ph st:=h
theorem zcv {x y:Code} (h:vY C x ph st (zi3 (fun p s=>vY C y p s Q) Q)):vY C (.seq x y) ph st Q:=by
 intro w0 ok0 a w hc hs
 refine wpIn_seq (wpIn_mono (h w0 ok0 a w hc hs) fun e a' w' ⟨p, w1, ok1, s, hc', hs', hq⟩=>?_)
 cases e <;> first | exact hq w1 ok1 a' w' hc' hs' | exact ⟨p, w1, ok1, s, hc', hs', hq⟩
def zcJ (id:Nat) (Q:Exit -> Ph -> ASt -> Prop):Exit -> Ph -> ASt -> Prop
 | .exit i, p, s=>if i = id then Q .normal p s else Q (.exit i) p s
 | e, p, s=>Q e p s
theorem zgg {id:Nat} (h:Q .normal ph st):zcJ id Q .normal ph st:=h
theorem zo1 {id:Nat} (h:Q .ret ph st):zcJ id Q .ret ph st:=h
theorem zqj {id:Nat} (h:Q .normal ph st):zcJ id Q (.exit id) ph st:=by simpa [zcJ] using h
theorem ziI {id:Nat} {c:Code} (h:vY C c ph st (zcJ id Q)):vY C (.block id c) ph st Q:=by
 intro w0 ok0 a w hc hs
 refine wpIn_block (wpIn_mono (h w0 ok0 a w hc hs) fun e a' w' ⟨p, w1, ok1, s, hc', hs', hq⟩=>?_)
 cases e with
 | exit i=>
  by_cases hi:i = id
  ·
   simp only[Exit.inBlock, zcJ, if_pos hi] at hq ⊢; exact ⟨p, w1, ok1, s, hc', hs', hq⟩
  ·
   simp only[Exit.inBlock, zcJ, if_neg hi] at hq ⊢; exact ⟨p, w1, ok1, s, hc', hs', hq⟩
 | _=>exact ⟨p, w1, ok1, s, hc', hs', hq⟩
theorem zes {c:Operand} {x y:Code} {b:Bool} (hb:evO st.fr c = .pub (.v (.bool b))) (h1:b = true -> vY C x ph st Q) (h2:b = false -> vY C y ph st Q):vY C (.cond c x y) ph st Q:=by
 intro w0 ok0 a w hc hs
 obtain ⟨ok, bs, _, _, h5, h6⟩:=hs.ex
 have he:=jd (fr:=st.fr) (a:=a) (x:=c) fun t _=>h6.1 t
 rw [hb] at he
 simp only[FitsE, Fits] at he
 cases b with
 | true=>exact wpIn_cond_true he.1 (h1 rfl w0 ok0 a w hc hs)
 | false=>exact wpIn_cond_false he.1 (h2 rfl w0 ok0 a w hc hs)
theorem zib {F:Fence} {n:Nat} {ι:Type} (R:ι -> Act -> World -> Prop) (μ:ι -> Nat) {c:Code} {Q:Exit -> Act -> World -> Prop} {a:Act} {w:World} (i0:ι) (h0:R i0 a w)
  (round:∀ i a w, R i a w -> c.wpIn F n P (Exit.then (fun a' w'=>∃ j, μ j < μ i /\ R j a' w') Q) a w):(Code.loop c).wpIn F n P Q a w:=by
 have hdec:∀ (a:Act) (w:World), Decidable (∃ i, R i a w):=fun _ _=>Classical.propDecidable _
 have hm:∀ (a:Act) (w:World), (∃ i, R i a w) -> ∃ n, ∃ i, R i a w /\ μ i = n:=fun a w ⟨i, h⟩=>⟨μ i, i, h, rfl⟩
 have least:∀ (p:Nat -> Prop), (∃ n, p n) -> ∃ n, p n /\ ∀ m, p m -> n <= m:=fun p ⟨n, hn⟩=>by
  induction n using Nat.strongRecOn with
  | _ n ih=>
   by_cases h:∃ m, m < n /\ p m
   ·
    obtain ⟨m, h1, h2⟩:=h; exact ih m h1 h2
   ·
    exact ⟨n, hn, fun m hm=>Nat.le_of_not_lt fun hlt=>h ⟨m, hlt, hm⟩⟩
 let M:Act -> World -> Nat:=fun a w=>@dite Nat (∃ i, R i a w) (hdec a w) (fun h=>Classical.choose (least _ (hm a w h))) (fun _=>0)
 have hM:∀ (a:Act) (w:World), (∃ i, R i a w) -> (∃ i, R i a w /\ μ i = M a w) /\ ∀ i, R i a w -> M a w <= μ i:=fun a w h=>by
  have hs:=Classical.choose_spec (least _ (hm a w h))
  have e:M a w = Classical.choose (least _ (hm a w h)):=by simp only[M]; rw [dif_pos h]
  rw [e]
  exact ⟨hs.1, fun i hi=>hs.2 _ ⟨i, hi, rfl⟩⟩
 refine wpIn_loop (fun a w=>∃ i, R i a w) M ⟨i0, h0⟩ fun a w hI=>?_
 obtain ⟨⟨i, hi, hmi⟩, _⟩:=hM a w hI
 refine wpIn_mono (round i a w hi) fun e a' w' hq=>?_
 cases e <;> try exact hq
 obtain ⟨j, hj, hs2⟩:=hq
 refine ⟨⟨j, hs2⟩, ?_⟩
 have:=(hM a' w' ⟨j, hs2⟩).2 j hs2
 omega
theorem zp1 {ι:Type} (I:ι -> ASt) (p:ι -> Ph) (μ:ι -> Nat) {c:Code} (i0:ι) (hp:p i0 = ph) (h0:Weak st (I i0))
  (round:∀ i, vY C c (p i) (I i) (zi3 (fun q s=>∃ j, μ j < μ i /\ p j = q /\ Weak s (I j)) Q)):vY C (.loop c) ph st Q:=by
 intro w0 ok0 a w hc hs
 refine zib (fun i a w=>∃ w0 ok0, C.At (p i) w0 ok0 /\ Sit w0 ok0 (I i) a w) μ i0 ⟨w0, ok0, by rw [hp]; exact hc, h0 w0 ok0 a w hs⟩ fun i a w ⟨w1, ok1, hc1, hs1⟩=>?_
 refine wpIn_mono (round i w1 ok1 a w hc1 hs1) fun e a' w' ⟨q, w2, ok2, s, hc2, hs2, hq⟩=>?_
 cases e <;> try exact ⟨q, w2, ok2, s, hc2, hs2, hq⟩
 obtain ⟨j, hj, rfl, hw⟩:=hq
 exact ⟨j, hj, w2, ok2, hc2, hw _ _ _ _ hs2⟩
theorem zgf {id:Nat} {l:List Oper} (h:zan C l.toArray l ph st Q):vY C (.region id l.toArray false) ph st Q:=
 fun w0 ok0 a w hc hs=>wpIn_region_lit (h w0 ok0 a w hc hs)
theorem zkH (h:Q .normal ph st):zan C ops [] ph st Q:=fun _ _ _ _ hc hs=>⟨_, _, _, st, hc, hs, h⟩
theorem zjW {x:EV} (hg:zad o = true) (hd:vC o st.n = true) (ho:OpY P G st.fr st.mem o x) (h:zan C ops l ph ⟨st.n, jr st.fr o.dst x, st.mem⟩ Q):zan C ops (o :: l) ph st Q:=by
 intro w0 ok0 a w hc hs
 exact wpListIn_plain (zcU hg) fun K hK=>zar (zcO hg) <| (ho.toM (qM hd)) w0 ok0 a w hc.g hc.ok hs K _ fun a' w' hs'=>hK _ _ (h w0 ok0 a' w' hc hs')
theorem yR {x:EV} {c:Bool} (hn:yt ops st.n = true) (hg:ja ops st.fr o = some c) (hd:vC o st.n = true) (ho:c = true -> OpY P G st.fr st.mem o x)
  (h:zan C ops l ph ⟨st.n, jr st.fr o.dst (if c = true then x else .pub (.tup [])), st.mem⟩ Q):zan C ops (o :: l) ph st Q:=by
 intro w0 ok0 a w hc hs
 refine wpListIn_step fun K hK=>?_
 obtain ⟨ok, bs, _, _, h5, h6⟩:=hs.ex
 have hw:=xk h6.1 (fun j o t h1 h2=>by rw [hs.size]; exact yI hn j o t h1 h2) hg
 cases c with
 | true=>
  simp only[if_true] at h
  rw [if_pos hw]
  exact zar (zdV hd) <| ((ho rfl).toM (qM hd)) w0 ok0 a w hc.g hc.ok hs K _ fun a' w' hs'=>hK _ _ (h w0 ok0 a' w' hc hs')
 | false=>
  simp only[Bool.false_eq_true, if_false] at h
  rw [if_neg (by rw [hw]; simp)]
  obtain ⟨h0, h1, h2, ok, bs, h3, h4, h5, h6⟩:=hs
  exact ⟨fun _ _=>trivial, hK _ _ (h w0 ok0 _ w hc (Sit.put h0 h1 h2 h3 h4 h5 h6 (Below.refl _ _) (by simp [FitsE, Fits, FitsL, undef]) (qM hd)))⟩
def zec:EV -> AV
 | .pub x=>x
 | _=>.top
def fgt (e:EV):EV:=.pub (zec e)
theorem zjN {ok ok':Nat -> Prop} {w w':World} {bs:List PB} {mem:List PO} {e:EV} (h:FitsE ok w bs mem e undef):Fits ok' w' (zec e) undef:=by
 cases e with
 | pub y=>
  simp only[FitsE] at h
  simp only[zec]
  cases y with
  | top=>simp only[Fits]
  | tup l=>
   simp only[Fits] at h ⊢
   obtain ⟨vs, e, h8⟩:=h
   have e':vs = []:=by simpa [undef] using e.symm
   subst e'
   refine ⟨[], e, ?_⟩
   cases l with
   | nil=>simp [FitsL]
   | cons=>simp [FitsL] at h8
  | v x=>simpa only [Fits] using h
  | _=>simp [Fits, undef] at h
 | _=>simp only[zec, Fits]
theorem zi6 {fop:Operand} {args:Array Operand} {tys:Array TypeId} {k:Nat} {q:List AV} {c:Bool} (hn:yt ops st.n = true) (hg:ja ops st.fr o = some c) (hd:vC o st.n = true)
  (ho:o.op = .call { callee:=.value fop, args:=args, argTypes:=tys }) (hf:c = true -> evO st.fr fop = .pub (.v (.func (.yield C.l) #[] #[]))) (ha:c = true -> args.toList.map (evO st.fr) = q.map .pub) (hq:c = true -> C.qs[k]? = some q)
  (hmem:st.mem = []) (hgh:st.n.gh = []) (hmk:st.n.mks = false) (hdf:st.n.dfs = []) (hh:st.n.hold = [])
  (h0:c = false -> zan C ops l (.on k) ⟨st.n, jr st.fr o.dst (.pub (.tup [])), []⟩ Q)
  (h1:c = true -> zan C ops l (.on (k + 1)) ⟨st.n, jr (fun t=>fgt (st.fr t)) o.dst (B true), []⟩ Q)
  (h2:c = true -> zan C ops l (.off k) ⟨st.n, jr (fun t=>fgt (st.fr t)) o.dst (B false), []⟩ Q):zan C ops (o :: l) (.on k) st Q:=by
 intro w0 ok0 a w hc hs
 refine wpListIn_step fun K hK=>?_
 obtain ⟨s0, s1, s2, ok, bs, s3, s4, s5, s6⟩:=hs
 have hw:=xk s6.1 (fun j o t h1 h2=>by rw [s0]; exact yI hn j o t h1 h2) hg
 have hdef:a.defers = []:=by
  have:=s1.1
  rw [hmk, hdf] at this
  cases hds:a.defers with
  | nil=>rfl
  | cons d ds=>
   rw [hds] at this
   simp only[Dfs] at this
   rcases this with ⟨h, _⟩ | ⟨t, l', e, _⟩
   ·
    cases h
   ·
    cases e
 cases c with
 | false=>
  rw [if_neg (by rw [hw]; simp)]
  rw [hmem] at s5 s6
  exact ⟨fun _ _=>trivial, hK _ _ (h0 rfl w0 ok0 _ w hc (Sit.put s0 s1 s2 s3 s4 s5 s6 (Below.refl _ _) (by simp [FitsE, Fits, FitsL, undef]) (qM hd)))⟩
 | true=>
  rw [if_pos hw]
  obtain ⟨M, hJ, hG, hok⟩:=hc
  have hJw:=C.abides _ _ _ _ hJ s2
  have hGw:=G.stable _ _ hG s2
  have hok':∀ x, ok x -> x < w.heap.size /\ ¬ M x /\ C.okS x:=fun x hx=>by
   rcases s4 x hx with h | h
   ·
    exact ⟨s5.lt x hx, (hok x h).2.1, (hok x h).2.2⟩
   ·
    exact ⟨s5.lt x hx, fun hm=>by have:=C.lt _ _ _ hJ x hm; omega, C.up _ _ _ x hJ h⟩
  have hfv:=jd (fr:=st.fr) (a:=a) (x:=fop) fun t _=>s6.1 t
  rw [hf rfl] at hfv
  simp only[FitsE, Fits] at hfv
  have key:∀ (l:List Operand) (xs:List AV), l.map (evO st.fr) = xs.map .pub -> FitsL ok w xs (l.map a.eval):=by
   intro l
   induction l with
   | nil=>intro xs h; cases xs with
    | nil=>simp [FitsL]
    | cons=>simp at h
   | cons y l ih=>intro xs h; cases xs with
    | nil=>simp at h
    | cons x xs=>
     simp only[List.map_cons, List.cons.injEq] at h
     simp only[List.map_cons, FitsL]
     have:=jd (fr:=st.fr) (a:=a) (x:=y) fun t _=>s6.1 t
     rw [h.1] at this
     exact ⟨_, _, rfl, by simpa only [FitsE] using this, ih xs h.2⟩
  let gh:List (AV × Value):=(List.range a.tmps.size).map fun t=>(zec (st.fr t), a.tmps.getD t undef)
  have hgh':∀ p ∈ gh, Fits ok w p.1 p.2:=fun p hp=>by
   obtain ⟨t, _, rfl⟩:=List.mem_map.1 hp
   have:=s6.1 t
   cases he:st.fr t with
   | pub x=>rw [he] at this; simpa only [FitsE, zec] using this
   | _=>simp only[zec, Fits]
  obtain ⟨fn, tmps, assign, body, hy, hr⟩:=C.round k M w ok (args.toList.map a.eval) q gh (hq rfl) hJw hGw hok' (key _ _ (ha rfl)) hgh'
  refine ⟨fun _ _=>trivial, ?_⟩
  rw [Oper.semAt_eq _ _ _ (zdV hd)]
  have hex:(execOp a.eval o).run P w = .ok (.round C.l fn tmps assign body) w:=by
   have hargs:args.map a.eval = (args.toList.map a.eval).toArray:=by rw [← Array.toList_map]
   simp only[execOp, ho, resolve, hfv.1, Deferred.ofValue, invoke, Sem.run_bind, Sem.run_pure, Result.andThen_ok]
   simp only[Array.empty_append] at *
   rw [hargs]
   exact hy
  rw [hex, Oper.uponIn_round]
  refine ⟨fun h=>by simp [FW, Fence.wide] at h, hr.mono fun e W' ⟨b, M', ok', he, hJ', hG', hok2, hg2⟩=>?_⟩
  subst he
  have hsit:∀ x:EV, FitsE ok' W' [] [] x (.bool b) -> Sit W' ok' ⟨st.n, jr (fun t=>fgt (st.fr t)) o.dst x, []⟩ (a.put o.dst (.bool b)) W':=fun x hx=>by
   refine ⟨(size_put ..).trans s0, ⟨?_, fun p hp=>by rw [hh] at hp; cases hp⟩, Below.refl _ _, ok', [], fun _ h=>h, fun _ h=>.inl h, ⟨rfl, fun x hx=>(hok2 x hx).1, by simp, by simp, by simp, by simp⟩, ?_⟩
   ·
    rw [defers_put, hdef]; exact hdf
   ·
    refine zV6 (n:=st.n) ⟨fun t=>?_, fun p hp=>by rw [hgh] at hp; cases hp⟩ hx (fun d e=>by rw [s0]; exact (qM hd d e).1)
    by_cases ht:t < a.tmps.size
    ·
     have:=hg2 _ (List.mem_map_of_mem (f:=fun t=>(zec (st.fr t), a.tmps.getD t undef)) (List.mem_range.2 ht))
     simpa only [fgt, FitsE] using this
    ·
     have hu:a.tmps.getD t undef = undef:=by simp [Array.getD_eq_getD_getElem?, Array.getElem?_eq_none (Nat.le_of_not_lt ht)]
     have h7:=s6.1 t
     rw [hu] at h7 ⊢
     simp only[fgt, FitsE]
     exact zjN h7
  cases b with
  | true=>
   simp only[if_true] at hJ'
   exact hK _ _ (h1 rfl W' ok' _ W' ⟨M', hJ', hG', hok2⟩ (hsit _ (by simp [FitsE, Fits, Value.oneCell'])))
  | false=>
   simp only[Bool.false_eq_true, if_false] at hJ'
   exact hK _ _ (h2 rfl W' ok' _ W' ⟨M', hJ', hG', hok2⟩ (hsit _ (by simp [FitsE, Fits, Value.oneCell'])))
def zlr (P:Program) (G:Glob) (f:FuncId) (fs cs:List AV) (qs:List (List AV)):Prop:=
 Enters P f /\ ∀ (C:Cx P G) (w:World) (ok:Nat -> Prop) (us vs:List Value), C.qs = qs -> C.At (.on 0) w ok -> FitsL ok w fs us -> FitsL ok w cs vs ->
  CallsIn (FW none) 0 P f (us ++ [Value.func (.yield C.l) #[] #[]] ++ vs).toArray w (fun e w'=>∃ v ph M, e = .returned v /\ C.J ph M w' /\ (ph = .on qs.length ∨ ∃ k, ph = .off k))
theorem zp5 {f:FuncId} {fn:Func} {c:Code} {fs cs:List AV} {qs:List (List AV)} (hf:P.funcs[f]? = some fn) (hb:fn.body = some c) (hnm:(fn.name == "runtime.NumGoroutine") = false) (hlen':Nat.ble (fs ++ [AV.top] ++ cs).length fn.ntmps = true) (hres:fn.results = #[])
  (h:∀ C:Cx P G, C.qs = qs -> vY C c (.on 0) ⟨fn.ntmps, zsH (fs ++ [.v (.func (.yield C.l) #[] #[])] ++ cs), []⟩ (fun e ph st=>(e = .normal ∨ e = .ret) /\ st.n = fn.ntmps /\ (ph = .on qs.length ∨ ∃ k, ph = .off k))):zlr P G f fs cs qs:=by
 have hlen:=zLb hlen'
 refine ⟨⟨fn, hf, hnm, by simp [hb]⟩, fun C w ok us vs hC hat hfs hcs=>callsIn_of_wp hf hb trivial ?_⟩
 have hfit:FitsL ok w (fs ++ [.v (.func (.yield C.l) #[] #[])] ++ cs) (us ++ [Value.func (.yield C.l) #[] #[]] ++ vs):=(hfs.append (by simp [FitsL, Fits, Value.oneCell'])).append hcs
 have hl:=hfit.length
 have hlen2:(fs ++ [AV.v (.func (.yield C.l) #[] #[])] ++ cs).length <= fn.ntmps:=by simpa using hlen
 refine wpIn_mono (h C hC w ok _ w hat ?_) fun e a' w' ⟨ph, w1, ok1, st, hc', hs, he, hn, hph⟩=>?_
 ·
  refine ⟨by simp only[Array.size_append, Array.size_replicate, List.size_toArray, hl]; omega, ⟨rfl, fun p hp=>by cases hp⟩, Below.refl _ _, ok, [], fun _ h=>h, fun _ h=>.inl h, ⟨rfl, hat.ok, by simp, by simp, by simp, by simp⟩, fun t=>?_, fun p hp=>by cases hp⟩
  generalize hxs:fs ++ [AV.v (.func (.yield C.l) #[] #[])] ++ cs = xs at *
  generalize hvs:us ++ [Value.func (.yield C.l) #[] #[]] ++ vs = ws at *
  show FitsE ok w [] [] (match xs[t]? with | some x=>.pub x | none=>.pub .top) _
  by_cases ht:t < xs.length
  ·
   rw [List.getElem?_eq_getElem ht]
   obtain ⟨u, h1, h2⟩:=hfit.get (List.getElem?_eq_getElem ht)
   simp only[FitsE]
   have h3:t < ws.length:=(zLg h1).1
   have h4:ws[t] = u:=(zLg h1).2
   simp only[Array.getD_eq_getD_getElem?]
   rw [Array.getElem?_append_left (by simpa using h3)]
   simp [h3, h4, h2]
  ·
   rw [List.getElem?_eq_none (by omega)]
   simp [FitsE, Fits]
 ·
  obtain ⟨s0, s1, s2, _⟩:=hs
  have hdef:a'.defers = []:=by
   have:=s1.1
   rw [hn] at this
   cases hds:a'.defers with
   | nil=>rfl
   | cons d ds=>
    rw [hds] at this
    simp only[Dfs] at this
    rcases this with ⟨h, _⟩ | ⟨t, l', e, _⟩
    ·
     cases h
    ·
     cases e
  obtain ⟨M, hJ, _, _⟩:=hc'
  have hR:∃ v, (results fn a'.tmps).run P w' = .ok v w' /\ ∃ v' ph M, Ending.returned v = .returned v' /\ C.J ph M w' /\ (ph = .on qs.length ∨ ∃ k, ph = .off k):=
   ⟨_, results_none hres _ _ _, _, ph, M, rfl, C.abides _ _ _ _ hJ s2, hph⟩
  obtain ⟨v, hv, hR⟩:=hR
  rcases he with rfl | rfl
  ·
   exact ⟨hdef, v, hv, hR⟩
  ·
   exact ⟨hdef, v, hv, hR⟩
end
end Go.Av
end
section
namespace Go.Av
open Go.RowKit
@[reducible] def NS.round (n:Nat) (gh:List (EV × Value)) (hold:List (Nat × Obj)):NS:=⟨n, [], gh, false, hold⟩
@[reducible] def NS.marked (n:NS):NS:=⟨n.n, n.dfs, n.gh, true, n.hold⟩
def zed (fr:Nat -> EV):List Tmp -> List AV -> (Nat -> EV)
 | p :: ps, q :: qs=>zed (jr fr (some p) (.pub q)) ps qs
 | _, _=>fr
def yu (fr:Nat -> EV) (live:List Tmp):Nat -> EV:=fun t=>bif live.contains t then fr t else .pub .top
theorem zeL {fr:Nat -> EV} {live:List Tmp} {t:Nat} (h:live.contains t = false):yu fr live t = .pub .top:=by
 unfold yu; rw [h]; rfl
def znH (N Nr:NS) (fr:Nat -> EV) (V:Prop) (I':List PO) (Q:Exit -> ASt -> Prop):Exit -> ASt -> Prop
 | .normal, s=>s.n = Nr /\ V /\ Weak s ⟨s.n, fun _=>.pub .top, I'⟩
 | .ret, s=>s.n = Nr /\ Q .ret ⟨N, fr, s.mem⟩
 | .exit id, s=>s.n = Nr /\ Q (.exit id) ⟨N, fr, s.mem⟩
 | .goto i, s=>s.n = Nr /\ Q (.goto i) ⟨N, fr, s.mem⟩
 | _, _=>False
section
variable {ok:Nat -> Prop} {w:World} {bs:List PB} {mem:List PO}
theorem xK {l:Nat} {o o':Obj} (h:w.heap[l]? = some o) (h1:still o = true) (h2:still o' = true) (a:Addr):(w.putObj l o').cell? a = w.cell? a:=by
 unfold World.cell?
 by_cases e:a.block = l
 ·
  subst e
  have hlt:=(Array.getElem?_eq_some_iff.1 h).1
  have:(w.putObj a.block o').heap[a.block]? = some o':=by simp [World.putObj, hlt]
  rw [this, h]
  cases o <;> simp [still] at h1 <;> cases o' <;> simp [still] at h2 <;> rfl
 ·
  have:(w.putObj l o').heap[a.block]? = w.heap[a.block]?:=by simp [World.putObj, Array.getElem?_setIfInBounds_ne (Ne.symm e)]
  rw [this]
theorem ww {l k:Nat} {o':Obj} (h:k ≠ l):(w.putObj l o').heap[k]? = w.heap[k]?:=by simp [World.putObj, Array.getElem?_setIfInBounds_ne (Ne.symm h)]
theorem zbs {l:Nat} {o o':Obj} (h:w.heap[l]? = some o):(w.putObj l o').heap[l]? = some o':=by
 have hlt:=(Array.getElem?_eq_some_iff.1 h).1
 simp [World.putObj, hlt]
theorem size_put' {l:Nat} {o':Obj}:(w.putObj l o').heap.size = w.heap.size:=by simp [World.putObj]
theorem MemOK.put {n l:Nat} {o o':Obj} (h:MemOK n ok w bs mem) (hl:w.heap[l]? = some o) (h1:still o = true) (h2:still o' = true):MemOK n ok (w.putObj l o') bs mem:=by
 refine ⟨h.len, fun b hb=>by rw [size_put']; exact h.lt b hb, fun l' b rows hb hm=>?_, fun l' b es hb hm=>?_, h.own', h.dist'⟩
 ·
  have hr:=h.row l' b rows hb hm
  refine ⟨hr.size, hr.nil, hr.pos, fun g hg=>?_⟩
  obtain ⟨cur, hc, h5, h6, h7, h8⟩:=hr.blk g hg
  have hne:g ≠ l:=fun e=>by subst e; rw [hl] at hc; injection hc with hc; subst hc; cases h1
  refine ⟨cur, by rw [ww hne]; exact hc, h5, h6, h7, fun i j r x hr hx=>?_⟩
  obtain ⟨u, h9, h10, h11⟩:=h8 i j r x hr hx
  exact ⟨u, h9, h10, h11.congr (xK hl h1 h2)⟩
 ·
  obtain ⟨g, arr, h3, h4, h5, h6⟩:=h.mp l' b es hb hm
  have hne:g ≠ l:=fun e=>by subst e; rw [hl] at h4; injection h4 with h4; subst h4; cases h1
  refine ⟨g, arr, h3, by rw [ww hne]; exact h4, h5, fun i k x hx=>?_⟩
  obtain ⟨v, h7, h8⟩:=h6 i k x hx
  exact ⟨v, h7, h8.congr (xK hl h1 h2)⟩
theorem MemOK.more {n:Nat} {ok':Nat -> Prop} (h:MemOK n ok w bs mem) (hlt:∀ b, ok' b -> b < w.heap.size) (hown:∀ (l:Nat) (b:PB) (o:PO) (g:Nat), bs[l]? = some b -> mem[l]? = some o -> o.live = true -> b.blk = some g -> ¬ ok' g):
  MemOK n (fun b=>ok b ∨ ok' b) w bs mem:=by
 refine ⟨h.len, fun b hb=>hb.elim (h.lt b) (hlt b), fun l b rows hb hm=>?_, fun l b es hb hm=>?_, fun l b o g hb hm ho hg=>?_, h.dist'⟩
 ·
  have hr:=h.row l b rows hb hm
  refine ⟨hr.size, hr.nil, hr.pos, fun g hg=>?_⟩
  obtain ⟨cur, hc, h5, h6, h7, h8⟩:=hr.blk g hg
  refine ⟨cur, hc, h5, h6, h7, fun i j r x hr hx=>?_⟩
  obtain ⟨u, h9, h10, h11⟩:=h8 i j r x hr hx
  exact ⟨u, h9, h10, h11.mono (fun b hb=>.inl hb) (fun _ _=>rfl) (Turn.refl _ _)⟩
 ·
  obtain ⟨g, arr, h3, h4, h5, h6⟩:=h.mp l b es hb hm
  refine ⟨g, arr, h3, h4, h5, fun i k x hx=>?_⟩
  obtain ⟨v, h7, h8⟩:=h6 i k x hx
  exact ⟨v, h7, h8.mono (fun b hb=>.inl hb) (fun _ _=>rfl) (Turn.refl _ _)⟩
 ·
  obtain ⟨h1, h2⟩:=h.own' l b o g hb hm ho hg
  exact ⟨h1, fun hk=>hk.elim h2 (hown l b o g hb hm ho hg)⟩
end
theorem Dfs.marks {mk:Bool} {w0 w:World} {tm:Array Value}:∀ {ds:List Deferred} {B:Nat} {l:List Tmp}, Dfs mk w0 w tm ds B l -> ∀ D ∈ marksOf ds, w0.heap.size <= D /\ D < B /\ w.heap[D]? = some (.deferred (some []))
 | [], _, _, _, D, hD=>by cases hD
 | d :: ds, B, l, h, D, hD=>by
  simp only[Dfs] at h
  rcases h with ⟨_, E, rfl, h1, h2, h3, h4⟩ | ⟨t, l', rfl, ⟨f, us, vs, rfl, _⟩, h2⟩
  ·
   simp only[marksOf, List.mem_cons] at hD
   rcases hD with rfl | hD
   ·
    exact ⟨h1, h2, h3⟩
   ·
    have:=h4.marks D hD; exact ⟨this.1, by omega, this.2.2⟩
  ·
   exact h2.marks D hD
theorem Dfs.again {mk:Bool} {w0 w w':World} {tm:Array Value}:∀ {ds:List Deferred} {B B':Nat} {l:List Tmp}, Dfs mk w0 w tm ds B l -> (∀ D ∈ marksOf ds, w'.heap[D]? = some (.deferred (some []))) -> B <= B' -> Dfs true w0 w' tm ds B' l
 | [], _, _, _, h, _, _=>by simpa only [Dfs] using h
 | d :: ds, B, B', l, h, hD, hB=>by
  simp only[Dfs] at h ⊢
  rcases h with ⟨_, E, rfl, h1, h2, h3, h4⟩ | ⟨t, l', rfl, ⟨f, us, vs, rfl, h0⟩, h2⟩
  ·
   exact .inl ⟨trivial, E, rfl, h1, by omega, hD E (by simp [marksOf]), h4.again (fun D h=>hD D (by simp [marksOf, h])) (Nat.le_refl _)⟩
  ·
   exact .inr ⟨t, l', rfl, ⟨f, us, vs, rfl, h0⟩, h2.again (fun D h=>hD D (by simpa [marksOf] using h)) hB⟩
theorem zfh {ok:Nat -> Prop} {w:World} {bs:List PB} {mem:List PO} {n:NS}:∀ {ps:List Tmp} {qs:List AV} {us:List Value} {fr:Nat -> EV} {a:Act}, Slots ok w bs mem n fr a -> FitsL ok w qs us -> (∀ p ∈ ps, p < a.tmps.size) ->
  Slots ok w bs mem n (zed fr ps qs) ⟨(ps.zip us).foldl (fun t (p, v)=>t.setIfInBounds p v) a.tmps, a.defers⟩ /\ ((ps.zip us).foldl (fun t (p, v)=>t.setIfInBounds p v) a.tmps).size = a.tmps.size
 | [], qs, us, fr, a, h, _, _=>by simpa [zed] using h
 | p :: ps, [], us, fr, a, h, hq, _=>by simp only[FitsL] at hq; subst hq; simpa [zed] using h
 | p :: ps, q :: qs, us, fr, a, h, hq, hp=>by
  simp only[FitsL] at hq
  obtain ⟨u, us', rfl, h1, h2⟩:=hq
  simp only[List.zip_cons_cons, List.foldl_cons, zed]
  have h3:=zV6 (dst:=some p) (x:=.pub q) (u:=u) h (by simpa only [FitsE] using h1) (fun d e=>by injection e with e; subst e; exact hp p (by simp))
  have h4:=zfh (ps:=ps) (a:=a.put (some p) u) h3 h2 (fun x hx=>by rw [size_put]; exact hp x (by simp [hx]))
  refine ⟨h4.1, h4.2.trans (size_put ..)⟩
section
variable {P:Program} {G:Glob}
end
end Go.Av
end
