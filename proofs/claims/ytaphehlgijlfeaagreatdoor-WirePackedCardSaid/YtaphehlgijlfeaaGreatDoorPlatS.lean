
import Derived.Test.YtaphehlgijlfeaaGreatDoorPlatR
import Derived.Test.YtaphehlgijlfeaaGreatDoorPlatQ
import Derived.Test.YtaphehlgijlfeaaGreatDoorPlatF
set_option linter.unusedVariables false
set_option linter.unusedSimpArgs false
section
namespace Go.Av
open Go.RowKit
def SCall (P : Program) (G : Glob) (f : FuncId) (args : List AV) (c : Value -> Value) (rows : List (List AV)) : Prop :=
 Enters P f /\ ∀ (ok : Nat -> Prop) (w : World) (vs : List Value), G.holds w -> (∀ b, ok b -> b < w.heap.size) -> FitsL ok w args vs -> Calls P f vs.toArray w fun e w' => ∃ b : PB, e = .returned (c (b.sl rows.length)) /\ Below w.heap.size w w' /\
  PRow (fun _ => False) w' [] [] b (rows.map (·.map .pub)) /\ ∀ g, b.blk = some g -> w.heap.size <= g
def zvD : EV -> EV
 | .pub (.v x) => .pub (.v x)
 | _ => .pub .top
theorem zx4 {ok ok' : Nat -> Prop} {w w' : World} {bs : List PB} {mem : List PO} {e : EV} {u : Value} (h : FitsE ok w bs mem e u) : FitsE ok' w' [] [] (zvD e) u := by
 cases e with
 | pub x =>
  cases x with
  | v y => simp only [zvD, FitsE, Fits] at h ⊢; exact h
  | _ => simp [zvD, FitsE, Fits]
 | _ => simp [zvD, FitsE, Fits]
theorem zxL {b : PB} {n : Nat} : (b.sl n).oneCell' = true := by
 unfold PB.sl; split <;> rfl
def zA9 (P : Program) (fn : Func) (st : ASt) (c : Value -> Value) (rows : List (List AV)) : Prop :=
 st.n.dfs = [] /\ ∃ t k, st.fr t = .psl k rows.length /\ st.mem[k]? = some (.row (rows.map (·.map .pub))) /\ (∀ r ∈ rows, ∀ x ∈ r, ∃ v, x = AV.v v) /\
  ∀ (u : Value), ∃ r, RetE P fn ⟨st.n, fun s => bif Nat.beq s t then .pub (.v u) else zvD (st.fr s), []⟩ r /\ ∀ ok w v, Fits ok w r v -> v = c u
theorem zy2 {ok : Nat -> Prop} {w : World} {bs bs' : List PB} {mem mem' : List PO} {ok' : Nat -> Prop} {b : PB} {rows : List (List AV)} (hfl : ∀ r ∈ rows, ∀ x ∈ r, ∃ v, x = AV.v v) (h : PRow ok w bs mem b (rows.map (·.map .pub))) :
  PRow ok' w bs' mem' b (rows.map (·.map .pub)) := by
 refine ⟨h.size, h.nil, h.pos, fun g hg => ?_⟩
 obtain ⟨cur, h1, h2, h3, h4, h5⟩ := h.blk g hg
 refine ⟨cur, h1, h2, h3, h4, fun i j r x hr hx => ?_⟩
 obtain ⟨u, h6, h7, h8⟩ := h5 i j r x hr hx
 refine ⟨u, h6, h7, ?_⟩
 obtain ⟨q, hq, rfl⟩ := List.mem_map.1 (List.mem_of_getElem? hr)
 obtain ⟨y, hy, rfl⟩ := List.mem_map.1 (List.mem_of_getElem? hx)
 obtain ⟨v, rfl⟩ := hfl q hq y hy
 simp only [FitsE, Fits] at h8 ⊢
 exact h8
theorem zvY {w : World} {ok : Nat -> Prop} {bs : List PB} {mem : List PO} {b : PB} {rows : List (List AV)} (h : PRow (fun _ => False) w [] [] b (rows.map (·.map .pub))) : PRow ok w bs mem b (rows.map (·.map .pub)) := by
 refine ⟨h.size, h.nil, h.pos, fun g hg => ?_⟩
 obtain ⟨cur, h1, h2, h3, h4, h5⟩ := h.blk g hg
 refine ⟨cur, h1, h2, h3, h4, fun i j r x hr hx => ?_⟩
 obtain ⟨u, h6, h7, h8⟩ := h5 i j r x hr hx
 refine ⟨u, h6, h7, ?_⟩
 obtain ⟨q, hq, rfl⟩ := List.mem_map.1 (List.mem_of_getElem? hr)
 obtain ⟨y, hy, rfl⟩ := List.mem_map.1 (List.mem_of_getElem? hx)
 simp only [FitsE] at h8 ⊢
 exact h8.mono (fun _ hb => hb.elim) (fun _ _ => rfl)
section
variable {P : Program} {G : Glob}
theorem zvE {f : FuncId} {fn : Func} {c : Code} {args : List AV} {cx : Value -> Value} {rows : List (List AV)} (hf : P.funcs[f]? = some fn) (hb : fn.body = some c) (hnm : (fn.name == "runtime.NumGoroutine") = false) (hlen' : Nat.ble args.length fn.ntmps = true)
  (h : wL (r := none) P G c ⟨fn.ntmps, zsH args, []⟩ (fun e st => (e = .normal ∨ e = .ret) /\ zA9 P fn st cx rows)) : SCall P G f args cx rows := by
 have hlen : args.length <= fn.ntmps := zLb hlen'
 refine ⟨⟨fn, hf, hnm, by simp [hb]⟩, fun ok w vs hG hok hfit => callsIn_wide.1 (callsIn_of_wp_marks (n := 0) hf hb trivial ?_)⟩
 refine wpIn_mono (h w ok _ w hG hok (zzh hlen hok hfit)) fun e a' w' ⟨st, hs, hq⟩ => ?_
 obtain ⟨h0, h1, h2, ok', bs, h3, h4, h5, h6⟩ := hs
 obtain ⟨he, hdf, t, k, q1, q2, q3, q4⟩ := hq
 have h1 := h1.1
 rw [hdf] at h1
 have hp := h6.1 t
 rw [q1] at hp
 simp only [FitsE] at hp
 obtain ⟨b, hb1, hp⟩ := hp
 have hu := (hp _ q2).2 (by simp)
 have hlv : LeavesInM Fence.wide 0 P fn a'.tmps (fun e w' => ∃ b : PB, e = .returned (cx (b.sl rows.length)) /\ Below w.heap.size w w' /\ PRow (fun _ => False) w' [] [] b (rows.map (·.map .pub)) /\ ∀ g, b.blk = some g -> w.heap.size <= g) a'.defers .returning w' := zc5 h1 fun w2 hw2 => by
  obtain ⟨r, r1, r2⟩ := q4 (b.sl rows.length)
  obtain ⟨u, h7, h8⟩ := zkX (n := w.heap.size) (ok := fun _ => False) (ok' := fun _ => True) (bs := []) (w := w2) (tm := a'.tmps)
   (st := ⟨st.n, fun s => bif Nat.beq s t then .pub (.v (b.sl rows.length)) else zvD (st.fr s), []⟩) ⟨rfl, fun _ hb => hb.elim, by simp, by simp, by simp, by simp⟩ (fun _ _ => trivial) (fun _ _ _ => trivial) (fun s => by
    show FitsE _ w2 [] [] (bif Nat.beq s t then .pub (.v (b.sl rows.length)) else zvD (st.fr s)) _
    cases hst : Nat.beq s t with
    | true =>
     have e := Nat.eq_of_beq_eq_true hst
     subst e
     simp only [cond_true, FitsE, Fits]
     exact ⟨hu, zxL⟩
    | false => exact zx4 (h6.1 s)) r1
  have e := r2 _ _ _ h8
  subst e
  exact ⟨_, h7, b, rfl, h2.trans hw2.below, zy2 q3 ((h5.marked hw2).row k b _ hb1 q2), fun g hg => (h5.own k b _ g hb1 q2 hg).1⟩
 rcases he with rfl | rfl <;> exact hlv
theorem zxM {w' : World} {B : Nat} {b : PB} {rows : List (List AV)} {ok' : Nat -> Prop} (hr : PRow (fun _ => False) w' [] [] b (rows.map (·.map .pub))) (hn : ∀ g, b.blk = some g -> B <= g) (hk : ∀ b, B <= b -> b < w'.heap.size -> ok' b) : Fits ok' w' (.sl rows) (b.sl rows.length) := by
 refine zim (n := B) (ok := fun _ => False) (bs := [b]) (mem := [.row (rows.map (·.map .pub))]) (l := 0) (k := rows.length) ⟨rfl, fun _ h => h.elim, fun l b' rs h1 h2 => ?_, fun l b' es h1 h2 => ?_, fun l b' o g h1 h2 ho h3 => ?_, fun l l' b1 b2 o o' g h1 h2 _ h3 h4 _ _ _ => ?_⟩ (fun _ h => h.elim) hk ?_ (by simp) rfl
 ·
  cases l with
  | zero => simp at h1 h2; subst h1; subst h2; exact zvY hr
  | succ l => simp at h1
 ·
  cases l with
  | zero => simp at h2
  | succ l => simp at h1
 ·
  cases l with
  | zero => simp at h1; subst h1; exact ⟨hn g h3, fun h => h⟩
  | succ l => simp at h1
 ·
  cases l with
  | zero => cases l' with
   | zero => rfl
   | succ l' => simp at h3
  | succ l => simp at h1
 ·
  simp only [FitsE]
  exact ⟨b, by simp, fun rs h => by simp at h; subst h; simp⟩
theorem SCall.a {f : FuncId} {args : List AV} {rows : List (List AV)} (h : SCall P G f args (fun u => u) rows) : ACall P G f args (.sl rows) :=
 ⟨h.1, fun ok w vs hG hok hf => (h.2 ok w vs hG hok hf).mono fun _ _ ⟨b, h1, h2, h3, h4⟩ => ⟨_, h1, h2, zxM h3 h4 fun _ h5 h6 => .inr ⟨h5, h6⟩⟩⟩
theorem SCall.a2 {f : FuncId} {args : List AV} {rows : List (List AV)} {y : Bool} (h : SCall P G f args (fun u => .tuple #[u, .bool y]) rows) : ACall P G f args (.tup [.sl rows, .v (.bool y)]) :=
 ⟨h.1, fun ok w vs hG hok hf => (h.2 ok w vs hG hok hf).mono fun _ _ ⟨b, h1, h2, h3, h4⟩ => ⟨_, h1, h2, by
  simp only [Fits]
  exact ⟨[_, _], rfl, by simp only [FitsL]; exact ⟨_, _, rfl, zxM h3 h4 fun _ h5 h6 => .inr ⟨h5, h6⟩, _, _, rfl, by simp [Fits, Value.oneCell'], rfl⟩⟩⟩⟩
variable {st : ASt} {o : Oper}
theorem zv5 {ok : Nat -> Prop} {w : World} {bs : List PB} {mem : List PO} {fr : Nat -> EV} {a : Act} {args : List Operand} {av : List AV} (hfit : ∀ y ∈ args, FitsE ok w bs mem (evO fr y) (a.eval y)) (ha : args.map (evO fr) = av.map .pub) : FitsL ok w av (args.map a.eval) := by
 induction args generalizing av with
 | nil => cases av with
  | nil => simp [FitsL]
  | cons => simp at ha
 | cons y l ih => cases av with
  | nil => simp at ha
  | cons x xs =>
   simp only [List.map_cons, List.cons.injEq] at ha
   simp only [List.map_cons, FitsL]
   have := hfit y (by simp)
   rw [ha.1] at this
   exact ⟨_, _, rfl, by simpa only [FitsE] using this, ih (fun z hz => hfit z (by simp [hz])) ha.2⟩
theorem zAL {fop : Operand} {args : Array Operand} {tys : Array TypeId} {f : FuncId} {fs cs av : List AV} {rows : List (List AV)} (ho : o.op = .call { callee := .value fop, args := args, argTypes := tys }) (hd : vC o st.n = true) (hf : evO st.fr fop = .pub (.fn f fs cs))
  (ha : args.toList.map (evO st.fr) = av.map .pub) (hc : SCall P G f (fs ++ av ++ cs) (fun u => u) rows) : OpM P G st o ⟨st.n, jr st.fr o.dst (.psl st.mem.length rows.length), st.mem ++ [.row (rows.map (·.map .pub))]⟩ := by
 intro w0 ok0 a w hG hok ⟨h0, h1, h2, ok, bs, h3, h4, h5, h6⟩ K Q hK
 have hfit : ∀ y, FitsE ok w bs st.mem (evO st.fr y) (a.eval y) := fun y => jd fun t _ => h6.1 t
 have hfo := hfit fop
 rw [hf] at hfo
 simp only [FitsE, Fits] at hfo
 obtain ⟨us, vs, e, g2, g3⟩ := hfo
 unfold Oper.wp
 rw [call_exec ho hc.1 e]
 simp only [Oper.upon]
 refine (hc.2 ok w _ (G.stable _ _ hG h2) h5.lt ((g2.append (zv5 (fun y _ => hfit y) ha)).append g3)).mono fun en w' ⟨b, e1, e2, e3, e4⟩ => ?_
 subst e1
 refine hK _ _ (Sit.push h0 h1 h2 h3 h4 h5 h6 e2 (zvY e3) e4 ?_ (qM hd))
 simp only [FitsE]
 exact ⟨b, by simp [h5.len], fun rs hr => by simp at hr; subst hr; simp⟩
theorem zv2 {r : Option Nat} {ops : Array Oper} {l : List Oper} {Q : Exit -> ASt -> Prop} {fop : Operand} {args : Array Operand} {tys : Array TypeId} {f : FuncId} {fs cs av : List AV} {rows : List (List AV)} {y : Bool} (hg : zad o = true) (hd : vC o st.n = true) (ho : o.op = .call { callee := .value fop, args := args, argTypes := tys }) (hf : evO st.fr fop = .pub (.fn f fs cs))
  (ha : args.toList.map (evO st.fr) = av.map .pub) (hc : SCall P G f (fs ++ av ++ cs) (fun u => .tuple #[u, .bool y]) rows)
  (h : ∀ u : Value, yH (r := r) P G ops l ⟨⟨st.n.n, st.n.dfs, (.psl st.mem.length rows.length, u) :: st.n.gh, st.n.mks, st.n.hold⟩, jr st.fr o.dst (.pub (.tup [.v u, .v (.bool y)])), st.mem ++ [.row (rows.map (·.map .pub))]⟩ Q) : yH (r := r) P G ops (o :: l) st Q := by
 intro w0 ok0 a w hG hok ⟨h0, h1, h2, ok, bs, h3, h4, h5, h6⟩
 refine wpListIn_plain (zcU hg) fun K hK => zar (zcO hg) ?_
 have hfit : ∀ y, FitsE ok w bs st.mem (evO st.fr y) (a.eval y) := fun y => jd fun t _ => h6.1 t
 have hfo := hfit fop
 rw [hf] at hfo
 simp only [FitsE, Fits] at hfo
 obtain ⟨us, vs, e, g2, g3⟩ := hfo
 unfold Oper.wp
 rw [call_exec ho hc.1 e]
 simp only [Oper.upon]
 refine (hc.2 ok w _ (G.stable _ _ hG h2) h5.lt ((g2.append (zv5 (fun y _ => hfit y) ha)).append g3)).mono fun en w' ⟨b, e1, e2, e3, e4⟩ => ?_
 subst e1
 have hdk := qM hd
 have hps : FitsE ok w' (bs ++ [b]) (st.mem ++ [.row (rows.map (·.map .pub))]) (.psl st.mem.length rows.length) (b.sl rows.length) := by
  simp only [FitsE]
  exact ⟨b, by simp [h5.len], fun rs hr => by simp at hr; subst hr; simp⟩
 have htp : FitsE ok w' (bs ++ [b]) (st.mem ++ [.row (rows.map (·.map .pub))]) (.pub (.tup [.v (b.sl rows.length), .v (.bool y)])) (.tuple #[b.sl rows.length, .bool y]) := by
  simp only [FitsE, Fits]
  exact ⟨[_, _], rfl, by simp only [FitsL, Fits]; exact ⟨_, _, rfl, ⟨rfl, zxL⟩, _, _, rfl, ⟨rfl, rfl⟩, rfl⟩⟩
 have hm : ∀ (e : EV) (u : Value), FitsE ok w bs st.mem e u -> FitsE ok w' (bs ++ [b]) (st.mem ++ [.row (rows.map (·.map .pub))]) e u := fun _ _ h => h.mono (fun _ hb => hb) (fun b hb => e2.block b (h5.lt b hb)) (Turn.push h5.len b _)
 have hs := wX (dst := o.dst) (h6.map hm) htp (fun d e => by rw [h0]; exact (hdk d e).1)
 refine hK _ _ (h (b.sl rows.length) w0 ok0 _ w' hG hok ⟨(size_put ..).trans h0, h1.put (.of_below e2) hdk, yf h2 h2.size e2, ok, bs ++ [b], h3, h4, h5.push e2 h2.size (zvY e3) e4, hs.1, fun p hp => ?_⟩)
 rcases List.mem_cons.1 hp with rfl | hp
 ·
  exact hps
 ·
  exact hs.2 p hp
theorem zxc {n : NS} {fr : Nat -> EV} {mem : List PO} {e : EV} {u : Value} (d : Tmp) (h : fr d = .pub (.v u)) (hg : (e, u) ∈ n.gh) : Weak ⟨n, fr, mem⟩ ⟨n, jr fr (some d) e, mem⟩ := by
 intro w0 ok0 a w ⟨h0, h1, h2, ok, bs, h3, h4, h5, h6⟩
 refine ⟨h0, h1, h2, ok, bs, h3, h4, h5, fun t => ?_, h6.2⟩
 simp only [zcQ]
 by_cases htd : t = d
 ·
  subst htd
  have := h6.1 t
  simp only [h, FitsE, Fits] at this
  simp only [if_true]
  have h7 := h6.2 _ hg
  simp only at h7
  rw [this.1]; exact h7
 ·
  simp only [htd, if_false]; exact h6.1 t
theorem zA0 {fn : Func} {t t2 : Tmp} {k n : Nat} {y : Bool} {rows : List (List AV)} {M : List (List EV)} (hr : fn.results.toList = [.tmp t, .tmp t2]) (hd : st.n.dfs = []) (ht : st.fr t = .psl k n) (hm : st.mem[k]? = some (.row M)) (hM : M = rows.map (·.map .pub)) (hn : n = rows.length)
  (hb : st.fr t2 = .pub (.v (.bool y))) (hne : Nat.beq t2 t = false) (hfl : ∀ r ∈ rows, ∀ x ∈ r, ∃ v, x = AV.v v) : zA9 P fn st (fun u => .tuple #[u, .bool y]) rows := by
 refine ⟨hd, t, k, by rw [ht, hn], by rw [hm, hM], hfl, fun u => ⟨.tup [.v u, .v (.bool y)], ?_, fun ok w v h => ?_⟩⟩
 ·
  unfold RetE
  simp only [hd, hr]
  refine ⟨_, rfl, _, _, rfl, ?_, _, _, rfl, ?_, rfl⟩
  ·
   show zcn [] (bif Nat.beq t t then _ else _) _
   rw [Nat.beq_refl]; exact AVle.refl _
  ·
   show zcn [] (bif Nat.beq t2 t then _ else zvD (st.fr t2)) _
   rw [hne, hb]; exact AVle.refl _
 ·
  simp only [Fits, FitsL] at h
  obtain ⟨l, rfl, a, _, rfl, ⟨rfl, _⟩, b, _, rfl, ⟨rfl, _⟩, rfl⟩ := h
  rfl
theorem zyy {fn : Func} {t : Tmp} {k n : Nat} {rows : List (List AV)} {M : List (List EV)} (hr : fn.results.toList = [.tmp t]) (hd : st.n.dfs = []) (ht : st.fr t = .psl k n) (hm : st.mem[k]? = some (.row M)) (hM : M = rows.map (·.map .pub)) (hn : n = rows.length)
  (hfl : ∀ r ∈ rows, ∀ x ∈ r, ∃ v, x = AV.v v) : zA9 P fn st (fun u => u) rows := by
 refine ⟨hd, t, k, by rw [ht, hn], by rw [hm, hM], hfl, fun u => ⟨.v u, ?_, fun ok w v h => ?_⟩⟩
 ·
  unfold RetE
  simp only [hd, hr]
  show zcn [] (bif Nat.beq t t then _ else _) _
  rw [Nat.beq_refl]; exact AVle.refl _
 ·
  simp only [Fits] at h; exact h.1
theorem zvh {l : List (List UInt8)} : ∀ r ∈ l.map (fun s => [eS s]), ∀ x ∈ r, ∃ v, x = AV.v v := fun r hr x hx => by
 obtain ⟨s, _, rfl⟩ := List.mem_map.1 hr
 simp only [List.mem_singleton] at hx; subst hx; exact ⟨_, rfl⟩
def GU (G : Glob) (D : List (Value × List (List AV))) : Glob := ⟨fun w => G.holds w /\ ∀ p ∈ D, ∃ ok : Nat -> Prop, (∀ b, ok b -> b < w.heap.size) /\ Fits ok w (.sl p.2) p.1, fun w w' h hb => ⟨G.stable w w' h.1 hb, fun p hp => by
 obtain ⟨ok, h1, h2⟩ := h.2 p hp
 exact ⟨ok, fun b h => Nat.lt_of_lt_of_le (h1 b h) hb.size, h2.mono (fun _ h => h) (fun b h => hb.block b (h1 b h))⟩⟩⟩
theorem zys {D : List (Value × List (List AV))} {fop : Operand} {args : Array Operand} {tys : Array TypeId} {f : FuncId} {fs cs av : List AV} {r : Value} (ho : o.op = .call { callee := .value fop, args := args, argTypes := tys }) (hd : vC o st.n = true) (hf : evO st.fr fop = .pub (.fn f fs cs))
  (ha : args.toList.map (evO st.fr) = av.map .pub) (hD : ∀ p ∈ D, ∃ k, (EV.psl k p.2.length, p.1) ∈ st.n.gh /\ st.mem[k]? = some (.row (p.2.map (·.map .pub)))) (hc : ACall P (GU G D) f (fs ++ av ++ cs) (.v r)) :
  OpM P G st o ⟨st.n, jr st.fr o.dst (.pub (.v r)), st.mem⟩ := by
 intro w0 ok0 a w hG hok hs K Q hK
 have hs' := hs
 obtain ⟨h0, h1, h2, ok, bs, h3, h4, h5, h6⟩ := hs
 have hfit : ∀ y, FitsE ok w bs st.mem (evO st.fr y) (a.eval y) := fun y => jd fun t _ => h6.1 t
 have hfo := hfit fop
 rw [hf] at hfo
 simp only [FitsE, Fits] at hfo
 obtain ⟨us, vs, e, g2, g3⟩ := hfo
 unfold Oper.wp
 rw [call_exec ho hc.1 e]
 simp only [Oper.upon]
 have hgu : (GU G D).holds w := ⟨G.stable _ _ hG h2, fun p hp => by
  obtain ⟨k, hk1, hk2⟩ := hD p hp
  exact ⟨fun b => b < w.heap.size, fun _ h => h, zim h5 (fun b h => h5.lt b h) (fun b _ h => h) (h6.2 _ hk1) hk2 rfl⟩⟩
 refine (hc.2 ok w _ hgu h5.lt ((g2.append (zv5 (fun y _ => hfit y) ha)).append g3)).mono fun en w' ⟨u, e1, e2, e3⟩ => ?_
 subst e1
 refine hK _ _ (Sit.put h0 h1 h2 h3 h4 h5 h6 e2 ?_ (qM hd))
 simp only [FitsE, Fits] at e3 ⊢
 exact e3
theorem zvF {D : List (Value × List (List AV))} {f : FuncId} {a b : Value} {ra rb : List (List AV)} {r : Value} (ha : (a, ra) ∈ D) (hb : (b, rb) ∈ D) (h : ACall P (GU G D) f [.sl ra, .sl rb] (.v r)) : ACall P (GU G D) f [.v a, .v b] (.v r) := by
 refine ⟨h.1, fun ok w vs hG hok hf => ?_⟩
 obtain ⟨ok1, l1, f1⟩ := hG.2 _ ha
 obtain ⟨ok2, l2, f2⟩ := hG.2 _ hb
 simp only [FitsL, Fits] at hf
 obtain ⟨u, us, rfl, ⟨rfl, _⟩, v, vs', rfl, ⟨rfl, _⟩, rfl⟩ := hf
 refine (h.2 (fun b => b < w.heap.size) w [u, v] hG (fun _ h => h) ?_).mono fun en w' ⟨z, e1, e2, e3⟩ => ⟨z, e1, e2, ?_⟩
 ·
  simp only [FitsL]
  exact ⟨_, _, rfl, f1.mono (fun b h => l1 b h) (fun _ _ => rfl), _, _, rfl, f2.mono (fun b h => l2 b h) (fun _ _ => rfl), rfl⟩
 ·
  simp only [Fits] at e3 ⊢; exact e3
end
end Go.Av
end
