
import Derived.Test.YtaphehlgijlfeaaGreatDoorPlatD
import Derived.RangeFuncIn
set_option linter.unusedVariables false
set_option linter.unusedSimpArgs false
section
namespace Go.Av
open Go.RowKit
inductive Ph where
 | on (k : Nat)
 | off (k : Nat)
structure Cx (P : Program) (G : Glob) where
 l : Nat
 qs : List (List AV)
 J : Ph -> (Nat -> Prop) -> World -> Prop
 okS : Nat -> Prop
 lt : ∀ p M W, J p M W -> ∀ x, M x -> x < W.heap.size
 up : ∀ p M W x, J p M W -> W.heap.size <= x -> okS x
 abides : ∀ p M W W', J p M W -> Below W.heap.size W W' -> J p M W'
 round : ∀ (k : Nat) (M : Nat -> Prop) (W : World) (ok : Nat -> Prop) (us : List Value) (q : List AV) (gh : List (AV × Value)), qs[k]? = some q -> J (.on k) M W -> G.holds W ->
  (∀ x, ok x -> x < W.heap.size /\ ¬ M x /\ okS x) -> FitsL ok W q us -> (∀ p ∈ gh, Fits ok W p.1 p.2) ->
  ∃ fn tmps assign body, (Instr.yield l us.toArray).run P W = .ok (.round l fn tmps assign body) W /\
   RoundIn (FW none) 0 P l fn tmps assign body W (fun e W' => ∃ (b : Bool) (M' ok' : Nat -> Prop), e = .returned (.bool b) /\ J (if b then .on (k + 1) else .off k) M' W' /\ G.holds W' /\
    (∀ x, ok' x -> x < W'.heap.size /\ ¬ M' x /\ okS x) /\ ∀ p ∈ gh, Fits ok' W' p.1 p.2)
section
variable {P : Program} {G : Glob} (C : Cx P G)
def Cx.At (ph : Ph) (w0 : World) (ok0 : Nat -> Prop) : Prop := ∃ M, C.J ph M w0 /\ G.holds w0 /\ ∀ x, ok0 x -> x < w0.heap.size /\ ¬ M x /\ C.okS x
def Cx.lift (Q : Exit -> Ph -> ASt -> Prop) : Exit -> Act -> World -> Prop := fun e a w => ∃ ph w0 ok0 st, C.At ph w0 ok0 /\ Sit w0 ok0 st a w /\ Q e ph st
end
section
variable {P : Program} {G : Glob} {C : Cx P G} {ph : Ph} {st st' : ASt} {Q : Exit -> Ph -> ASt -> Prop} {ops : Array Oper} {l : List Oper} {o : Oper}
theorem Cx.At.ok {w0 : World} {ok0 : Nat -> Prop} (h : C.At ph w0 ok0) : ∀ b, ok0 b -> b < w0.heap.size := fun b hb => by
 obtain ⟨M, _, _, h3⟩ := h; exact (h3 b hb).1
theorem Cx.At.g {w0 : World} {ok0 : Nat -> Prop} (h : C.At ph w0 ok0) : G.holds w0 := by obtain ⟨M, _, h2, _⟩ := h; exact h2
end
end Go.Av
end
section
namespace Go.Av
open Go.RowKit
@[reducible] def NS.round (n : Nat) (gh : List (EV × Value)) (hold : List (Nat × Obj)) : NS := ⟨n, [], gh, false, hold⟩
@[reducible] def NS.marked (n : NS) : NS := ⟨n.n, n.dfs, n.gh, true, n.hold⟩
section
variable {ok : Nat -> Prop} {w : World} {bs : List PB} {mem : List PO}
theorem xK {l : Nat} {o o' : Obj} (h : w.heap[l]? = some o) (h1 : still o = true) (h2 : still o' = true) (a : Addr) : (w.putObj l o').cell? a = w.cell? a := by
 unfold World.cell?
 by_cases e : a.block = l
 ·
  subst e
  have hlt := (Array.getElem?_eq_some_iff.1 h).1
  have : (w.putObj a.block o').heap[a.block]? = some o' := by simp [World.putObj, hlt]
  rw [this, h]
  cases o <;> simp [still] at h1 <;> cases o' <;> simp [still] at h2 <;> rfl
 ·
  have : (w.putObj l o').heap[a.block]? = w.heap[a.block]? := by simp [World.putObj, Array.getElem?_setIfInBounds_ne (Ne.symm e)]
  rw [this]
theorem zvn {l k : Nat} {o' : Obj} (h : k ≠ l) : (w.putObj l o').heap[k]? = w.heap[k]? := by simp [World.putObj, Array.getElem?_setIfInBounds_ne (Ne.symm h)]
theorem zbs {l : Nat} {o o' : Obj} (h : w.heap[l]? = some o) : (w.putObj l o').heap[l]? = some o' := by
 have hlt := (Array.getElem?_eq_some_iff.1 h).1
 simp [World.putObj, hlt]
theorem size_put' {l : Nat} {o' : Obj} : (w.putObj l o').heap.size = w.heap.size := by simp [World.putObj]
theorem MemOK.put {n l : Nat} {o o' : Obj} (h : MemOK n ok w bs mem) (hl : w.heap[l]? = some o) (h1 : still o = true) (h2 : still o' = true) : MemOK n ok (w.putObj l o') bs mem := by
 refine ⟨h.len, fun b hb => by rw [size_put']; exact h.lt b hb, fun l' b rows hb hm => ?_, fun l' b es hb hm => ?_, h.own', h.dist'⟩
 ·
  have hr := h.row l' b rows hb hm
  refine ⟨hr.size, hr.nil, hr.pos, fun g hg => ?_⟩
  obtain ⟨cur, hc, h5, h6, h7, h8⟩ := hr.blk g hg
  have hne : g ≠ l := fun e => by subst e; rw [hl] at hc; injection hc with hc; subst hc; cases h1
  refine ⟨cur, by rw [zvn hne]; exact hc, h5, h6, h7, fun i j r x hr hx => ?_⟩
  obtain ⟨u, h9, h10, h11⟩ := h8 i j r x hr hx
  exact ⟨u, h9, h10, h11.congr (xK hl h1 h2)⟩
 ·
  obtain ⟨g, arr, h3, h4, h5, h6⟩ := h.mp l' b es hb hm
  have hne : g ≠ l := fun e => by subst e; rw [hl] at h4; injection h4 with h4; subst h4; cases h1
  refine ⟨g, arr, h3, by rw [zvn hne]; exact h4, h5, fun i k x hx => ?_⟩
  obtain ⟨v, h7, h8⟩ := h6 i k x hx
  exact ⟨v, h7, h8.congr (xK hl h1 h2)⟩
theorem MemOK.more {n : Nat} {ok' : Nat -> Prop} (h : MemOK n ok w bs mem) (hlt : ∀ b, ok' b -> b < w.heap.size) (hown : ∀ (l : Nat) (b : PB) (o : PO) (g : Nat), bs[l]? = some b -> mem[l]? = some o -> o.live = true -> b.blk = some g -> ¬ ok' g) :
  MemOK n (fun b => ok b ∨ ok' b) w bs mem := by
 refine ⟨h.len, fun b hb => hb.elim (h.lt b) (hlt b), fun l b rows hb hm => ?_, fun l b es hb hm => ?_, fun l b o g hb hm ho hg => ?_, h.dist'⟩
 ·
  have hr := h.row l b rows hb hm
  refine ⟨hr.size, hr.nil, hr.pos, fun g hg => ?_⟩
  obtain ⟨cur, hc, h5, h6, h7, h8⟩ := hr.blk g hg
  refine ⟨cur, hc, h5, h6, h7, fun i j r x hr hx => ?_⟩
  obtain ⟨u, h9, h10, h11⟩ := h8 i j r x hr hx
  exact ⟨u, h9, h10, h11.mono (fun b hb => .inl hb) (fun _ _ => rfl) (Turn.refl _ _)⟩
 ·
  obtain ⟨g, arr, h3, h4, h5, h6⟩ := h.mp l b es hb hm
  refine ⟨g, arr, h3, h4, h5, fun i k x hx => ?_⟩
  obtain ⟨v, h7, h8⟩ := h6 i k x hx
  exact ⟨v, h7, h8.mono (fun b hb => .inl hb) (fun _ _ => rfl) (Turn.refl _ _)⟩
 ·
  obtain ⟨h1, h2⟩ := h.own' l b o g hb hm ho hg
  exact ⟨h1, fun hk => hk.elim h2 (hown l b o g hb hm ho hg)⟩
end
theorem Dfs.marks {mk : Bool} {w0 w : World} {tm : Array Value} : ∀ {ds : List Deferred} {B : Nat} {l : List Tmp}, Dfs mk w0 w tm ds B l -> ∀ D ∈ marksOf ds, w0.heap.size <= D /\ D < B /\ w.heap[D]? = some (.deferred (some []))
 | [], _, _, _, D, hD => by cases hD
 | d :: ds, B, l, h, D, hD => by
  simp only [Dfs] at h
  rcases h with ⟨_, E, rfl, h1, h2, h3, h4⟩ | ⟨t, l', rfl, ⟨f, us, vs, rfl, _⟩, h2⟩
  ·
   simp only [marksOf, List.mem_cons] at hD
   rcases hD with rfl | hD
   ·
    exact ⟨h1, h2, h3⟩
   ·
    have := h4.marks D hD; exact ⟨this.1, by omega, this.2.2⟩
  ·
   exact h2.marks D hD
theorem Dfs.again {mk : Bool} {w0 w w' : World} {tm : Array Value} : ∀ {ds : List Deferred} {B B' : Nat} {l : List Tmp}, Dfs mk w0 w tm ds B l -> (∀ D ∈ marksOf ds, w'.heap[D]? = some (.deferred (some []))) -> B <= B' -> Dfs true w0 w' tm ds B' l
 | [], _, _, _, h, _, _ => by simpa only [Dfs] using h
 | d :: ds, B, B', l, h, hD, hB => by
  simp only [Dfs] at h ⊢
  rcases h with ⟨_, E, rfl, h1, h2, h3, h4⟩ | ⟨t, l', rfl, ⟨f, us, vs, rfl, h0⟩, h2⟩
  ·
   exact .inl ⟨trivial, E, rfl, h1, by omega, hD E (by simp [marksOf]), h4.again (fun D h => hD D (by simp [marksOf, h])) (Nat.le_refl _)⟩
  ·
   exact .inr ⟨t, l', rfl, ⟨f, us, vs, rfl, h0⟩, h2.again (fun D h => hD D (by simpa [marksOf] using h)) hB⟩
section
variable {P : Program} {G : Glob}
end
end Go.Av
end
