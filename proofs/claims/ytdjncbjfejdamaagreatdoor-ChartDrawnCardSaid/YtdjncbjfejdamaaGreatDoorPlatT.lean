import Derived.Test.YtdjncbjfejdamaaGreatDoorPlatJ
import Derived.Test.YtdjncbjfejdamaaGreatDoorPlatQ
import Derived.Test.YtdjncbjfejdamaaGreatDoorPlatH
set_option linter.unusedVariables false
set_option linter.unusedSimpArgs false
section
namespace Go.Av
open Go.RowKit
structure Sx (P:Program) (G:Glob) where
 l:Nat
 qs:List (List AV)
 B:Nat
 V:Nat -> Prop
 On:World -> Prop
 Off:World -> Prop
 okS:Nat -> Prop
 glob:∀ W, On W -> G.holds W
 globF:∀ W, Off W -> G.holds W
 onAb:∀ W W', On W -> Below B W W' -> On W'
 offAb:∀ W W', Off W -> Below W.heap.size W W' -> Off W'
 onB:∀ W, On W -> B <= W.heap.size
 up:∀ x, B <= x -> okS x
 round:∀ (k:Nat) (W:World) (ok:Nat -> Prop) (us:List Value) (q:List AV), qs[k]? = some q -> V k -> On W -> (∀ x, ok x -> x < W.heap.size /\ okS x) -> FitsL ok W q us ->
  ∃ fn tmps assign body, (Instr.yield l us.toArray).run P W = .ok (.round l fn tmps assign body) W /\
   RoundIn (FW none) 0 P l fn tmps assign body W (fun e W'=>(e = .returned (.bool true) /\ V (k + 1) /\ Below W.heap.size W W') ∨ (e = .returned (.bool false) /\ Off W'))
section
variable {P:Program} {G:Glob}
end
end Go.Av
end
section
namespace Go.Av
open Go.RowKit
section
variable {P:Program} {G:Glob}
end
section
variable {F:Fence} {n:Nat} {P:Program} {md:Region.Mode} {ops:Array Oper}
theorem zyB {N:Nat} {Q:Exit -> Act -> World -> Prop} {o:Oper} {a:Act} {w:World} {K K':Act -> World -> Prop} (h:∀ a w, K a w -> K' a w) (hh:o.wpIn F n P a w K Q):o.wpIn F n P a w K' (zwA F n P ops N Q):=by
 unfold Oper.wpIn at *
 refine ⟨hh.1, ?_⟩
 have hh:=hh.2
 generalize (o.semAt F.round a.eval).run P w = r at *
 cases r with
 | ok x w'=>
  cases x <;> simp only[Oper.uponIn] at hh ⊢ <;>
   first
    | exact h _ _ hh
    | exact ⟨hh.1, CallsIn.mono hh.2 (fun e w'' he=>by cases e <;> first | exact h _ _ he | exact he)⟩
    | exact ⟨hh.1, RowsIn.mono hh.2 (fun _ _ he=>h _ _ he)⟩
    | exact ⟨hh.1, RoundIn.mono hh.2 (fun e w'' he=>by cases e <;> first | exact h _ _ he | exact he)⟩
    | exact hh
 | halt x w'=>cases x <;> simp only[Oper.uponIn] at hh ⊢ <;> exact hh
end
structure RS (ok:Nat -> Prop) (n:Nat) (fr:Nat -> EV) (a:Act) (w:World):Prop where
 size:a.tmps.size = n
 dfs:a.defers = []
 lt:∀ b, ok b -> b < w.heap.size
 fits:∀ t, FitsE ok w [] [] (fr t) (a.tmps.getD t undef)
theorem RS.mok {ok:Nat -> Prop} {n:Nat} {fr:Nat -> EV} {a:Act} {w:World} (h:RS ok n fr a w):MemOK w.heap.size ok w [] []:=⟨rfl, h.lt, by simp, by simp, by simp, by simp⟩
theorem Dfs.none {w0 w:World} {tm:Array Value} {ds:List Deferred} {B:Nat} (h:Dfs false w0 w tm ds B []):ds = []:=by
 cases ds with
 | nil=>rfl
 | cons d ds=>
  simp only[Dfs] at h
  rcases h with ⟨h, _⟩ | ⟨t, l', e, _⟩
  ·
   cases h
  ·
   cases e
theorem Sit.rs {w0:World} {ok0:Nat -> Prop} {n:Nat} {st:ASt} {a:Act} {w:World} (h:Sit w0 ok0 st a w) (hn:st.n = NS.of n) (hm:st.mem = []):
  ∃ ok, (∀ b, ok0 b -> ok b) /\ (∀ b, ok b -> ok0 b ∨ w0.heap.size <= b) /\ RS ok n st.fr a w:=by
 obtain ⟨s0, s1, s2, ok, bs, s3, s4, s5, s6⟩:=h
 rw [hn] at s0 s1
 rw [hm] at s5 s6
 have hbs:bs = []:=List.eq_nil_of_length_eq_zero s5.len
 subst hbs
 exact ⟨ok, s3, s4, s0, s1.1.none, s5.lt, s6.1⟩
theorem RS.put {ok ok':Nat -> Prop} {n:Nat} {fr:Nat -> EV} {a:Act} {w w':World} {x:EV} {u:Value} {dst:Option Tmp} (h:RS ok n fr a w) (hb:Below w.heap.size w w') (hk:∀ b, ok b -> ok' b) (hlt:∀ b, ok' b -> b < w'.heap.size)
  (hx:FitsE ok' w' [] [] x u) (hd:∀ d, dst = some d -> d < n):RS ok' n (jr fr dst x) (a.put dst u) w':=by
 refine ⟨(size_put ..).trans h.size, (defers_put ..).trans h.dfs, hlt, ?_⟩
 exact (wX (n:=NS.of n) ⟨fun t=>(h.fits t).mono hk (fun b hb'=>hb.block b (h.lt b hb')) (Turn.refl _ _), fun p hp=>by cases hp⟩ hx (fun d e=>by rw [h.size]; exact hd d e)).1
section
variable {P:Program} {G:Glob} (C:Sx P G) (n:Nat) (R:(Nat -> Prop) -> World -> Prop)
structure RGood:Prop where
 on:∀ ok w, R ok w -> C.On w
 okS:∀ ok w, R ok w -> ∀ x, ok x -> C.okS x
 grow:∀ ok ok' w w', R ok w -> Below w.heap.size w w' -> (∀ x, ok' x -> ok x ∨ w.heap.size <= x) -> R ok' w'
def StR (ph:Ph) (fr:Nat -> EV) (a:Act) (w:World):Prop:=match ph with
 | .on k=>C.V k /\ ∃ ok, R ok w /\ RS ok n fr a w
 | .off _=>∃ ok, C.Off w /\ RS ok n fr a w
end
def zA2 (fr:Nat -> EV):Nat -> List EV -> Prop
 | _, []=>True
 | k, x :: xs=>(x = .pub .top ∨ x = fr k) /\ zA2 fr (k + 1) xs
theorem zzv {fr:Nat -> EV}:∀ {l:List EV} {k i:Nat} {x:EV}, zA2 fr k l -> l[i]? = some x -> x = .pub .top ∨ x = fr (k + i)
 | [], _, _, _, _, h=>by simp at h
 | y :: l, k, 0, x, h, hx=>by simp at hx; subst hx; exact h.1
 | y :: l, k, i + 1, x, h, hx=>by
  have:=zzv (l:=l) (k:=k + 1) (i:=i) h.2 (by simpa using hx)
  rwa [show k + (i + 1) = k + 1 + i from by omega]
theorem RS.frE {ok:Nat -> Prop} {n:Nat} {fr:Nat -> EV} {a:Act} {w:World} {l:List EV} (h:RS ok n fr a w) (hl:zA2 fr 0 l):RS ok n (frE l) a w:=by
 refine ⟨h.size, h.dfs, h.lt, fun t=>?_⟩
 unfold Go.Av.frE
 cases ht:l[t]? with
 | none=>simp [FitsE, Fits]
 | some x=>
  rcases zzv hl ht with rfl | rfl
  ·
   simp [FitsE, Fits]
  ·
   simpa using h.fits t
section
variable {P:Program} {G:Glob} {C:Sx P G} {n:Nat} {R:(Nat -> Prop) -> World -> Prop} {ph:Ph} {fr:Nat -> EV} {Q:Exit -> Ph -> (Nat -> EV) -> Prop} {ops:Array Oper} {l:List Oper} {o:Oper}
theorem StR.rs {a:Act} {w:World} (h:StR C n R ph fr a w):∃ ok, RS ok n fr a w:=by
 cases ph with
 | on k=>obtain ⟨_, ok, _, h⟩:=h; exact ⟨ok, h⟩
 | off k=>obtain ⟨ok, _, h⟩:=h; exact ⟨ok, h⟩
theorem StR.g (hR:RGood C R) {a:Act} {w:World} (h:StR C n R ph fr a w):G.holds w:=by
 cases ph with
 | on k=>obtain ⟨_, ok, h, _⟩:=h; exact C.glob _ (hR.on _ _ h)
 | off k=>obtain ⟨ok, h, _⟩:=h; exact C.globF _ h
theorem StR.frE {a:Act} {w:World} {l:List EV} (h:StR C n R ph fr a w) (hl:zA2 fr 0 l):StR C n R ph (frE l) a w:=by
 cases ph with
 | on k=>obtain ⟨hv, ok, h1, h2⟩:=h; exact ⟨hv, ok, h1, h2.frE hl⟩
 | off k=>obtain ⟨ok, h1, h2⟩:=h; exact ⟨ok, h1, h2.frE hl⟩
theorem StR.step (hR:RGood C R) {a a':Act} {w w':World} {fr':Nat -> EV} (h:StR C n R ph fr a w) (hn:∀ ok, RS ok n fr a w -> ∃ ok', (∀ b, ok' b -> ok b ∨ w.heap.size <= b) /\ RS ok' n fr' a' w') (hb:Below w.heap.size w w'):StR C n R ph fr' a' w':=by
 cases ph with
 | on k=>
  obtain ⟨hv, ok, h1, h2⟩:=h
  obtain ⟨ok', h3, h4⟩:=hn ok h2
  exact ⟨hv, ok', hR.grow _ _ _ _ h1 hb h3, h4⟩
 | off k=>
  obtain ⟨ok, h1, h2⟩:=h
  obtain ⟨ok', h3, h4⟩:=hn ok h2
  exact ⟨ok', C.offAb _ _ h1 hb, h4⟩
end
end Go.Av
end
