import Derived.Test.YtdjncbjfejdamaaGreatDoorPlatE
import Derived.Recover
import Derived.Laws.BytesArg
import GoSem.Core.Utf8
set_option linter.unusedVariables false
set_option linter.unusedSimpArgs false
section
namespace Go.Av
open Go.RowKit
inductive Out where
 | ret (r:AV)
 | pan (v:AV)
@[reducible] def pnc (u:Value):List PanicEntry:=[{ v:=u, recovered:=false }]
def XCall (P:Program) (G:Glob) (f:FuncId) (args:List AV) (o:Out):Prop:=
 Enters P f /\ ∀ (ok:Nat -> Prop) (w:World) (vs:List Value), G.holds w -> (∀ b, ok b -> b < w.heap.size) -> FitsL ok w args vs ->
  Calls P f vs.toArray w (fun e w'=>Below w.heap.size w w' /\ ∃ u, match o with
   | .ret r=>e = .returned u /\ Fits (okN ok w w') w' r u
   | .pan v=>e = .panicked (pnc u) /\ Fits (okN ok w w') w' v u)
theorem ACall.x {P:Program} {G:Glob} {f:FuncId} {args:List AV} {r:AV} (h:ACall P G f args r):XCall P G f args (.ret r):=
 ⟨h.1, fun ok w vs hG hok hf=>(h.2 ok w vs hG hok hf).mono fun _ _ ⟨u, e, hb, hu⟩=>⟨hb, u, e, hu⟩⟩
theorem XCall.a {P:Program} {G:Glob} {f:FuncId} {args:List AV} {r:AV} (h:XCall P G f args (.ret r)):ACall P G f args r:=
 ⟨h.1, fun ok w vs hG hok hf=>(h.2 ok w vs hG hok hf).mono fun _ _ ⟨hb, u, e, hu⟩=>⟨u, e, hb, hu⟩⟩
section
variable {r:Option Nat} {P:Program} {G:Glob} {st:ASt} {ops:Array Oper} {l:List Oper} {Q:Exit -> ASt -> Prop} {o:Oper}
@[reducible] def NS.pan (n:NS) (v:AV) (u:Value):NS:=⟨n.n, n.dfs, (.pub v, u) :: n.gh, n.mks, n.hold⟩
theorem Sit.pan {w0:World} {ok0:Nat -> Prop} {a:Act} {w w':World} {v:AV} {u:Value} {ok:Nat -> Prop} {bs:List PB} {n:NS} {fr:Nat -> EV} {mem:List PO}
  (h0:a.tmps.size = n.n) (h1:Nod w0 w a n) (h2:Below w0.heap.size w0 w) (h3:∀ b, ok0 b -> ok b) (h4:∀ b, ok b -> ok0 b ∨ w0.heap.size <= b) (h5:MemOK w0.heap.size ok w bs mem) (h6:Slots ok w bs mem n fr a)
  (hw:Below w.heap.size w w') (hv:Fits (okN ok w w') w' v u):Sit w0 ok0 ⟨n.pan v u, fr, mem⟩ a w':=by
 have hm:=h6.map (fun (e:EV) (u:Value) h=>FitsE.grow (x:=e) (u:=u) h h5.lt hw)
 refine ⟨h0, h1.keep (.of_below hw), yf h2 h2.size hw, okN ok w w', bs, fun b hb=>.inl (h3 b hb), fun b hb=>?_, h5.grow hw, hm.1, fun p hp=>?_⟩
 ·
  rcases hb with hb | hb
  ·
   exact h4 b hb
  ·
   exact .inr (Nat.le_trans h2.size hb.1)
 ·
  rcases List.mem_cons.1 hp with rfl | hp
  ·
   simpa only [FitsE] using hv
  ·
   exact hm.2 p hp
theorem zjz {fr:Nat -> EV} {mem:List PO} {f:FuncId} {first caps:Array Operand} (ho:o.op = .makeFunc (.func f) first caps):OpY P G fr mem o (.fnm f (first.toList.map (evO fr)) (caps.toList.map (evO fr))):=
 jI fun ok bs w a _ _ hfit=>by
  have key:∀ (l:List Operand), (∀ y ∈ l, y ∈ o.op.operands) -> FitsEL ok w bs mem (l.map (evO fr)) (l.map a.eval):=by
   intro l
   induction l with
   | nil=>intro _; simp [FitsEL]
   | cons y l ih=>
    intro hm
    simp only[List.map_cons, FitsEL]
    exact ⟨_, _, rfl, hfit y (hm y (by simp)), ih (fun z hz=>hm z (by simp [hz]))⟩
  refine ⟨.func (.func f) (first.map a.eval) (caps.map a.eval), by simp [execOp, ho, Instr.makeFunc], ?_⟩
  simp only[FitsE]
  refine ⟨first.toList.map a.eval, caps.toList.map a.eval, by congr 1 <;> exact Array.toList_inj.1 (by simp), key _ (fun y hy=>?_), key _ (fun y hy=>?_)⟩
  ·
   simp only[ho, Op.operands, Array.mem_append]; exact .inl (by simpa using hy)
  ·
   simp only[ho, Op.operands, Array.mem_append]; exact .inr (by simpa using hy)
end
end Go.Av
end
section
namespace Go.Av
open Go.RowKit
def frE (caps:List EV):Nat -> EV:=fun t=>match caps[t]? with
 | some x=>x
 | none=>.pub .top
section
variable {P:Program} {G:Glob}
def znF (n:Nat) (fr:Nat -> EV):Nat -> EV:=fun t=>bif Nat.blt t n then fr t else .pub .top
end
end Go.Av
end
section
namespace Go.Av
open Go.RowKit
section
variable {P:Program} {G:Glob} {fr:Nat -> EV} {mem:List PO} {o:Oper}
theorem zuB {α:Type} {T U:TypeId} {x:Operand} {l:List α} {f:α -> List AV} (ho:o.op = .call { callee:=.builtin .len, args:=#[x], argTypes:=#[T] }) (hx:evO fr x = .pub (.sl (l.map f))) (hu:P.underlying T = some (.slice U)):
  OpY P G fr mem o (I (l.length:Int)):=by
 have:=qh (P:=P) (G:=G) (mem:=mem) (ty:=o.type) ho rfl hx hu
 rwa [List.length_map] at this
end
section
variable {r:Option Nat} {P:Program} {G:Glob} {st:ASt} {ops:Array Oper} {l:List Oper} {Q:Exit -> ASt -> Prop} {o:Oper}
def zsx {α:Type} (pv:AV) (g:α -> AV):Option α -> Out
 | some y=>.ret (g y)
 | none=>.pan pv
theorem XCall.some {α:Type} {f:FuncId} {args:List AV} {pv:AV} {g:α -> AV} {x:Option α} {y:α} (h:XCall P G f args (zsx pv g x)) (hx:x = .some y):ACall P G f args (g y):=by
 subst hx; exact XCall.a h
theorem XCall.none {α:Type} {f:FuncId} {args:List AV} {pv:AV} {g:α -> AV} {x:Option α} (h:XCall P G f args (zsx pv g x)) (hx:x = .none):XCall P G f args (.pan pv):=by
 subst hx; exact h
def PO.okL (k:Nat):PO -> Prop
 | .dead=>True
 | .row rows=>∀ r ∈ rows, ∀ x ∈ r, EV.lt k x
 | .map es=>∀ p ∈ es, EV.lt k p.2
def zdA (k:Nat):List PO -> Prop
 | []=>True
 | o :: l=>o.okL k /\ zdA k l
def zfa (k:Nat):List (Nat × EV) -> Prop
 | []=>True
 | p :: l=>EV.lt k p.2 /\ zfa k l
theorem xw {k:Nat}:∀ {l:List PO} {i:Nat} {o:PO}, zdA k l -> l[i]? = some o -> o.okL k
 | [], i, o, _, h=>by simp at h
 | x :: xs, i, o, h, hx=>by
  cases i with
  | zero=>simp at hx; subst hx; exact h.1
  | succ i=>exact xw h.2 (by simpa using hx)
theorem zdb {k:Nat}:∀ {l:List (Nat × EV)}, zfa k l -> ∀ t, EV.lt k (frL l t)
 | [], _, t=>by simp [frL, EV.lt]
 | (a, e) :: l, h, t=>by
  simp only[frL]
  cases Nat.beq t a with
  | true=>exact h.1
  | false=>exact zdb h.2 t
theorem vO {n:NS} {l:List (Nat × EV)} {mem:List PO} (k:Nat) (hl:zfa k l) (hm:zdA k (mem.take k)) (hgh:n.gh = []:=by rfl):Weak ⟨n, frL l, mem⟩ ⟨n, frL l, mem.take k⟩:=
 zeO k (zdb hl) (fun i rows hi h r hr x hx=>by
  have:=xw hm (i:=i) (o:=.row rows) (by rw [List.getElem?_take, if_pos hi]; exact h)
  exact this r hr x hx) (fun p h=>by rw [hgh] at h; cases h) (fun i es hi h=>xw hm (i:=i) (o:=.map es) (by rw [List.getElem?_take, if_pos hi]; exact h))
theorem zM7 {k:Nat} {rows:List (List AV)}:PO.okL k (.row (rows.map (·.map .pub))):=fun r hr x hx=>by
 obtain ⟨q, _, rfl⟩:=List.mem_map.1 hr
 obtain ⟨y, _, rfl⟩:=List.mem_map.1 hx
 simp [EV.lt]
@[reducible] def NS.held (n:NS) (h:List (Nat × Obj)):NS:=⟨n.n, n.dfs, n.gh, n.mks, h⟩
end
section
variable {P:Program} {G:Glob} {ops:Array Oper} {mem:List PO} {md:Region.Mode} {pv:AV}
def OpP (pv:AV) (P:Program) (G:Glob) (fr:Nat -> EV) (mem:List PO) (o:Oper) (x:EV):Prop:=
 ∀ (B:Nat) (ok:Nat -> Prop) (bs:List PB) (w:World) (a:Act), G.holds w -> B <= w.heap.size -> MemOK B ok w bs mem ->
  (∀ y ∈ o.op.operands, FitsE ok w bs mem (evO fr y) (a.eval y)) ->
  ∀ (K:Act -> World -> Prop) (Q:Exit -> Act -> World -> Prop), (∀ u w', Below w.heap.size w w' -> FitsE (okN ok w w') w' bs mem x u -> K (a.put o.dst u) w') ->
   (∀ u w', Below w.heap.size w w' -> Fits (okN ok w w') w' pv u -> Q (.panic (pnc u)) a w') -> o.wp P a w K Q
theorem OpY.p {fr:Nat -> EV} {o:Oper} {x:EV} (h:OpY P G fr mem o x):OpP pv P G fr mem o x:=fun B ok bs w a h1 h2 h3 h4 K Q hK _=>h B ok bs w a h1 h2 h3 h4 K Q hK
theorem OpP.of_same {fr fr':Nat -> EV} {o:Oper} {x:EV} (h:OpP pv P G fr mem o x) (he:∀ y ∈ o.op.operands, evO fr' y = evO fr y):OpP pv P G fr' mem o x:=by
 intro B ok bs w a hg hB hm hf K Q hK
 exact h B ok bs w a hg hB hm (fun y hy=>by rw [← he y hy]; exact hf y hy) K Q hK
theorem OpP.toM {st:ASt} {o:Oper} {x:EV} (h:OpP pv P G st.fr st.mem o x) (hd:DOK o.dst st.n) (w0:World) (ok0:Nat -> Prop) (a:Act) (w:World) (hG:G.holds w0) (hok:∀ b, ok0 b -> b < w0.heap.size) (hs:Sit w0 ok0 st a w)
  (K:Act -> World -> Prop) (Q:Exit -> Act -> World -> Prop) (hK:∀ a' w', Sit w0 ok0 ⟨st.n, jr st.fr o.dst x, st.mem⟩ a' w' -> K a' w') (hP:∀ a' w' u, Sit w0 ok0 ⟨st.n.pan pv u, st.fr, st.mem⟩ a' w' -> Q (.panic (pnc u)) a' w'):o.wp P a w K Q:=by
 obtain ⟨h0, h1, h2, ok, bs, h3, h4, h5, h6⟩:=hs
 exact h w0.heap.size ok bs w a (G.stable _ _ hG h2) h2.size h5 (fun y _=>jd fun t _=>h6.1 t) K Q
  (fun u w' hw hx=>hK _ _ (Sit.put h0 h1 h2 h3 h4 h5 h6 hw hx hd)) (fun u w' hw hv=>hP _ _ _ (Sit.pan h0 h1 h2 h3 h4 h5 h6 hw hv))
end
end Go.Av
end
