import Derived.Test.YtaphehlgijlfeaaGreatDoorPlatE
import Derived.Recover
import Derived.Laws.BytesArg
import GoSem.Core.Utf8
set_option linter.unusedVariables false
set_option linter.unusedSimpArgs false
section
namespace Go.Av
open Go.RowKit
inductive Out where
 | ret (r:AV)
 | pan (v:AV)
@[reducible] def pnc (u:Value):List PanicEntry:=[{ v:=u, recovered:=false }]
def XCall (P:Program) (G:Glob) (f:FuncId) (args:List AV) (o:Out):Prop:=
 Enters P f /\ ∀ (ok:Nat -> Prop) (w:World) (vs:List Value), G.holds w -> (∀ b, ok b -> b < w.heap.size) -> FitsL ok w args vs ->
  Calls P f vs.toArray w (fun e w'=>Below w.heap.size w w' /\ ∃ u, match o with
   | .ret r=>e = .returned u /\ Fits (okN ok w w') w' r u
   | .pan v=>e = .panicked (pnc u) /\ Fits (okN ok w w') w' v u)
theorem ACall.x {P:Program} {G:Glob} {f:FuncId} {args:List AV} {r:AV} (h:ACall P G f args r):XCall P G f args (.ret r):=
 ⟨h.1, fun ok w vs hG hok hf=>(h.2 ok w vs hG hok hf).mono fun _ _ ⟨u, e, hb, hu⟩=>⟨hb, u, e, hu⟩⟩
theorem XCall.a {P:Program} {G:Glob} {f:FuncId} {args:List AV} {r:AV} (h:XCall P G f args (.ret r)):ACall P G f args r:=
 ⟨h.1, fun ok w vs hG hok hf=>(h.2 ok w vs hG hok hf).mono fun _ _ ⟨hb, u, e, hu⟩=>⟨u, e, hb, hu⟩⟩
section
variable {r:Option Nat} {P:Program} {G:Glob} {st:ASt} {ops:Array Oper} {l:List Oper} {Q:Exit -> ASt -> Prop} {o:Oper}
@[reducible] def NS.pan (n:NS) (v:AV) (u:Value):NS:=⟨n.n, n.dfs, (.pub v, u) :: n.gh, n.mks, n.hold⟩
theorem Sit.pan {w0:World} {ok0:Nat -> Prop} {a:Act} {w w':World} {v:AV} {u:Value} {ok:Nat -> Prop} {bs:List PB} {n:NS} {fr:Nat -> EV} {mem:List PO}
  (h0:a.tmps.size = n.n) (h1:Nod w0 w a n) (h2:Below w0.heap.size w0 w) (h3:∀ b, ok0 b -> ok b) (h4:∀ b, ok b -> ok0 b ∨ w0.heap.size <= b) (h5:MemOK w0.heap.size ok w bs mem) (h6:Slots ok w bs mem n fr a)
  (hw:Below w.heap.size w w') (hv:Fits (okN ok w w') w' v u):Sit w0 ok0 ⟨n.pan v u, fr, mem⟩ a w':=by
 have hm:=h6.map (fun (e:EV) (u:Value) h=>FitsE.grow (x:=e) (u:=u) h h5.lt hw)
 refine ⟨h0, h1.keep (.of_below hw), yf h2 h2.size hw, okN ok w w', bs, fun b hb=>.inl (h3 b hb), fun b hb=>?_, h5.grow hw, hm.1, fun p hp=>?_⟩
 ·
  rcases hb with hb | hb
  ·
   exact h4 b hb
  ·
   exact .inr (Nat.le_trans h2.size hb.1)
 ·
  rcases List.mem_cons.1 hp with rfl | hp
  ·
   simpa only [FitsE] using hv
  ·
   exact hm.2 p hp
theorem zjz {fr:Nat -> EV} {mem:List PO} {f:FuncId} {first caps:Array Operand} (ho:o.op = .makeFunc (.func f) first caps):OpY P G fr mem o (.fnm f (first.toList.map (evO fr)) (caps.toList.map (evO fr))):=
 jI fun ok bs w a _ _ hfit=>by
  have key:∀ (l:List Operand), (∀ y ∈ l, y ∈ o.op.operands) -> FitsEL ok w bs mem (l.map (evO fr)) (l.map a.eval):=by
   intro l
   induction l with
   | nil=>intro _; simp [FitsEL]
   | cons y l ih=>
    intro hm
    simp only[List.map_cons, FitsEL]
    exact ⟨_, _, rfl, hfit y (hm y (by simp)), ih (fun z hz=>hm z (by simp [hz]))⟩
  refine ⟨.func (.func f) (first.map a.eval) (caps.map a.eval), by simp [execOp, ho, Instr.makeFunc], ?_⟩
  simp only[FitsE]
  refine ⟨first.toList.map a.eval, caps.toList.map a.eval, by congr 1 <;> exact Array.toList_inj.1 (by simp), key _ (fun y hy=>?_), key _ (fun y hy=>?_)⟩
  ·
   simp only[ho, Op.operands, Array.mem_append]; exact .inl (by simpa using hy)
  ·
   simp only[ho, Op.operands, Array.mem_append]; exact .inr (by simpa using hy)
end
end Go.Av
end
section
namespace Go.Av
open Go.RowKit
def frE (caps:List EV):Nat -> EV:=fun t=>match caps[t]? with
 | some x=>x
 | none=>.pub .top
section
variable {P:Program} {G:Glob}
def znF (n:Nat) (fr:Nat -> EV):Nat -> EV:=fun t=>bif Nat.blt t n then fr t else .pub .top
end
end Go.Av
end
section
namespace Go.Av
open Go.RowKit
abbrev eS (l:List UInt8):AV:=.v (.string ⟨l.toArray⟩)
abbrev SL (l:List UInt8):EV:=.pub (eS l)
def nxT (s:ByteArray) (k:Nat):List AV:=if k < s.size then [.v (.bool true), .v (goInt k), .v (.int .i32 ((Utf8.decode s k).1:Int))] else [.v (.bool false)]
def nxK (s:ByteArray) (k:Nat):Nat:=if k < s.size then k + (Utf8.decode s k).2 else k
theorem zsl (s:ByteArray):AV.v (.string s) = eS s.data.toList:=by simp [eS]
section
variable {P:Program} {G:Glob} {fr:Nat -> EV} {mem:List PO} {o:Oper}
theorem zh9 (l:List UInt8):(⟨l.toArray⟩:ByteArray).toList = l:=by
 rw [ByteArray.toList_eq]
theorem zof {T U:TypeId} {x y:Operand} {a b:List UInt8} (ho:o.op = .binOp .eql T x y U) (hx:evO fr x = SL a) (hy:evO fr y = SL b):OpY P G fr mem o (B (a == b)):=
 zq5 ho hx hy (fun w=>by simp [eqGuard, binOp, Op.stringOp, zh9]) rfl
theorem wE {T:TypeId} {x:Operand} {a:List UInt8} (ho:o.op = .call { callee:=.builtin .len, args:=#[x], argTypes:=#[T] }) (hx:evO fr x = SL a) (hu:P.underlying T = some .string):
  OpY P G fr mem o (I (a.length:Int)):=wz ho hx hu
theorem wC {T:TypeId} {x y:Operand} {a:List UInt8} {p:Int} {c:UInt8} (ho:o.op = .index T x y) (hx:evO fr x = SL a) (hy:evO fr y = I p) (ht:P.underlying T = some .string) (hp:0 <= p) (hc:a[p.toNat]? = some c):
  OpY P G fr mem o (.pub (.v (.int .u8 c.toNat))):=by
 have hlt:=(zLg hc).1
 have h:=zir (P:=P) (G:=G) (mem:=mem) ho hx hy ht hp (by simp [ByteArray.size]; omega)
 have e:(((⟨a.toArray⟩:ByteArray)[p.toNat]?).getD 0) = c:=by
  have he:=(zLg hc).2
  rw [getElem?_pos _ _ (by simp [ByteArray.size]; omega)]
  simp only[Option.getD_some]
  exact he
 rw [e] at h
 exact h
theorem zuB {α:Type} {T U:TypeId} {x:Operand} {l:List α} {f:α -> List AV} (ho:o.op = .call { callee:=.builtin .len, args:=#[x], argTypes:=#[T] }) (hx:evO fr x = .pub (.sl (l.map f))) (hu:P.underlying T = some (.slice U)):
  OpY P G fr mem o (I (l.length:Int)):=by
 have:=qh (P:=P) (G:=G) (mem:=mem) (ty:=o.type) ho rfl hx hu
 rwa [List.length_map] at this
theorem y8 {S T:TypeId} {x:Operand} {d:TypeDesc} {k k':IntKind} {n:Int} (ho:o.op = .convert S T x) (hx:evO fr x = .pub (.v (.int k n))) (hs:P.underlying S = some d) (ht:P.underlying T = some (.int k')) (hw:k'.wrap n = n):
  OpY P G fr mem o (.pub (.v (.int k' n))):=
 jI fun ok bs w a _ _ hf=>by
  have h1:=xR (hf x (by simp [ho, Op.operands])) hx
  refine ⟨.int k' n, ?_, vJ rfl⟩
  simp [execOp, ho, h1, convert, run_underlying hs, run_underlying ht, Conv.intToInt, hw]
theorem zhQ {T U:TypeId} {x y:Operand} {k:IntKind} {p q:Int} (ho:o.op = .binOp .sub T x y U) (hx:evO fr x = .pub (.v (.int k p))) (hy:evO fr y = .pub (.v (.int k q))) (hw:k.wrap (p - q) = p - q):OpY P G fr mem o (.pub (.v (.int k (p - q)))):=
 yN ho hx hy (fun w=>by cases k <;> simp [binOp, Op.intArith, hw]) rfl
theorem wrap_u8 {n:Int} (h:0 <= n /\ n <= 255):IntKind.u8.wrap n = n:=by
 rw [IntKind.wrap_u8]; omega
theorem zeq {n:Int} (h:-9223372036854775808 <= n /\ n <= 9223372036854775807):IntKind.i64.wrap n = n:=wrap_i64 h.1 h.2
theorem zsE (s:ByteArray) (k:Nat):(nxT s k)[0]? = some (.v (.bool (decide (k < s.size)))):=by
 unfold nxT; split <;> simp [*]
theorem zsM {s:ByteArray} {k:Nat} (h:k < s.size):(nxT s k)[2]? = some (.v (.int .i32 ((Utf8.decode s k).1:Int))):=by
 unfold nxT; rw [if_pos h]; rfl
end
section
variable {r:Option Nat} {P:Program} {G:Glob} {st:ASt} {ops:Array Oper} {l:List Oper} {Q:Exit -> ASt -> Prop} {o:Oper}
def zsx {α:Type} (pv:AV) (g:α -> AV):Option α -> Out
 | some y=>.ret (g y)
 | none=>.pan pv
theorem XCall.some {α:Type} {f:FuncId} {args:List AV} {pv:AV} {g:α -> AV} {x:Option α} {y:α} (h:XCall P G f args (zsx pv g x)) (hx:x = .some y):ACall P G f args (g y):=by
 subst hx; exact XCall.a h
theorem XCall.none {α:Type} {f:FuncId} {args:List AV} {pv:AV} {g:α -> AV} {x:Option α} (h:XCall P G f args (zsx pv g x)) (hx:x = .none):XCall P G f args (.pan pv):=by
 subst hx; exact h
theorem zeI {n n':NS} {fr:Nat -> EV} {mem mem':List PO} (hn:n = n') (l:List (Nat × EV)) (h:zbn fr l) (hm:mem = mem'):Weak ⟨n, fr, mem⟩ ⟨n', frL l, mem'⟩:=by subst hn; exact zt l h hm
def PO.okL (k:Nat):PO -> Prop
 | .dead=>True
 | .row rows=>∀ r ∈ rows, ∀ x ∈ r, EV.lt k x
 | .map es=>∀ p ∈ es, EV.lt k p.2
def zdA (k:Nat):List PO -> Prop
 | []=>True
 | o :: l=>o.okL k /\ zdA k l
def zfa (k:Nat):List (Nat × EV) -> Prop
 | []=>True
 | p :: l=>EV.lt k p.2 /\ zfa k l
theorem xw {k:Nat}:∀ {l:List PO} {i:Nat} {o:PO}, zdA k l -> l[i]? = some o -> o.okL k
 | [], i, o, _, h=>by simp at h
 | x :: xs, i, o, h, hx=>by
  cases i with
  | zero=>simp at hx; subst hx; exact h.1
  | succ i=>exact xw h.2 (by simpa using hx)
theorem zdb {k:Nat}:∀ {l:List (Nat × EV)}, zfa k l -> ∀ t, EV.lt k (frL l t)
 | [], _, t=>by simp [frL, EV.lt]
 | (a, e) :: l, h, t=>by
  simp only[frL]
  cases Nat.beq t a with
  | true=>exact h.1
  | false=>exact zdb h.2 t
theorem vO {n:NS} {l:List (Nat × EV)} {mem:List PO} (k:Nat) (hl:zfa k l) (hm:zdA k (mem.take k)) (hgh:n.gh = []:=by rfl):Weak ⟨n, frL l, mem⟩ ⟨n, frL l, mem.take k⟩:=
 zeO k (zdb hl) (fun i rows hi h r hr x hx=>by
  have:=xw hm (i:=i) (o:=.row rows) (by rw [List.getElem?_take, if_pos hi]; exact h)
  exact this r hr x hx) (fun p h=>by rw [hgh] at h; cases h) (fun i es hi h=>xw hm (i:=i) (o:=.map es) (by rw [List.getElem?_take, if_pos hi]; exact h))
abbrev itP (b:Nat):EV:=.pub (.v (.pointer (some ⟨b, 0, none⟩)))
@[reducible] def NS.held (n:NS) (h:List (Nat × Obj)):NS:=⟨n.n, n.dfs, n.gh, n.mks, h⟩
theorem zjE {T:TypeId} {x:Operand} {a:List UInt8} (hg:zad o = true) (hd:vC o st.n = true) (ho:o.op = .range T x) (hx:evO st.fr x = SL a) (ht:P.underlying T = some .string)
  (h:∀ b, yH (r:=r) P G ops l ⟨st.n.held ((b, .stringIter ⟨a.toArray⟩ 0) :: st.n.hold), jr st.fr o.dst (itP b), st.mem⟩ Q):yH (r:=r) P G ops (o :: l) st Q:=by
 intro w0 ok0 a' w hG hok ⟨h0, h1, h2, ok, bs, h3, h4, h5, h6⟩
 have hv:=xR (jd (fr:=st.fr) (a:=a') (x:=x) fun t _=>h6.1 t) hx
 have hrun:(execOp a'.eval o).run P w = .ok (.value (.pointer (some ⟨w.heap.size, 0, none⟩))) (w.alloc (.stringIter ⟨a.toArray⟩ 0)):=by
  simp [execOp, ho, hv, Instr.range, run_underlying ht]
 have hbel:=below_alloc w (.stringIter ⟨a.toArray⟩ 0)
 refine wpListIn_plain (zcU hg) fun K hK=>zar (zcO hg) <| jT hrun (hK _ _ (h w.heap.size w0 ok0 _ _ hG hok ?_))
 obtain ⟨k0, k1, k2, ok', bs', k3, k4, k5, k6⟩:=Sit.put (w':=w.alloc (.stringIter ⟨a.toArray⟩ 0)) (x:=itP w.heap.size) (u:=.pointer (some ⟨w.heap.size, 0, none⟩)) (dst:=o.dst) h0 h1 h2 h3 h4 h5 h6 hbel (vJ rfl) (qM hd)
 refine ⟨k0, ⟨k1.1, fun p hp=>?_⟩, k2, ok', bs', k3, k4, k5, k6⟩
 rcases List.mem_cons.1 hp with rfl | hp
 ·
  exact ⟨⟨⟨rfl, by rw [defers_put]; exact fun hD=>Nat.lt_irrefl _ (h1.1.marks _ hD).2.1⟩, h2.size⟩, heap_alloc_new w _⟩
 ·
  exact k1.2 p hp
theorem zlD {y:Operand} {b k:Nat} {s:ByteArray} {hs:List (Nat × Obj)} (hg:zad o = true) (hd:vC o st.n = true) (ho:o.op = .next y true) (hy:evO st.fr y = itP b) (hh:st.n.hold = (b, .stringIter s k) :: hs) (hne:(hs.all fun p=>!(Nat.beq p.1 b)) = true)
  (h:yH (r:=r) P G ops l ⟨st.n.held ((b, .stringIter s (nxK s k)) :: hs), jr st.fr o.dst (.pub (.tup (nxT s k))), st.mem⟩ Q):yH (r:=r) P G ops (o :: l) st Q:=by
 intro w0 ok0 a' w hG hok ⟨h0, h1, h2, ok, bs, h3, h4, h5, h6⟩
 have hv:=xR (jd (fr:=st.fr) (a:=a') (x:=y) fun t _=>h6.1 t) hy
 have hb:=h1.2 (b, .stringIter s k) (by rw [hh]; exact List.mem_cons_self ..)
 have hbl:w0.heap.size <= b:=hb.1.2
 have hbh:w.heap[b]? = some (.stringIter s k):=hb.2
 have hlt:=(Array.getElem?_eq_some_iff.1 hbh).1
 have hwant:∀ (K:Act -> World -> Prop) (Q:Exit -> Act -> World -> Prop), (∀ u w', (execOp a'.eval o).run P w = .ok (.value u) w' -> K (a'.put o.dst u) w') -> (∃ u w', (execOp a'.eval o).run P w = .ok (.value u) w') -> o.wp P a' w K Q:=fun K Q hK ⟨u, w', e⟩=>jT e (hK u w' e)
 have hrun:(execOp a'.eval o).run P w = .ok (.value (if k < s.size then .tuple #[.bool true, goInt k, .int .i32 ((Utf8.decode s k).1:Int)] else .tuple #[.bool false])) (if k < s.size then w.putObj b (.stringIter s (nxK s k)) else w):=by
  have g1:(getObj b).run P w = .ok (.stringIter s k) w:=by simp [getObj, Sem.run, hbh]
  have g2:∀ o', (setObj b o').run P w = .ok () (w.putObj b o'):=fun o'=>by simp [setObj, Sem.run, hbh, World.putObj]
  by_cases hk:k < s.size
  ·
   simp [execOp, ho, hv, Instr.next, g1, g2, hk, nxK]
  ·
   simp [execOp, ho, hv, Instr.next, g1, hk]
 obtain ⟨w', hw'⟩:∃ w', (if k < s.size then w.putObj b (.stringIter s (nxK s k)) else w) = w':=⟨_, rfl⟩
 obtain ⟨u, hu⟩:∃ u, (if k < s.size then Value.tuple #[.bool true, goInt k, .int .i32 ((Utf8.decode s k).1:Int)] else .tuple #[.bool false]) = u:=⟨_, rfl⟩
 rw [hw', hu] at hrun
 have hheap:∀ j, j ≠ b -> w'.heap[j]? = w.heap[j]?:=fun j hj=>by
  rw [← hw']
  split
  ·
   exact ww hj
  ·
   rfl
 have hnew:w'.heap[b]? = some (.stringIter s (nxK s k)):=by
  rw [← hw']
  split
  ·
   exact zbs hbh
  ·
   rename_i hk; simp [nxK, hk, hbh]
 have hsz:w'.heap.size = w.heap.size:=by
  rw [← hw']
  split
  ·
   exact size_put'
  ·
   rfl
 have hbel:Below w0.heap.size w w':=by
  rw [← hw']
  split
  ·
   exact ⟨rfl, rfl, rfl, Nat.le_of_eq size_put'.symm, fun j hj=>ww (by omega)⟩
  ·
   exact Below.refl _ _
 have hcell:∀ ad, w'.cell? ad = w.cell? ad:=fun ad=>by
  rw [← hw']
  split
  ·
   exact xK hbh rfl rfl ad
  ·
   rfl
 have hux:FitsE ok w' bs st.mem (.pub (.tup (nxT s k))) u:=by
  simp only[FitsE, Fits]
  rw [← hu]
  unfold nxT
  split
  ·
   exact ⟨[.bool true, goInt k, .int .i32 ((Utf8.decode s k).1:Int)], rfl, ⟨_, _, rfl, ⟨rfl, rfl⟩, _, _, rfl, ⟨rfl, rfl⟩, _, _, rfl, ⟨rfl, rfl⟩, rfl⟩⟩
  ·
   exact ⟨[.bool false], rfl, ⟨_, _, rfl, ⟨rfl, rfl⟩, rfl⟩⟩
 refine wpListIn_plain (zcU hg) fun K hK=>zar (zcO hg) <| jT hrun (hK _ _ (h w0 ok0 _ _ hG hok ?_))
 have hmo:MemOK w0.heap.size ok w' bs st.mem:=by
  rw [← hw']
  split
  ·
   exact h5.put hbh rfl rfl
  ·
   exact h5
 refine ⟨(size_put ..).trans h0, ⟨?_, fun p hp=>?_⟩, h2.trans hbel, ok, bs, h3, h4, hmo, ?_⟩
 ·
  rw [defers_put, hsz]
  have hD:∀ {ds:List Deferred} {B:Nat} {l:List Tmp}, Dfs st.n.mks w0 w a'.tmps ds B l -> (∀ t, t ∈ l -> t ∈ st.n.dfs) -> Dfs st.n.mks w0 w' (a'.put o.dst u).tmps ds B l:=by
   intro ds
   induction ds with
   | nil=>intro B l h _; simpa only [Dfs] using h
   | cons d ds ih=>
    intro B l h hl
    simp only[Dfs] at h ⊢
    rcases h with ⟨hm, D, e, e1, e2, e3, e4⟩ | ⟨t, l', rfl, ⟨f, us, vs, e, e1⟩, e2⟩
    ·
     refine .inl ⟨hm, D, e, e1, e2, ?_, ih e4 hl⟩
     rw [hheap D (fun e=>by subst e; rw [hbh] at e3; cases e3)]
     exact e3
    ·
     refine .inr ⟨t, l', rfl, ⟨f, us, vs, e, ?_⟩, ih e2 fun t ht=>hl t (List.mem_cons_of_mem _ ht)⟩
     cases hdd:o.dst with
     | none=>exact e1
     | some d=>
      have hnd:t ≠ d:=fun e=>(qM hd d hdd).2 (e ▸ hl t (List.mem_cons_self ..))
      simp only[Act.put, getD_put, hnd, false_and, if_false]
      exact e1
  exact hD h1.1 fun _ h=>h
 ·
  rcases List.mem_cons.1 hp with rfl | hp
  ·
   exact ⟨⟨⟨rfl, by rw [defers_put]; exact hb.1.1.2⟩, hbl⟩, hnew⟩
  ·
   have hpb:p.1 ≠ b:=fun e=>by
    rw [List.all_eq_true] at hne
    have:=hne p hp
    simp [e] at this
   have:=h1.2 p (by rw [hh]; exact List.mem_cons_of_mem _ hp)
   exact ⟨by rw [defers_put]; exact this.1, by rw [hheap _ hpb]; exact this.2⟩
 ·
  exact wX (h6.map fun _ _ h=>h.congr hcell) hux (fun d e=>by rw [h0]; exact (qM hd d e).1)
end
section
variable {P:Program} {G:Glob} {ops:Array Oper} {mem:List PO} {md:Region.Mode} {pv:AV}
def OpP (pv:AV) (P:Program) (G:Glob) (fr:Nat -> EV) (mem:List PO) (o:Oper) (x:EV):Prop:=
 ∀ (B:Nat) (ok:Nat -> Prop) (bs:List PB) (w:World) (a:Act), G.holds w -> B <= w.heap.size -> MemOK B ok w bs mem ->
  (∀ y ∈ o.op.operands, FitsE ok w bs mem (evO fr y) (a.eval y)) ->
  ∀ (K:Act -> World -> Prop) (Q:Exit -> Act -> World -> Prop), (∀ u w', Below w.heap.size w w' -> FitsE (okN ok w w') w' bs mem x u -> K (a.put o.dst u) w') ->
   (∀ u w', Below w.heap.size w w' -> Fits (okN ok w w') w' pv u -> Q (.panic (pnc u)) a w') -> o.wp P a w K Q
theorem OpY.p {fr:Nat -> EV} {o:Oper} {x:EV} (h:OpY P G fr mem o x):OpP pv P G fr mem o x:=fun B ok bs w a h1 h2 h3 h4 K Q hK _=>h B ok bs w a h1 h2 h3 h4 K Q hK
theorem OpP.of_same {fr fr':Nat -> EV} {o:Oper} {x:EV} (h:OpP pv P G fr mem o x) (he:∀ y ∈ o.op.operands, evO fr' y = evO fr y):OpP pv P G fr' mem o x:=by
 intro B ok bs w a hg hB hm hf K Q hK
 exact h B ok bs w a hg hB hm (fun y hy=>by rw [← he y hy]; exact hf y hy) K Q hK
theorem OpP.toM {st:ASt} {o:Oper} {x:EV} (h:OpP pv P G st.fr st.mem o x) (hd:DOK o.dst st.n) (w0:World) (ok0:Nat -> Prop) (a:Act) (w:World) (hG:G.holds w0) (hok:∀ b, ok0 b -> b < w0.heap.size) (hs:Sit w0 ok0 st a w)
  (K:Act -> World -> Prop) (Q:Exit -> Act -> World -> Prop) (hK:∀ a' w', Sit w0 ok0 ⟨st.n, jr st.fr o.dst x, st.mem⟩ a' w' -> K a' w') (hP:∀ a' w' u, Sit w0 ok0 ⟨st.n.pan pv u, st.fr, st.mem⟩ a' w' -> Q (.panic (pnc u)) a' w'):o.wp P a w K Q:=by
 obtain ⟨h0, h1, h2, ok, bs, h3, h4, h5, h6⟩:=hs
 exact h w0.heap.size ok bs w a (G.stable _ _ hG h2) h2.size h5 (fun y _=>jd fun t _=>h6.1 t) K Q
  (fun u w' hw hx=>hK _ _ (Sit.put h0 h1 h2 h3 h4 h5 h6 hw hx hd)) (fun u w' hw hv=>hP _ _ _ (Sit.pan h0 h1 h2 h3 h4 h5 h6 hw hv))
end
end Go.Av
end
