import Derived.Test.YtdjncbjfejdamaaGreatDoorPlatN
import Derived.Test.YtdjncbjfejdamaaGreatDoorPlatJ
import Derived.Test.YtdjncbjfejdamaaGreatDoorPlatB
import Derived.Test.YtdjncbjfejdamaaGreatDoorPlatH
import Derived.Test.YtdjncbjfejdamaaGreatDoorPlatM
import Derived.Test.YtdjncbjfejdamaaGreatDoorPlatA
import Derived.Scope
import Derived.Test.YtdjncbjfejdamaaGreatDoorPlatF
set_option linter.unusedVariables false
set_option linter.unusedSimpArgs false
section
namespace Go.Av
open Go.RowKit
theorem zKR {α:Type} {size:Nat}:∀ {rows:List (List α)}, (∀ r ∈ rows, r.length = size) -> ∀ (i j:Nat) (r:List α), rows[i]? = some r -> j < size -> rows.flatten[i * size + j]? = r[j]?
 | [], _, i, j, r, h, _=>by simp at h
 | q :: qs, hs, i, j, r, h, hj=>by
  have hq:q.length = size:=hs q (by simp)
  cases i with
  | zero=>simp at h; subst h; simp [List.getElem?_append, hq, hj]
  | succ i=>
   simp at h
   have:=zKR (fun r hr=>hs r (by simp [hr])) i j r h hj
   rw [List.flatten_cons, List.getElem?_append, if_neg (by rw [hq, Nat.add_mul]; omega), hq, show (i + 1) * size + j - size = i * size + j from by rw [Nat.add_mul]; omega]
   exact this
section
variable {P:Program} {G:Glob} {st:ASt} {o:Oper}
theorem zMo {T E:TypeId} {len size l:Nat} {parts:Array (Nat × Operand)} {i:TypeInfo} {qs:List (Nat × List EV)} {rows:List (List EV)} (ho:o.op = .buildSlice T len parts) (hd:vC o st.n = true)
  (ht:P.underlying T = some (.slice E)) (hi:P.info? E = some i) (hsz:i.size = size) (hpos:0 < size) (hz:i.zero.isSome = true) (hmax:len * size <= 16777216)
  (hq:za2 st.mem st.fr parts.toList qs) (hf:zcP (fun i=>some (i * size, size)) (List.replicate (len * size) (.pub .top)) qs = some rows.flatten)
  (hn:∀ x ∈ rows.flatten, x ≠ .pub .top) (hl:rows.length = len) (h0l:0 < len) (hrs:∀ r ∈ rows, r.length = size) (hml:st.mem[l]? = some (.row [])):
  OpM P G st o ⟨st.n, jr st.fr o.dst (.psl l len), st.mem.set l (.row rows)⟩:=by
 subst hsz
 intro w0 ok0 a w hG hok hsit K Q hK
 obtain ⟨h0, h1', h2, ok, bs, h3, h4, h5, h6⟩:=hsit
 have hlm:l < st.mem.length:=(zLg hml).1
 have hlb:l < bs.length:=by rw [h5.len]; exact hlm
 have hbl:bs[l]? = some bs[l]:=by simp [hlb]
 obtain ⟨z, hz⟩:=Option.isSome_iff_exists.1 hz
 obtain ⟨z0, hz0⟩:∃ z0:Array Value, z0 = if len * i.size = 0 then #[] else z.cells:=⟨_, rfl⟩
 obtain ⟨cs, c1, c2⟩:=zhl (a:=a) (fun k=>some (k * i.size, i.size)) parts.toList qs _ rows.flatten ((Array.range (len * i.size)).map (z0[· % z0.size]!)) (fun p _=>jd fun t _=>h6.1 t) hq
  (by
   have h:=CellIs.tops (ok:=ok) (w:=w) (bs:=bs) (mem:=st.mem) ((Array.range (len * i.size)).map (z0[· % z0.size]!)).toList
   rwa [show ((Array.range (len * i.size)).map (z0[· % z0.size]!)).toList.map (fun _=>EV.pub .top) = List.replicate (len * i.size) (.pub .top) from by rw [List.map_const']; simp] at h) hf
 obtain ⟨c3, c4⟩:=c2.fits (fun x hx=>hn x hx)
 have hbig:¬ len * i.size > 2 ^ 24:=by omega
 have hne:¬ len * i.size = 0:=by
  have:=Nat.mul_pos h0l hpos
  omega
 have hlen:len <= maxLen:=by
  have:len <= len * i.size:=Nat.le_mul_of_pos_right _ hpos
  unfold maxLen; omega
 have hcs:cs.size = len * i.size:=by
  have h:=FitsEL.length c3
  have h2:∀ {rows:List (List EV)}, (∀ r ∈ rows, r.length = i.size) -> rows.flatten.length = rows.length * i.size:=by
   intro rows
   induction rows with
   | nil=>intro _; simp
   | cons r rows ih=>
    intro hr
    rw [List.flatten_cons, List.length_append, hr r (List.mem_cons_self ..), ih fun q hq=>hr q (List.mem_cons_of_mem _ hq), List.length_cons, Nat.add_mul]; omega
  rw [h2 hrs, hl] at h
  simpa using h
 have hrun:(execOp a.eval o).run P w = .ok (.value (.slice (some ⟨w.heap.size, 0, none⟩) len len)) (w.alloc (.cells cs E)):=by
  have h1':Instr.fill (fun k=>some (k * i.size, i.size)) ((Array.range (len * i.size)).map (z0[· % z0.size]!)) (parts.map fun p=>(p.1, a.eval p.2)).toList = some cs:=by simpa using c1
  have hbs:(Instr.buildSlice T len (parts.map fun p=>(p.1, a.eval p.2))).run P w = .ok (.slice (some ⟨w.heap.size, 0, none⟩) len len) (w.alloc (.cells cs E)):=by
   unfold Instr.buildSlice
   rw [if_neg hne] at hz0
   subst hz0
   simp only[Sem.run_bind, run_underlying ht, Result.andThen_ok, sizeOf, typeInfo, run_program, hi, Sem.run_pure, hbig, if_false, hne, zeroValue, hz, newRow, h1']
   rfl
  simp only[execOp, ho, Sem.run_bind]
  have e:(parts.map fun x=>match x with | (i, x)=>(i, a.eval x)) = parts.map fun p=>(p.1, a.eval p.2):=rfl
  rw [e, hbs]
  rfl
 have hturn:=h5.turn (w':=w.alloc (.cells cs E)) (b':=⟨some w.heap.size, len, E, i.size⟩) (rows':=rows) hbl hml (below_alloc w _).size (fun k hk _=>(below_alloc w _).block k hk) (by simp) (fun e=>by simp at e; omega)
  (fun g hg=>by simp at hg; exact .inr (Nat.le_of_eq hg)) h2.size (fun hfit=>by
   refine ⟨hrs, fun hnn=>(by simp at hnn), fun _ _=>(by omega), fun g hg=>?_⟩
   simp at hg
   subst hg
   refine ⟨_, heap_alloc_new w _, hcs, by simp [hl], hlen, fun i' j r x hr hx=>?_⟩
   have hj:j < i.size:=by
    have:=(zLg hx).1
    rwa [hrs r (List.mem_of_getElem? hr)] at this
   have hg:=zKR hrs i' j r hr hj
   rw [hx] at hg
   obtain ⟨u, u1, u2⟩:=c3.get hg
   refine ⟨u, by simpa using u1, c4 u (List.mem_of_getElem? u1), hfit _ _ u2⟩)
 refine jT hrun (hK _ _ ⟨(size_put ..).trans h0, h1'.put (.of_below (below_alloc w _)) (qM hd), yf h2 h2.size (below_alloc w _), ok, _, h3, h4, hturn.1, ?_⟩)
 refine wX (h6.map hturn.2) ?_ (fun d hdd=>by rw [h0]; exact xB hd d hdd)
 simp only[FitsE]
 refine ⟨⟨some w.heap.size, len, E, i.size⟩, by simp [hlb], fun rows' hr=>?_⟩
 simp [hlm] at hr
 subst hr
 simp [PB.sl, hl]
theorem zOj {T E:TypeId} {len size:Nat} {parts:Array (Nat × Operand)} {i:TypeInfo} {qs:List (Nat × List EV)} {rows:List (List EV)} (ho:o.op = .buildSlice T len parts) (hd:vC o st.n = true)
  (ht:P.underlying T = some (.slice E)) (hi:P.info? E = some i) (hsz:i.size = size) (hpos:0 < size) (hz:i.zero.isSome = true) (hmax:len * size <= 16777216)
  (hq:za2 (st.mem ++ [.row []]) st.fr parts.toList qs) (hf:zcP (fun i=>some (i * size, size)) (List.replicate (len * size) (.pub .top)) qs = some rows.flatten)
  (hn:∀ x ∈ rows.flatten, x ≠ .pub .top) (hl:rows.length = len) (h0l:0 < len) (hrs:∀ r ∈ rows, r.length = size):
  OpM P G st o ⟨st.n, jr st.fr o.dst (.psl st.mem.length len), st.mem ++ [.row rows]⟩:=by
 intro w0 ok0 a w hG hok hsit K Q hK
 have h:=zMo (P:=P) (G:=G) (st:=⟨st.n, st.fr, st.mem ++ [.row []]⟩) (l:=st.mem.length) ho hd ht hi hsz hpos hz hmax hq hf hn hl h0l hrs (by simp)
 have e:(st.mem ++ [PO.row []]).set st.mem.length (.row rows) = st.mem ++ [.row rows]:=by simp
 simp only[e] at h
 exact h w0 ok0 a w hG hok (zhy _ _ _ _ hsit) K Q hK
end
end Go.Av
end
section
namespace Go.Av
open Go.RowKit
section
variable {F:Fence} {n:Nat} {P:Program} {md:Region.Mode}
def zwu (md:Region.Mode) (l:List Oper):Bool:=
 (List.range l.length).all fun i=>match l[i]? with
  | some o=>(o.after.toList.all fun e=>!Region.binds md e || Nat.blt e.on i) && (match o.guard with | none=>true | some (j, _)=>Nat.blt j i)
  | none=>true
def waits (md:Region.Mode) (l:List Oper) (i:Nat):List Nat:=match l[i]? with
 | some o=>o.after.toList.filterMap fun e=>if Region.binds md e then some e.on else none
 | none=>[]
def clo (md:Region.Mode) (l:List Oper):Nat -> List Nat -> List Nat
 | 0, s=>s
 | k + 1, s=>clo md l k (s ++ (s.flatMap (waits md l)).filter (fun x=>!s.contains x))
def lastB (md:Region.Mode) (l:List Oper) (o:Oper) (k:Nat):Bool:=
 zwu md (l ++ [o]) && o.guard.isNone && (List.range l.length).all fun i=>(clo md (l ++ [o]) k (waits md (l ++ [o]) l.length)).contains i
theorem zwc {l:List Oper} (h:zwu md l = true) {i:Nat} {o:Oper} (ho:l[i]? = some o):(∀ e ∈ o.after, Region.binds md e = true -> e.on < i) /\ ∀ j b, o.guard = some (j, b) -> j < i:=by
 unfold zwu at h
 rw [List.all_eq_true] at h
 have:=h i (List.mem_range.2 (zLg ho).1)
 simp only[ho, zLa, List.all_eq_true] at this
 refine ⟨fun e he hb=>?_, fun j b hg=>?_⟩
 ·
  have h1:=this.1 e (by simpa using he)
  rw [hb] at h1
  simpa [Nat.blt_eq] using h1
 ·
  have h1:=this.2
  rw [hg] at h1
  simpa [Nat.blt_eq] using h1
def Closd (md:Region.Mode) (l:List Oper) (s:Nat -> Bool):Prop:=∀ i o, l[i]? = some o -> s i = true -> ∀ e ∈ o.after, Region.binds md e = true -> s e.on = true
theorem zzN {l:List Oper} {s:Nat -> Bool} (hc:Closd md l s) {i:Nat} (hi:s i = true):∀ x ∈ waits md l i, s x = true:=fun x hx=>by
 unfold waits at hx
 split at hx
 ·
  rename_i o ho
  rw [List.mem_filterMap] at hx
  obtain ⟨e, he, hx⟩:=hx
  split at hx
  ·
   rename_i hb
   injection hx with hx
   exact hx ▸ hc i o ho hi e (by simpa using he) hb
  ·
   cases hx
 ·
  cases hx
theorem zyP {l:List Oper} {s:Nat -> Bool} (hc:Closd md l s):∀ (k:Nat) (t:List Nat), (∀ i ∈ t, s i = true) -> ∀ i ∈ clo md l k t, s i = true
 | 0, t, ht, i, hi=>ht i hi
 | k + 1, t, ht, i, hi=>by
  rw [clo] at hi
  refine zyP hc k _ (fun j hj=>?_) i hi
  rcases List.mem_append.1 hj with h | h
  ·
   exact ht j h
  ·
   have h2:=(List.mem_filter.1 h).1
   rw [List.mem_flatMap] at h2
   obtain ⟨x, hx, hy⟩:=h2
   exact zzN hc (ht x hx) j hy
def zwA (F:Fence) (n:Nat) (P:Program) (ops:Array Oper) (N:Nat) (Q:Exit -> Act -> World -> Prop):Exit -> Act -> World -> Prop
 | .normal, a, w=>wpOpIn F n P ops Q N (fun a w=>Q .normal a w) a w
 | e, a, w=>Q e a w
theorem zAS {ops:Array Oper} {N:Nat} {Q:Exit -> Act -> World -> Prop} {o:Oper} {a:Act} {w:World} {K K':Act -> World -> Prop} (h:∀ a w, K a w -> K' a w) (hh:o.wpIn F n P a w K (zwA F n P ops N Q)):o.wpIn F n P a w K' Q:=by
 unfold Oper.wpIn at *
 refine ⟨hh.1, ?_⟩
 have hh:=hh.2
 generalize (o.semAt F.round a.eval).run P w = r at *
 cases r with
 | ok x w'=>
  cases x <;> simp only[Oper.uponIn] at hh ⊢ <;>
   first
    | exact h _ _ hh
    | exact ⟨hh.1, CallsIn.mono hh.2 (fun e w'' he=>by cases e <;> first | exact h _ _ he | exact he)⟩
    | exact ⟨hh.1, RowsIn.mono hh.2 (fun _ _ he=>h _ _ he)⟩
    | exact ⟨hh.1, RoundIn.mono hh.2 (fun e w'' he=>by cases e <;> first | exact h _ _ he | exact he)⟩
    | exact hh
 | halt x w'=>cases x <;> simp only[Oper.uponIn] at hh ⊢ <;> exact hh
theorem zyA {l:List Oper} {o:Oper} {tm:Array Value} {j:Nat} (hj:j < l.length):yielded (l ++ [o]).toArray tm j = yielded l.toArray tm j:=by
 unfold yielded
 simp [List.getElem?_append_left hj]
theorem zA4 {l:List Oper} {o:Oper} {N i:Nat} {ops:Array Oper} (hops:ops = (l ++ [o]).toArray) (hi:i < l.length) (hg:∀ oi j b, l[i]? = some oi -> oi.guard = some (j, b) -> j < l.length) {Q:Exit -> Act -> World -> Prop} {K K':Act -> World -> Prop} {a:Act} {w:World} (h:∀ a w, K a w -> K' a w)
  (hh:wpOpIn F n P l.toArray (zwA F n P ops N Q) i K a w):wpOpIn F n P ops Q i K' a w:=by
 have e1:l.toArray[i]? = some l[i]:=by simp [hi]
 have e2:ops[i]? = some l[i]:=by rw [hops]; simp [List.getElem?_append_left hi, hi]
 unfold wpOpIn at *
 simp only[e1] at hh
 simp only[e2]
 have hw:Region.wanted l[i] (yielded ops a.tmps) = Region.wanted l[i] (yielded l.toArray a.tmps):=by
  unfold Region.wanted
  cases hgd:l[i].guard with
  | none=>rfl
  | some p=>
   obtain ⟨j, b⟩:=p
   simp only
   rw [hops, zyA (hg l[i] j b (by simp [hi]) hgd)]
 rw [hw]
 split
 ·
  rename_i hc
  rw [if_pos hc] at hh
  exact zAS h hh
 ·
  rename_i hc
  rw [if_neg hc] at hh
  exact ⟨hh.1, h _ _ hh.2⟩
theorem zvi {s:Array Bool} {i:Nat} (d b:Bool) (h:i < s.size):(s.push b).getD i d = s.getD i d:=by
 simp [Array.getD_eq_getD_getElem?, Array.getElem?_push, Nat.ne_of_lt h]
theorem zxu {s:Array Bool} (d b:Bool):(s.push b).getD s.size d = b:=by simp [Array.getD_eq_getD_getElem?]
theorem zxa {s:Array Bool} {i:Nat} (h:i < s.size):s.getD i true = s.getD i false:=by simp [Array.getD_eq_getD_getElem?, h]
theorem zwT {l:List Oper} {o:Oper} (ht:zwu md (l ++ [o]) = true) {s:Array Bool} (hs:s.size = l.length) (b:Bool) {i:Nat} (hi:i < l.length):i ∈ Region.ready md (l ++ [o]).toArray (s.push b) ↔ i ∈ Region.ready md l.toArray s:=by
 have e1:l.toArray[i]? = some l[i]:=by simp [hi]
 have e2:(l ++ [o]).toArray[i]? = some l[i]:=by simp [List.getElem?_append_left hi, hi]
 have hto:=(zwc ht (i:=i) (o:=l[i]) (by simp [List.getElem?_append_left hi, hi])).1
 rw [mem_ready, mem_ready, zvi true b (by omega), e1, e2]
 constructor
 ·
  rintro ⟨h0, o1, h1, h2⟩
  injection h1 with h1
  subst h1
  exact ⟨h0, _, rfl, fun e he hb=>by
   have:=h2 e he hb
   rwa [zvi _ b (by have:=hto e he hb; omega)] at this⟩
 ·
  rintro ⟨h0, o1, h1, h2⟩
  injection h1 with h1
  subst h1
  exact ⟨h0, _, rfl, fun e he hb=>by
   rw [zvi _ b (by have:=hto e he hb; omega)]
   exact h2 e he hb⟩
theorem zwo {l:List Oper} (ht:zwu md l = true) {s:Array Bool} (hs:s.size = l.length) (h:Region.ready md l.toArray s = []):∀ i, i < l.length -> s.getD i false = true:=by
 intro i
 induction i using Nat.strongRecOn with
 | _ i ih=>
  intro hi
  have e1:l.toArray[i]? = some l[i]:=by simp [hi]
  cases hc:s.getD i false with
  | true=>rfl
  | false=>
   exfalso
   have:i ∈ Region.ready md l.toArray s:=mem_ready.2 ⟨by rw [zxa (by omega)]; exact hc, l[i], e1, fun e he hb=>by
    have h1:=(zwc ht (i:=i) (o:=l[i]) (by simp [hi])).1 e he hb
    exact ih e.on h1 (by omega)⟩
   rw [h] at this
   cases this
theorem zyG {l:List Oper} {o:Oper} {k:Nat} (hB:lastB md l o k = true) {Q:Exit -> Act -> World -> Prop} {ops:Array Oper} (hops:ops = (l ++ [o]).toArray):∀ (fuel:Nat) (s:Array Bool) (a:Act) (w:World), s.size = l.length -> Closd md l (fun i=>s.getD i false) ->
  wpAnyIn F n P md l.toArray (zwA F n P ops l.length Q) fuel s a w -> wpAnyIn F n P md ops Q (fuel + 1) (s.push false) a w:=by
 simp only[lastB, zLa, List.all_eq_true] at hB
 obtain ⟨⟨ht, hgo⟩, hall⟩:=hB
 have ht':zwu md l = true:=by
  unfold zwu at ht ⊢
  rw [List.all_eq_true] at ht ⊢
  intro i hi
  rw [List.mem_range] at hi
  have:=ht i (List.mem_range.2 (by simp; omega))
  rwa [List.getElem?_append_left hi] at this
 have hN:ops[l.length]? = some o:=by rw [hops]; simp
 have hto:∀ {i:Nat} (hi:i < l.length), (∀ e ∈ l[i].after, Region.binds md e = true -> e.on < i) /\ ∀ j b, l[i].guard = some (j, b) -> j < i:=fun {i} hi=>zwc ht (i:=i) (o:=l[i]) (by simp [List.getElem?_append_left hi, hi])
 have rN1:∀ s:Array Bool, s.size = l.length -> (∀ i, i < l.length -> s.getD i false = true) -> l.length ∈ Region.ready md ops (s.push false):=fun s hs h=>mem_ready.2 ⟨by rw [← hs]; exact zxu _ _, o, hN, fun e he hb=>by
  have h1:=(zwc ht (i:=l.length) (o:=o) (by simp)).1 e he hb
  rw [zvi _ _ (by omega)]
  exact h _ h1⟩
 have rN2:∀ s:Array Bool, s.size = l.length -> Closd md l (fun i=>s.getD i false) -> l.length ∈ Region.ready md ops (s.push false) -> ∀ i, i < l.length -> s.getD i false = true:=fun s hs hc h i hi=>by
  obtain ⟨_, o', ho', h2⟩:=mem_ready.1 h
  rw [hN] at ho'
  injection ho' with ho'
  subst ho'
  have hc2:Closd md (l ++ [o]) (fun i=>(s.push false).getD i false):=by
   intro j oj hj hsj e he hb
   by_cases hjl:j < l.length
   ·
    rw [List.getElem?_append_left hjl] at hj
    have e3:l[j] = oj:=by rw [List.getElem?_eq_getElem hjl] at hj; injection hj
    have h3:=(hto hjl).1 e (by rw [e3]; exact he) hb
    simp only[zvi _ _ (show j < s.size by omega)] at hsj
    simp only[zvi _ _ (show e.on < s.size by omega)]
    exact hc j oj hj hsj e he hb
   ·
    have e4:j = l.length:=by
     have:=(zLg hj).1
     simp at this; omega
    subst e4
    simp only[← hs, zxu] at hsj
    cases hsj
  have h3:=zyP hc2 k (waits md (l ++ [o]) l.length) (fun x hx=>by
   unfold waits at hx
   rw [show (l ++ [o])[l.length]? = some o by simp] at hx
   simp only[List.mem_filterMap] at hx
   obtain ⟨e, he, hx⟩:=hx
   split at hx
   ·
    rename_i hb
    injection hx with hx
    exact hx ▸ h2 e (by simpa using he) hb
   ·
    cases hx) i (by simpa using hall i (List.mem_range.2 hi))
  simp only[zvi _ _ (show i < s.size by omega)] at h3
  exact h3
 have rin:∀ {i:Nat} {L:List Oper} {s:Array Bool}, i ∈ Region.ready md L.toArray s -> i < L.length:=fun {i L s} hi=>by
  obtain ⟨_, o', ho', _⟩:=mem_ready.1 hi
  have:=(Array.getElem?_eq_some_iff.1 ho').1
  simpa using this
 have fin:∀ (s:Array Bool), s.size = l.length -> (∀ i, i < l.length -> s.getD i false = true) -> Region.ready md ops ((s.push false).setIfInBounds l.length true) = []:=fun s hs h=>by
  refine List.eq_nil_iff_forall_not_mem.2 fun i hi=>?_
  obtain ⟨h1, _⟩:=mem_ready.1 hi
  rw [hops] at hi
  have hlt:=rin hi
  simp at hlt
  by_cases hil:i < l.length
  ·
   rw [getD_set_ne true (Ne.symm (Nat.ne_of_lt hil)), zvi _ _ (by omega), zxa (by omega), h i hil] at h1
   cases h1
  ·
   have e4:i = l.length:=by omega
   subst e4
   simp [Array.getD_eq_getD_getElem?, hs] at h1
 have allr:∀ s:Array Bool, s.size = l.length -> (∀ i, i < l.length -> s.getD i false = true) -> Region.ready md l.toArray s = []:=fun s hs h=>by
  refine List.eq_nil_iff_forall_not_mem.2 fun i hi=>?_
  obtain ⟨h1, _⟩:=mem_ready.1 hi
  have hlt:=rin hi
  rw [zxa (by omega), h i hlt] at h1
  cases h1
 intro fuel
 induction fuel with
 | zero=>
  intro s a w hs hc hh
  obtain ⟨h0, h1⟩:=hh
  have ha:=zwo ht' hs h0
  refine ⟨fun h=>?_, fun i hi=>?_⟩
  ·
   have:=rN1 s hs ha
   rw [h] at this; cases this
  ·
   have hi':=hi
   rw [hops] at hi
   have hlt:=rin hi
   simp at hlt
   by_cases hil:i < l.length
   ·
    have:=(zwT ht hs false hil).1 hi
    rw [h0] at this; cases this
   ·
    have e4:i = l.length:=by omega
    subst e4
    exact wpOpIn_mono (fun a w hq=>⟨fin s hs ha, hq⟩) h1
 | succ fuel ih=>
  intro s a w hs hc hh
  obtain ⟨h0, h1⟩:=hh
  refine ⟨fun h=>?_, fun i hi=>?_⟩
  ·
   have hr:Region.ready md l.toArray s = []:=List.eq_nil_iff_forall_not_mem.2 fun i hi=>by
    have:=(zwT (o:=o) ht hs false (rin hi)).2 hi
    rw [← hops, h] at this; cases this
   have:=rN1 s hs (zwo ht' hs hr)
   rw [h] at this; cases this
  ·
   have hi':=hi
   rw [hops] at hi
   have hlt:=rin hi
   simp at hlt
   by_cases hil:i < l.length
   ·
    have hr:i ∈ Region.ready md l.toArray s:=(zwT ht hs false hil).1 hi
    have h2:=h1 i hr
    have e:(s.push false).setIfInBounds i true = (s.setIfInBounds i true).push false:=by
     apply Array.ext_getElem?
     intro j
     by_cases hij:i = j
     ·
      subst hij
      simp only[Array.getElem?_setIfInBounds, hs, hil, Nat.lt_succ_of_lt hil, Array.size_push, if_true]
      rw [Array.getElem?_push_lt (by simpa [hs] using hil)]
      simp
     ·
      rw [Array.getElem?_setIfInBounds_ne hij, Array.getElem?_push, Array.getElem?_push, Array.getElem?_setIfInBounds_ne hij]
      simp
    rw [e]
    refine zA4 hops hil (fun oi j b hoi hg=>?_) (fun a w hk=>ih (s.setIfInBounds i true) a w (by simpa using hs) ?_ hk) h2
    ·
     have e5:l[i] = oi:=by rw [List.getElem?_eq_getElem hil] at hoi; injection hoi
     have h3:=(hto hil).2 j b (by rw [e5]; exact hg)
     omega
    ·
     intro j oj hj hsj e he hb
     by_cases hij:i = j
     ·
      subst hij
      obtain ⟨_, o', ho', h4⟩:=mem_ready.1 hr
      have e5:o' = oj:=by
       simp only[List.getElem?_toArray] at ho'
       rw [ho'] at hj; injection hj
      subst e5
      have h5:=h4 e he hb
      by_cases hie:i = e.on
      ·
       simp only[← hie]; exact hsj
      ·
       simp only[getD_set_ne _ hie]; exact h5
     ·
      simp only[getD_set_ne _ hij] at hsj
      have h5:=hc j oj hj hsj e he hb
      by_cases hie:i = e.on
      ·
       simp only[← hie]
       have hlt:i < s.size:=by omega
       simp [Array.getD_eq_getD_getElem?, hlt]
      ·
       simp only[getD_set_ne _ hie]; exact h5
   ·
    have e4:i = l.length:=by omega
    subst e4
    have ha:=rN2 s hs hc hi'
    have h2:=h0 (allr s hs ha)
    exact wpOpIn_mono (fun a w hq=>⟨fun _=>hq, fun j hj=>by rw [fin s hs ha] at hj; cases hj⟩) h2
end
section
variable {P:Program} {G:Glob} {md:Region.Mode}
def zGA (md:Region.Mode) (l:List Oper) (hows:Nat -> How) (listed:Array Bool) (i:Nat):Bool:=
 (List.range l.length).all fun j=>listed.getD j true || j == i || (clo md l l.length (waits md l j)).contains i || (hows i).free (hows j)
def zGv (md:Region.Mode) (l:List Oper) (hows:Nat -> How):Nat -> Nat -> Array Bool -> Bool
 | 0, _, _=>true
 | fuel + 1, k, listed=>zGA md l hows listed k && zGv md l hows fuel (k + 1) (listed.setIfInBounds k true)
theorem zGC {l:List Oper} {hows:Nat -> How} {listed:Array Bool} {i j:Nat} (h:zGA md l hows listed i = true) (hj:j < l.length) (hji:j ≠ i) (hun:listed.getD j true = false)
  (hno:i ∉ clo md l l.length (waits md l j)):(hows i).free (hows j) = true:=by
 unfold zGA at h
 rw [List.all_eq_true] at h
 have:=h j (List.mem_range.2 hj)
 rw [hun] at this
 simp only[Bool.false_or, Bool.or_eq_true, beq_iff_eq] at this
 rcases this with (h1 | h1) | h1
 ·
  exact absurd h1 hji
 ·
  exact absurd (by simpa using h1) hno
 ·
  exact h1
theorem Closd.set {l:List Oper} {s:Array Bool} (hc:Closd md l (fun i=>s.getD i false)) {i:Nat} (hr:i ∈ Region.ready md l.toArray s):Closd md l (fun j=>(s.setIfInBounds i true).getD j false):=by
 intro j oj hj hsj e he hb
 obtain ⟨h0, o', ho', h4⟩:=mem_ready.1 hr
 by_cases hie:i = e.on
 ·
  simp only[← hie]
  have hlt:i < s.size:=by
   rcases Nat.lt_or_ge i s.size with h | h
   ·
    exact h
   ·
    simp [Array.getD_eq_getD_getElem?, Array.getElem?_eq_none h] at h0
  simp [Array.getD_eq_getD_getElem?, hlt]
 ·
  simp only[getD_set_ne _ hie]
  by_cases hij:i = j
  ·
   subst hij
   have e5:o' = oj:=by
    simp only[List.getElem?_toArray] at ho'
    rw [ho'] at hj; injection hj
   subst e5
   exact h4 e he hb
  ·
   simp only[getD_set_ne _ hij] at hsj
   exact hc j oj hj hsj e he hb
theorem zHa {l:List Oper} {s:Array Bool} (hc:Closd md l (fun i=>s.getD i false)) {i j:Nat} (hi:i ∈ Region.ready md l.toArray s) (hj:j ∈ Region.ready md l.toArray s):i ∉ clo md l l.length (waits md l j):=fun h=>by
 obtain ⟨h0, oi, hoi, _⟩:=mem_ready.1 hi
 obtain ⟨_, oj, hoj, h2⟩:=mem_ready.1 hj
 have h3:=zyP hc l.length (waits md l j) (fun x hx=>by
  unfold waits at hx
  rw [show l[j]? = some oj by simpa using hoj] at hx
  simp only[List.mem_filterMap] at hx
  obtain ⟨e, he, hx⟩:=hx
  split at hx
  ·
   rename_i hb
   injection hx with hx
   exact hx ▸ h2 e (by simpa using he) hb
  ·
   cases hx) i h
 rcases Nat.lt_or_ge i s.size with h' | h'
 ·
  rw [zxa h', h3] at h0; cases h0
 ·
  simp [Array.getD_eq_getD_getElem?, Array.getElem?_eq_none h'] at h3
theorem zGB {l:List Oper} {C:List PO -> Prop} {hows:Nat -> How} {Q:(Nat -> EV) -> List PO -> Prop} {i:Nat} {oi:Oper} {v:EV} (hi:l.toArray[i]? = some oi):
  ∀ (fuel:Nat) (listed:Array Bool) (fr:Nat -> EV) (mem m1:List PO), C mem -> Closd md l (fun i=>listed.getD i false) ->
   (∀ (j:Nat) (oj:Oper), l.toArray[j]? = some oj -> j ≠ i -> listed.getD j true = false -> (∀ e ∈ oj.after, Region.binds md e = true -> e.on ≠ i) -> i ∉ clo md l l.length (waits md l j) -> oi.apart l.toArray oj = true /\ (hows i).free (hows j) = true) ->
   i ∈ Region.ready md l.toArray listed -> StepA P G l.toArray C oi fr mem v m1 (hows i) ->
   zeS P G md l.toArray C hows Q fuel (listed.setIfInBounds i true) (jr fr oi.dst v) m1 -> zeS P G md l.toArray C hows Q (fuel + 1) listed fr mem:=by
 intro fuel
 induction fuel with
 | zero=>
  intro listed fr mem m1 hC hcl _ hr hy H
  refine ⟨fun h=>(by rw [h] at hr; cases hr), fun j hj=>?_⟩
  by_cases hji:j = i
  ·
   subst hji
   unfold zoI
   simp only[hi]
   exact ⟨v, m1, hy, H⟩
  ·
   have:=ready_mono hj hji
   rw [H.1] at this
   cases this
 | succ fuel ih=>
  intro listed fr mem m1 hC hcl hfree hr hy H
  refine ⟨fun h=>(by rw [h] at hr; cases hr), fun j hj=>?_⟩
  by_cases hji:j = i
  ·
   subst hji
   unfold zoI
   simp only[hi]
   exact ⟨v, m1, hy, H⟩
  ·
   have h1:=H.2 j (ready_mono hj hji)
   obtain ⟨hjun, oj, hoj, hall⟩:=mem_ready.1 hj
   have hnot:∀ e ∈ oj.after, Region.binds md e = true -> e.on ≠ i:=fun e he hb heq=>by
    have h1:=hall e he hb
    have h0:=(mem_ready.1 hr).1
    rw [heq] at h1
    rcases Nat.lt_or_ge i listed.size with h' | h'
    ·
     simp [h'] at h0 h1; rw [h0] at h1; cases h1
    ·
     simp [Array.getElem?_eq_none h'] at h1
   obtain ⟨hap, hfr⟩:=hfree j oj hoj hji hjun hnot (zHa hcl hr hj)
   obtain ⟨a1, a2, a3⟩:=Oper.apart_spec hap
   have hfree':∀ (k:Nat) (ok:Oper), l.toArray[k]? = some ok -> k ≠ i -> (listed.setIfInBounds j true).getD k true = false ->
     (∀ e ∈ ok.after, Region.binds md e = true -> e.on ≠ i) -> i ∉ clo md l l.length (waits md l k) -> oi.apart l.toArray ok = true /\ (hows i).free (hows k) = true:=fun k ok hk hki hun hno hna=>by
    refine hfree k ok hk hki ?_ hno hna
    by_cases hjk:j = k
    ·
     subst hjk; exact hjun
    ·
     rw [getD_set_ne true hjk] at hun; exact hun
   unfold zoI at h1 ⊢
   simp only[hoj] at h1 ⊢
   obtain ⟨u, m2, hs, hK⟩:=h1
   have hs0:=hs.un_set a1
   obtain ⟨m1', b1, b2, b3⟩:=StepA.swap hfr hC hy hs0
   refine ⟨u, m1', b1, ih (listed.setIfInBounds j true) _ m1' m2 b3 (hcl.set hj) hfree' (ready_mono hr (Ne.symm hji)) (b2.of_set a3) ?_⟩
   rw [Array.setIfInBounds_comm _ _ hji, ← zdT fr v u a2]
   exact hK
theorem zGw {L:List Oper} {C:List PO -> Prop} {hows:Nat -> How} {Q:(Nat -> EV) -> List PO -> Prop}:∀ (l:List Oper) (k:Nat) (listed:Array Bool) (fr:Nat -> EV) (mem:List PO), C mem -> Closd md L (fun i=>listed.getD i false) -> (∀ (j:Nat), l[j]? = L.toArray[k + j]?) ->
  Region.lexFrom md L.toArray l.length k listed = true -> zGv md L hows l.length k listed = true -> zal P G L.toArray C hows Q k l fr mem -> zeS P G md L.toArray C hows Q l.length listed fr mem
 | [], _, _, _, _, _, _, _, hB, _, h=>⟨by simpa [Region.lexFrom] using hB, h⟩
 | o :: l, k, listed, fr, mem, hC, hcl, hl, hB, hM, h=>by
  have h0:L.toArray[k]? = some o:=by simpa using (hl 0).symm
  simp only[List.length_cons, Region.lexFrom, zLa] at hB
  simp only[List.length_cons, zGv, zLa] at hM
  obtain ⟨⟨hr, hf⟩, hB'⟩:=hB
  obtain ⟨hm, hM'⟩:=hM
  simp only[zal] at h
  obtain ⟨e, m1, hs, hK⟩:=h
  have hr':k ∈ Region.ready md L.toArray listed:=by simpa using hr
  exact zGB h0 l.length listed fr mem m1 hC hcl (fun j oj hj hji hun hno hna=>⟨Region.free_spec h0 hf j oj hj hji hun hno, zGC hm (by have:=(Array.getElem?_eq_some_iff.1 hj).1; simpa using this) hji hun hna⟩) hr' hs
   (zGw l (k + 1) _ _ m1 (hs.inC hC) (hcl.set hr') (fun j=>by have:=hl (j + 1); simpa [Nat.add_assoc, Nat.add_comm 1 j] using this) hB' hM' hK)
theorem zxx (l:List Oper) (N:Nat):Closd md l (fun i=>(Array.replicate N false).getD i false):=fun i oi _ hsi=>by
 simp only[Array.getD_eq_getD_getElem?, Array.getElem?_replicate] at hsi
 split at hsi <;> cases hsi
end
section
variable {P:Program} {G:Glob} {st:ASt}
theorem zMm {α:Type} {l:List α} {N:Nat} {o:α} (h:l.drop N = [o]):l = l.take N ++ [o] /\ (l.take N).length = N:=by
 have h1:l.take N ++ l.drop N = l:=List.take_append_drop N l
 rw [h] at h1
 refine ⟨h1.symm, ?_⟩
 have h2:=congrArg List.length h
 rw [List.length_drop, List.length_singleton] at h2
 rw [List.length_take]; omega
theorem zRT {r:Option Nat} {id:Nat} {L:List Oper} {o:Oper} {Q:Exit -> ASt -> Prop} (N k:Nat) (hL:L.drop N = [o]) (C:List PO -> Prop) (hows:Nat -> How) (hm:P.follows .mixedOrders = true) (hl:lastB .any (L.take N) o k = true)
  (hB:Region.lexB .any (L.take N).toArray = true) (hn:yt (L.take N).toArray st.n = true) (hM:zGv .any (L.take N) hows (L.take N).length 0 (Array.replicate (L.take N).length false) = true) (hC:C st.mem)
  (h:zal P G (L.take N).toArray C hows (fun fr mem=>yH (r:=r) P G [o].toArray [o] ⟨st.n, fr, mem⟩ Q) 0 (L.take N) st.fr st.mem):wL (r:=r) P G (.region id L.toArray true) st Q:=by
 obtain ⟨e1, e2⟩:=zMm hL
 generalize L.take N = l at *
 subst e1
 intro w0 ok0 a w hG hok hs
 have hgo:o.guard = none:=by
  simp only[lastB, zLa] at hl
  exact Option.isNone_iff_eq_none.1 hl.1.2
 simp only[Region.lexB, zLa] at hB
 refine wpIn_region_any hm ?_
 have hs':Sit w0 ok0 st a { w with drawn:=w.drawn + 1 }:=by
  obtain ⟨h0, h1, h2, ok, bs, h3, h4, h5, h6⟩:=hs
  have hb:Below w.heap.size w w.drew:=(Below.refl _ _).drew
  refine ⟨h0, h1.keep (.of_below hb), yf h2 h2.size hb, okN ok w w.drew, bs, fun b hb=>.inl (h3 b hb), fun b hb=>?_, h5.grow hb, h6.map fun _ _ h=>h.grow h5.lt hb⟩
  rcases hb with hb | hb
  ·
   exact h4 b hb
  ·
   exact .inr (Nat.le_trans h2.size hb.1)
 have hsz:(l ++ [o]).toArray.size = l.length + 1:=by simp
 rw [hsz, show Array.replicate (l.length + 1) false = (Array.replicate l.length false).push false by rw [Array.replicate_succ]]
 refine zyG hl rfl l.length (Array.replicate l.length false) a _ (by simp) (zxx l _) ?_
 refine yE (G:=G) (C:=C) (hows:=hows) (n:=st.n) (Q:=fun fr mem=>yH (r:=r) P G [o].toArray [o] ⟨st.n, fr, mem⟩ Q) hG hok hn (fun fr mem a w hs hq=>?_) _ _ st.fr st.mem a _ hC hs' ?_
 ·
  have h1:=hq w0 ok0 a w hG hok hs
  show wpOpIn _ _ _ _ _ _ _ _ _
  unfold wpOpIn
  rw [show (l ++ [o]).toArray[l.length]? = some o by simp]
  simp only[wpListIn] at h1
  rw [if_pos (by simp [Region.wanted, hgo])] at h1
  simp only
  rw [if_pos (by simp [Region.wanted, hgo])]
  exact h1
 ·
  have hB2:Region.lexFrom .any l.toArray l.length 0 (Array.replicate l.length false) = true:=by simpa using hB.2
  exact zGw (md:=.any) (hows:=hows) l 0 (Array.replicate l.length false) st.fr st.mem hC (zxx l _) (by simp) hB2 hM h
end
end Go.Av
end
section
namespace Go.Av
open Go.RowKit Go.Proofs
section
variable {P:Program} {G:Glob} {st:ASt} {o:Oper}
end
theorem zKZ {P:Program} {G:Glob} {f:FuncId} {fn:Func} {c:Code} {args:List EV} {mem:List PO} {out:MOut} (hf:P.funcs[f]? = some fn) (hb:fn.body = some c) (hnm:(fn.name == "runtime.NumGoroutine") = false) (hlen':Nat.ble args.length fn.ntmps = true)
  (h:∀ gh hold, (∀ p ∈ gh, p.1.lt mem.length) -> wL (r:=none) P G c ⟨⟨fn.ntmps, [], gh, false, hold⟩, frE args, mem⟩ (zsw P fn gh hold mem.length out)):zjj P G f args mem out:=
 zow hf hb hnm hlen' fun gh hold w0 ok0 a w hG hok hs=>h gh hold (fun p hp=>by
  obtain ⟨_, _, _, ok, bs, _, _, h5, h6⟩:=hs
  have:=zfs (h6.2 p hp)
  rwa [h5.len] at this) w0 ok0 a w hG hok hs
theorem zJG {n:NS} {l:List (Nat × EV)} {mem:List PO} (k:Nat) (hl:zfa k l) (hm:zdA k (mem.take k)) (hgh:∀ p ∈ n.gh, p.1.lt k):Weak ⟨n, frL l, mem⟩ ⟨n, frL l, mem.take k⟩:=
 zeO k (zdb hl) (fun i rows hi h r hr x hx=>by
  have:=xw hm (i:=i) (o:=.row rows) (by rw [List.getElem?_take, if_pos hi]; exact h)
  exact this r hr x hx) hgh (fun i es hi h=>xw hm (i:=i) (o:=.map es) (by rw [List.getElem?_take, if_pos hi]; exact h))
end Go.Av
end
section
namespace Go.Av
open Go.RowKit
theorem zvh {P:Program} {b:Frame} {a:Act} {k:List Item} {cs:List Frame} {w:World} {c:Code}:_root_.Go.step P (lone (b.atR a (.code (.scope c) :: k)) cs w) = .next (lone (b.atR a (.code c :: .inScope c :: k)) cs w):=
 step_lone_go (by simp [stepG, stepG.exec, Frame.atR])
theorem zxN {P:Program} {b:Frame} {a:Act} {k:List Item} {cs:List Frame} {w:World} {c:Code}:_root_.Go.step P (lone (b.atR a (.inScope c :: k)) cs w) = .next (lone (b.atR a k) cs w):=
 step_lone_go (by simp [stepG, stepG.exec, Frame.atR])
theorem zwi {F:Fence} {n:Nat} {P:Program} {Q:Exit -> Act -> World -> Prop} {a:Act} {w:World} {c:Code} (h:c.wpIn F n P (Exit.noGoto Q) a w):(Code.scope c).wpIn F n P Q a w:=by
 intro b k cs hro hb hr
 have h0:(lone (b.atR a (.code (.scope c) :: k)) cs w).fenced P F:=fenced_calm hb hr rfl
 obtain ⟨e, a₁, w₁, hq, harr⟩:=h b (.inScope c :: k) cs hro hb hr
 cases e with
 | normal=>exact ⟨.normal, a₁, w₁, hq, .head h0 zvh (StepsIn.trans harr (.one (fenced_calm hb hr rfl) zxN))⟩
 | exit id=>
  have hx:exitTo id (.inScope c :: k) = exitTo id k:=by simp [exitTo]
  exact ⟨.exit id, a₁, w₁, hq, fun k' hk=>.head h0 zvh (harr.1 k' (by rw [hx]; exact hk)),
   fun hr' hk=>let ⟨k₁, h1, h2⟩:=harr.2 hr' (by rw [hx]; exact hk); ⟨k₁, h1, .head h0 zvh h2⟩⟩
 | goto l=>exact hq.elim
 | ret=>exact ⟨_, a₁, w₁, hq, .of_steps (.one h0 zvh) harr⟩
 | panic ch=>exact ⟨_, a₁, w₁, hq, .of_steps (.one h0 zvh) harr⟩
 | outgrown=>exact ⟨_, a₁, w₁, hq, .of_steps (.one h0 zvh) harr⟩
section
variable {r:Option Nat} {P:Program} {G:Glob} {st:ASt} {Q:Exit -> ASt -> Prop}
def zCf (Q:Exit -> ASt -> Prop):Exit -> ASt -> Prop
 | .goto _, _=>False
 | e, s=>Q e s
theorem zwM (h:Q .ret st):zCf Q .ret st:=h
theorem zvQ {c:Code} (h:wL (r:=r) P G c st (zCf Q)):wL (r:=r) P G (.scope c) st Q:=fun w0 ok0 a w hG hok hs=>
 zwi (wpIn_mono (h w0 ok0 a w hG hok hs) fun e a w ⟨s, hs, hq⟩=>by
  cases e <;> first | exact ⟨s, hs, hq⟩ | exact hq.elim)
theorem wo {ops:Array Oper} {l:List Oper} {st':ASt} (hw:Weak st st') (h:yH (r:=r) P G ops l st' Q):yH (r:=r) P G ops l st Q:=fun w0 ok0 a w hG hok hs=>h w0 ok0 a w hG hok (hw w0 ok0 a w hs)
end
end Go.Av
end
section
namespace Go.Av
open Go.RowKit
section
variable {P:Program} {G:Glob} {st:ASt}
theorem zGz {r:Option Nat} {id:Nat} {l:List Oper} {Q:Exit -> ASt -> Prop} (C:List PO -> Prop) (hows:Nat -> How) (hm:P.follows .mixedOrders = true) (hB:Region.lexB .any l.toArray = true) (hn:yt l.toArray st.n = true)
  (hM:zGv .any l hows l.length 0 (Array.replicate l.length false) = true) (hC:C st.mem)
  (h:zal P G l.toArray C hows (fun fr mem=>Q .normal ⟨st.n, fr, mem⟩) 0 l st.fr st.mem):wL (r:=r) P G (.region id l.toArray true) st Q:=by
 intro w0 ok0 a w hG hok hs
 simp only[Region.lexB, zLa] at hB
 refine wpIn_region_any hm ?_
 have hs':Sit w0 ok0 st a { w with drawn:=w.drawn + 1 }:=by
  obtain ⟨h0, h1, h2, ok, bs, h3, h4, h5, h6⟩:=hs
  have hb:Below w.heap.size w w.drew:=(Below.refl _ _).drew
  refine ⟨h0, h1.keep (.of_below hb), yf h2 h2.size hb, okN ok w w.drew, bs, fun b hb=>.inl (h3 b hb), fun b hb=>?_, h5.grow hb, h6.map fun _ _ h=>h.grow h5.lt hb⟩
  rcases hb with hb | hb
  ·
   exact h4 b hb
  ·
   exact .inr (Nat.le_trans h2.size hb.1)
 refine yE (G:=G) (C:=C) (hows:=hows) (n:=st.n) (Q:=fun fr mem=>Q .normal ⟨st.n, fr, mem⟩) hG hok hn (fun fr mem a w hs hq=>⟨_, hs, hq⟩) _ _ st.fr st.mem a _ hC hs' ?_
 have hB2:Region.lexFrom .any l.toArray l.length 0 (Array.replicate l.length false) = true:=by simpa using hB.2
 have:=zGw (md:=.any) (hows:=hows) l 0 (Array.replicate l.length false) st.fr st.mem hC (zxx l _) (by simp) hB2 hM h
 simpa using this
end
end Go.Av
end
