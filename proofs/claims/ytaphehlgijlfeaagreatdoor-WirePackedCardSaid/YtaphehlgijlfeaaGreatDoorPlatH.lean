
import Derived.Test.YtaphehlgijlfeaaGreatDoorPlatG
set_option linter.unusedVariables false
set_option linter.unusedSimpArgs false
section
namespace Go.Av
open Go.RowKit
def kV {α : Type} [DecidableEq α] (a : α) : List α -> Option Nat
 | [] => none
 | b :: t => if b = a then some 0 else (kV a t).map (· + 1)
structure KeyT (P : Program) (kt : TypeId) {α : Type} [DecidableEq α] (enc : α -> Value) : Prop where
 check : ∀ (b : Bool) (a : α) (w : World), (Instr.checkKey b 10000 kt (enc a)).run P w = .ok () w
 find : ∀ (a : α) (l : List MapEntry) (as : List α) (w : World), l.map (·.key) = as.map enc -> (Instr.findKey kt (enc a) l).run P w = .ok ((kV a as).bind fun j => (l[j]?).map fun e => (j, e.val)) w
 bits : ∀ a : α, Instr.sameBits 10000 (enc a) (enc a) = true
section
variable {α : Type} [DecidableEq α]
theorem zg5 {a : α} : ∀ {l : List α} {j : Nat}, kV a l = some j -> l[j]? = some a
 | [], j, h => by simp [kV] at h
 | b :: t, j, h => by
  simp only [kV] at h
  split at h
  ·
   rename_i e; injection h with h; subst h; subst e; rfl
  ·
   rw [Option.map_eq_some_iff] at h
   obtain ⟨i, hi, rfl⟩ := h
   simpa using zg5 hi
theorem zwp {kind : TypeDesc} {enc : α -> Value} (hs : ∀ a b, Instr.sameNow kind (enc a) (enc b) = some (decide (b = a))) (a : α) : ∀ (l : List MapEntry) (as : List α) (i : Nat), l.map (·.key) = as.map enc ->
  Instr.findNow kind (enc a) l i = some ((kV a as).bind fun j => (l[j]?).map fun e => (i + j, e.val))
 | [], [], i, _ => rfl
 | [], _ :: _, i, h => by simp at h
 | _ :: _, [], i, h => by simp at h
 | e :: l, b :: as, i, h => by
  simp only [List.map_cons, List.cons.injEq] at h
  simp only [Instr.findNow, h.1, hs, kV]
  by_cases hb : b = a
  ·
   simp [hb]
  ·
   rw [decide_eq_false hb, if_neg hb]
   simp only
   rw [zwp hs a l as (i + 1) h.2]
   congr 1
   cases kV a as with
   | none => rfl
   | some j =>
    simp only [Option.map_some, Option.bind_some, List.getElem?_cons_succ]
    cases l[j]? with
    | none => rfl
    | some e' => simp; omega
theorem zzK {P : Program} {kt : TypeId} {kind : TypeDesc} {enc : α -> Value} (hu : P.underlying kt = some kind) (hs : ∀ a b, Instr.sameNow kind (enc a) (enc b) = some (decide (b = a)))
  (hc : ∀ (b : Bool) (a : α) (w : World), (Instr.checkKey b 10000 kt (enc a)).run P w = .ok () w) (hb : ∀ a : α, Instr.sameBits 10000 (enc a) (enc a) = true) : KeyT P kt enc :=
 ⟨hc, fun a l as w h => by
  have := zwp hs a l as 0 h
  simp only [Nat.zero_add] at this
  simp [Instr.findKey, run_underlying hu, this], hb⟩
theorem zxZ {P : Program} {kt : TypeId} {d : TypeDesc} (hu : P.underlying kt = some d) (v : Value) (hd : (match d with | .interface _ => false | .array .. => false | .struct _ => false | _ => true) = true) (b : Bool) (w : World) : (Instr.checkKey b 10000 kt v).run P w = .ok () w := by
 rw [show (10000 : Nat) = 9999 + 1 from rfl]
 unfold Instr.checkKey
 simp only [Sem.run_bind, run_underlying hu, Result.andThen_ok]
 cases d <;> first | (simp at hd; done) | (cases v <;> rfl)
theorem bytes_beq (a b : List UInt8) : ((⟨a.toArray⟩ : ByteArray) == ⟨b.toArray⟩) = (a == b) := by
 show (a.toArray == b.toArray) = (a == b)
 simp
theorem zvO {P : Program} {kt : TypeId} (hu : P.underlying kt = some .string) : KeyT P kt (fun l : List UInt8 => Value.string ⟨l.toArray⟩) :=
 zzK hu (fun a b => by
   simp only [Instr.sameNow, bytes_beq]
   congr 1
   rw [Bool.eq_iff_iff]
   simp only [beq_iff_eq, decide_eq_true_eq]
   exact eq_comm) (fun b a w => zxZ hu _ rfl b w) (fun a => by show ((⟨a.toArray⟩ : ByteArray) == ⟨a.toArray⟩) = true; rw [bytes_beq]; simp)
def wM {β : Type} (a : α) (d : β) : List (α × β) -> β
 | [] => d
 | (b, x) :: t => if b = a then x else wM a d t
def znX {β : Type} (a : α) : List (α × β) -> Bool
 | [] => false
 | (b, _) :: t => if b = a then true else znX a t
def yh {β : Type} (a : α) (x : β) : List (α × β) -> List (α × β)
 | [] => [(a, x)]
 | (b, y) :: t => if b = a then (a, x) :: t else (b, y) :: yh a x t
def zlS (enc : α -> Value) (es : List (α × EV)) : PO := .map (es.map fun p => (enc p.1, p.2))
theorem zhh {β : Type} (a : α) (d : β) : ∀ (es : List (α × β)), (kV a (es.map (·.1)) = none -> wM a d es = d /\ znX a es = false) /\ ∀ j, kV a (es.map (·.1)) = some j -> ∃ x, es[j]? = some (a, x) /\ wM a d es = x /\ znX a es = true
 | [] => by simp [kV, wM, znX]
 | (b, y) :: t => by
  obtain ⟨h1, h2⟩ := zhh a d t
  simp only [List.map_cons, kV, wM, znX]
  by_cases hb : b = a
  ·
   subst hb; simp
  ·
   simp only [if_neg hb, Option.map_eq_none_iff, Option.map_eq_some_iff]
   refine ⟨h1, fun j ⟨i, hi, e⟩ => ?_⟩
   subst e
   simpa using h2 i hi
theorem zep {β : Type} (a : α) (x : β) : ∀ (es : List (α × β)), (kV a (es.map (·.1)) = none -> yh a x es = es ++ [(a, x)]) /\ ∀ j, kV a (es.map (·.1)) = some j -> yh a x es = es.set j (a, x)
 | [] => by simp [kV, yh]
 | (b, y) :: t => by
  obtain ⟨h1, h2⟩ := zep a x t
  simp only [List.map_cons, kV, yh]
  by_cases hb : b = a
  ·
   subst hb; simp
  ·
   simp only [if_neg hb, Option.map_eq_none_iff, Option.map_eq_some_iff]
   refine ⟨fun h => by rw [h1 h]; rfl, fun j ⟨i, hi, e⟩ => ?_⟩
   subst e
   rw [h2 i hi]; rfl
end
def znQ (x : AV) (v : Value) : Prop := ∀ (ok : Nat -> Prop) (w : World) (u : Value), Fits ok w x u -> u = v
theorem zw0 {x : Value} : znQ (.v x) x := fun ok w u h => by simp only [Fits] at h; exact h.1
section
variable {P : Program} {G : Glob} {fr : Nat -> EV} {mem : List PO} {o : Oper} {st : ASt} {α : Type} {enc : α -> Value}
theorem zkb {B : Nat} {ok : Nat -> Prop} {w : World} {bs : List PB} {l : Nat} {es : List (α × EV)} {u : Value} (hmo : MemOK B ok w bs mem) (h : FitsE ok w bs mem (.mpv l) u) (hm : mem[l]? = some (zlS enc es)) :
  ∃ b g arr, bs[l]? = some b /\ b.blk = some g /\ u = .map (some g) /\ w.heap[g]? = some (.map arr es.length) /\ arr.toList.map (·.key) = (es.map (·.1)).map enc /\ arr.size = es.length /\
   ∀ (i : Nat) (k : α) (x : EV), es[i]? = some (k, x) -> ∃ v, arr[i]? = some ⟨enc k, v, i⟩ /\ FitsE ok w bs mem x v := by
 simp only [FitsE] at h
 obtain ⟨b, hb, h⟩ := h
 obtain ⟨g, hg, hu⟩ := h _ hm
 obtain ⟨g', arr, h1, h2, h3, h4⟩ := hmo.mp l b _ hb hm
 rw [hg] at h1; injection h1 with h1; subst h1
 have h5 : ∀ (i : Nat) (k : α) (x : EV), es[i]? = some (k, x) -> ∃ v, arr[i]? = some ⟨enc k, v, i⟩ /\ FitsE ok w bs mem x v := fun i k x hx => h4 i (enc k) x (by rw [List.getElem?_map, hx]; rfl)
 refine ⟨b, g, arr, hb, hg, hu, by simpa using h2, ?_, by simpa using h3, h5⟩
 have hlen : arr.size = es.length := by simpa using h3
 apply List.ext_getElem?
 intro i
 rw [List.map_map, List.getElem?_map, List.getElem?_map]
 by_cases hi : i < es.length
 ·
  obtain ⟨v, h6, _⟩ := h5 i es[i].1 es[i].2 (List.getElem?_eq_getElem hi)
  rw [Array.getElem?_toList, h6, List.getElem?_eq_getElem hi]; rfl
 ·
  rw [List.getElem?_eq_none (by simpa using by omega), List.getElem?_eq_none (by omega)]; rfl
variable [DecidableEq α]
theorem zjr {kt : TypeId} (hK : KeyT P kt enc) {arr : Array MapEntry} {es : List (α × EV)} (hk : arr.toList.map (·.key) = (es.map (·.1)).map enc) (a : α) (w : World) :
  (Instr.findKey kt (enc a) arr.toList).run P w = .ok ((kV a (es.map (·.1))).bind fun j => (arr.toList[j]?).map fun e => (j, e.val)) w := hK.find a _ _ w hk
theorem zdD {T kt et : TypeId} {x i : Operand} {l : Nat} {es : List (α × EV)} {a : α} {kx : AV} {z : Value} (ho : o.op = .lookup T x i false) (hx : evO fr x = .mpv l) (hm : mem[l]? = some (zlS enc es)) (hi : evO fr i = .pub kx) (hk : znQ kx (enc a))
  (hT : P.underlying T = some (.map kt et)) (hK : KeyT P kt enc) (hz : (P.info? et).bind (·.zero) = some z) : OpY P G fr mem o (wM a (.pub (ofV z)) es) :=
 jI fun ok bs w act _ hmo hf => by
  obtain ⟨B, hmo⟩ := hmo
  have h1 := hf x (by simp [ho, Op.operands])
  rw [hx] at h1
  obtain ⟨b, g, arr, _, _, hu, hg, hkeys, hlen, hent⟩ := zkb hmo h1 hm
  have h2 := hf i (by simp [ho, Op.operands])
  rw [hi] at h2
  simp only [FitsE] at h2
  have hkv := hk _ _ _ h2
  have hobj : (getObj g).run P w = .ok (.map arr es.length) w := by simp [getObj, Sem.run, hg]
  have hfind := zjr hK hkeys a w
  obtain ⟨g1, g2⟩ := zhh a (EV.pub (ofV z)) es
  cases hix : kV a (es.map (·.1)) with
  | none =>
   rw [hix] at hfind
   have hzv : (zeroValue et).run P w = .ok z w := by
    rw [Option.bind_eq_some_iff] at hz
    obtain ⟨inf, hi1, hi2⟩ := hz
    simp [zeroValue, typeInfo, hi1, hi2]
   refine ⟨z, ?_, by rw [(g1 hix).1]; simp only [FitsE]; exact ziX z⟩
   simp only [execOp, ho, Instr.lookup, Sem.run_bind, run_underlying hT, Result.andThen_ok, hu, hobj, hkv, hK.check, hfind, Option.bind_none, hzv, Sem.run_pure]
   simp
  | some j =>
   rw [hix] at hfind
   obtain ⟨y, hy, hget, _⟩ := g2 j hix
   obtain ⟨v, hv, hfv⟩ := hent j a y hy
   have hvl : arr.toList[j]? = some ⟨enc a, v, j⟩ := by rw [Array.getElem?_toList]; exact hv
   refine ⟨v, ?_, by rw [hget]; exact hfv⟩
   simp only [execOp, ho, Instr.lookup, Sem.run_bind, run_underlying hT, Result.andThen_ok, hu, hobj, hkv, hK.check, hfind, Option.bind_some, hvl, Option.map_some, Sem.run_pure]
   simp
theorem zxU {T kt et : TypeId} {x i : Operand} {l : Nat} {es : List (α × AV)} {a : α} {kx : AV} {z : Value} (ho : o.op = .lookup T x i true) (hx : evO fr x = .mpv l) (hm : mem[l]? = some (zlS enc (es.map fun p => (p.1, .pub p.2)))) (hi : evO fr i = .pub kx) (hk : znQ kx (enc a))
  (hT : P.underlying T = some (.map kt et)) (hK : KeyT P kt enc) (hz : (P.info? et).bind (·.zero) = some z) : OpY P G fr mem o (.pub (.tup [wM a (ofV z) es, .v (.bool (znX a es))])) :=
 jI fun ok bs w act _ hmo hf => by
  obtain ⟨B, hmo⟩ := hmo
  have h1 := hf x (by simp [ho, Op.operands])
  rw [hx] at h1
  obtain ⟨b, g, arr, _, _, hu, hg, hkeys, hlen, hent⟩ := zkb hmo h1 hm
  have h2 := hf i (by simp [ho, Op.operands])
  rw [hi] at h2
  simp only [FitsE] at h2
  have hkv := hk _ _ _ h2
  have hobj : (getObj g).run P w = .ok (.map arr (es.map fun p => (p.1, EV.pub p.2)).length) w := by simp [getObj, Sem.run, hg]
  have hfind := zjr hK hkeys a w
  have hmm : (es.map fun p => (p.1, EV.pub p.2)).map (·.1) = es.map (·.1) := by simp [Function.comp_def]
  rw [hmm] at hfind
  obtain ⟨g1, g2⟩ := zhh a (ofV z) es
  cases hix : kV a (es.map (·.1)) with
  | none =>
   rw [hix] at hfind
   have hzv : (zeroValue et).run P w = .ok z w := by
    rw [Option.bind_eq_some_iff] at hz
    obtain ⟨inf, hi1, hi2⟩ := hz
    simp [zeroValue, typeInfo, hi1, hi2]
   refine ⟨.tuple #[z, .bool false], ?_, ?_⟩
   ·
    simp only [execOp, ho, Instr.lookup, Sem.run_bind, run_underlying hT, Result.andThen_ok, hu, hobj, hkv, hK.check, hfind, Option.bind_none, hzv, Sem.run_pure]
    simp
   ·
    rw [(g1 hix).1, (g1 hix).2]
    simp only [FitsE, Fits]
    exact ⟨[z, .bool false], rfl, by simp only [FitsL, Fits]; exact ⟨_, _, rfl, ziX z, _, _, rfl, ⟨rfl, rfl⟩, rfl⟩⟩
  | some j =>
   rw [hix] at hfind
   obtain ⟨y, hy, hget, hhas⟩ := g2 j hix
   obtain ⟨v, hv, hfv⟩ := hent j a (.pub y) (by rw [List.getElem?_map, hy]; rfl)
   have hvl : arr.toList[j]? = some ⟨enc a, v, j⟩ := by rw [Array.getElem?_toList]; exact hv
   refine ⟨.tuple #[v, .bool true], ?_, ?_⟩
   ·
    simp only [execOp, ho, Instr.lookup, Sem.run_bind, run_underlying hT, Result.andThen_ok, hu, hobj, hkv, hK.check, hfind, Option.bind_some, hvl, Option.map_some, Sem.run_pure]
    simp
   ·
    rw [hget, hhas]
    simp only [FitsE] at hfv
    simp only [FitsE, Fits]
    exact ⟨[v, .bool true], rfl, by simp only [FitsL, Fits]; exact ⟨_, _, rfl, hfv, _, _, rfl, ⟨rfl, rfl⟩, rfl⟩⟩
theorem Sit.pushO {w0 : World} {ok0 : Nat -> Prop} {k : NS} {fr : Nat -> EV} {mem : List PO} {a : Act} {w w' : World} {ok : Nat -> Prop} {bs : List PB} {e : EV} {u : Value} {dst : Option Tmp} {b : PB} {o : PO}
  (h0 : a.tmps.size = k.n) (h1 : Nod w0 w a k) (h2 : Below w0.heap.size w0 w)
  (h3 : ∀ b, ok0 b -> ok b) (h4 : ∀ b, ok b -> ok0 b ∨ w0.heap.size <= b) (h5 : MemOK w0.heap.size ok w bs mem) (h6 : Slots ok w bs mem k fr a)
  (hw : Below w.heap.size w w') (hrow : ∀ rows, o = .row rows -> PRow ok w' (bs ++ [b]) (mem ++ [o]) b rows) (hmap : ∀ es, o = .map es -> zpL ok w' (bs ++ [b]) (mem ++ [o]) b es) (hnew : ∀ g, b.blk = some g -> w.heap.size <= g)
  (he : FitsE ok w' (bs ++ [b]) (mem ++ [o]) e u) (hd : DOK dst k) : Sit w0 ok0 ⟨k, jr fr dst e, mem ++ [o]⟩ (a.put dst u) w' := by
 refine ⟨(size_put ..).trans h0, h1.put (.of_below hw) hd, yf h2 h2.size hw, ok, bs ++ [b], h3, h4, h5.pushO hw h2.size hrow hmap hnew, ?_⟩
 exact wX (h6.map fun _ _ h => h.mono (fun _ hb => hb) (fun b hb => hw.block b (h5.lt b hb)) (Turn.push h5.len b _)) he (fun d e => by rw [h0]; exact (hd d e).1)
theorem zlZ {T : TypeId} (ho : o.op = .makeMap T none) (hd : vC o st.n = true) : OpM P G st o ⟨st.n, jr st.fr o.dst (.mpv st.mem.length), st.mem ++ [.map []]⟩ := by
 intro w0 ok0 a w hG hok hsit K Q hK
 obtain ⟨h0, h1, h2, ok, bs, h3, h4, h5, h6⟩ := hsit
 have hrun : (execOp a.eval o).run P w = .ok (.value (.map (some w.heap.size))) (w.alloc (.map #[] 0)) := by simp [execOp, ho, Instr.makeMap, newObj, Sem.run]
 refine jT hrun (hK _ _ (Sit.pushO (b := ⟨some w.heap.size, 0, 0, 0⟩) h0 h1 h2 h3 h4 h5 h6 (below_alloc ..) (fun rows e => by cases e) (fun es e => ?_) (fun g hg => by simp at hg; omega) ?_ (qM hd)))
 ·
  injection e with e
  subst e
  exact ⟨w.heap.size, #[], rfl, heap_alloc_new w _, rfl, by simp⟩
 ·
  simp only [FitsE]
  refine ⟨⟨some w.heap.size, 0, 0, 0⟩, by rw [← h5.len]; simp, fun es hes => ⟨w.heap.size, rfl, rfl⟩⟩
theorem zwa {T kt et : TypeId} {x i y : Operand} {l : Nat} {es : List (α × EV)} {a : α} {kx : AV} {v : EV} (ho : o.op = .mapUpdate T x i y ∨ o.op = .insert T x i y) (hd : o.dst = none) (hx : evO st.fr x = .mpv l) (hm : st.mem[l]? = some (zlS enc es)) (hi : evO st.fr i = .pub kx) (hk : znQ kx (enc a))
  (hT : P.underlying T = some (.map kt et)) (hK : KeyT P kt enc) (hv : evO st.fr y = v) : OpM P G st o ⟨st.n, st.fr, st.mem.set l (zlS enc (yh a v es))⟩ := by
 intro w0 ok0 act w hG hok hsit K Q hKK
 obtain ⟨h0, h1, h2, ok, bs, h3, h4, h5, h6⟩ := hsit
 have ex := jd (fr := st.fr) (a := act) (x := x) fun t _ => h6.1 t
 rw [hx] at ex
 obtain ⟨b, g, arr, hb, hbg, hu, hg, hkeys, hlen, hent⟩ := zkb h5 ex hm
 have ei := jd (fr := st.fr) (a := act) (x := i) fun t _ => h6.1 t
 rw [hi] at ei
 simp only [FitsE] at ei
 have hkv := hk _ _ _ ei
 have ey := jd (fr := st.fr) (a := act) (x := y) fun t _ => h6.1 t
 rw [hv] at ey
 have hobj : (getObj g).run P w = .ok (.map arr es.length) w := by simp [getObj, Sem.run, hg]
 have hfind := zjr hK hkeys a w
 have hlt := (Array.getElem?_eq_some_iff.1 hg).1
 have hset : ∀ (arr' : Array MapEntry) (c : Nat), (setObj g (.map arr' c)).run P w = .ok () { w with heap := w.heap.setIfInBounds g (.map arr' c) } := fun arr' c => by simp [setObj, Sem.run, hg]
 obtain ⟨s1, s2⟩ := zep a v es
 have exec : ∀ (s : Sem Unit), Instr.mapUpdate T (act.eval x) (act.eval i) (act.eval y) = s -> execOp act.eval o = (do s; pure .skip) := fun s hs => by
  rcases ho with ho | ho <;> simp [execOp, ho, hs]
 -- behind the update
 have fin : ∀ (arr' : Array MapEntry) (es' : List (α × EV)), arr'.size = es'.length ->
   (∀ (j : Nat) (k : α) (z : EV), es'[j]? = some (k, z) -> (∃ u, arr'[j]? = some ⟨enc k, u, j⟩ /\ ∃ e, (e = z) /\ FitsE ok w bs st.mem e u)) ->
   (execOp act.eval o).run P w = .ok .skip { w with heap := w.heap.setIfInBounds g (.map arr' es'.length) } -> yh a v es = es' -> o.wp P act w K Q := fun arr' es' hl' he' hrun hes => by
  have hother : ∀ k, k ≠ g -> (w.heap.setIfInBounds g (.map arr' es'.length))[k]? = w.heap[k]? := fun k hk => Array.getElem?_setIfInBounds_ne (Ne.symm hk)
  have hturn := h5.turnO (w' := { w with heap := w.heap.setIfInBounds g (.map arr' es'.length) }) (b' := b) (o' := zlS enc es') hb hm rfl (by simp) (fun k _ hk => hother k (fun e => hk (by rw [e, hbg])))
   ⟨fun r e => (by cases e), fun es e => ⟨⟨_, rfl⟩, rfl⟩⟩ (fun g' hg' => .inl hg') h2.size (fun hfit => ⟨fun r e => (by cases e), fun es2 e => by
    injection e with e
    subst e
    refine ⟨g, arr', hbg, by simp [hlt], by simpa using hl', fun j k z hz => ?_⟩
    rw [List.getElem?_map, Option.map_eq_some_iff] at hz
    obtain ⟨⟨k', z'⟩, hz, e⟩ := hz
    injection e with e1 e2
    subst e1; subst e2
    obtain ⟨u, hu1, e, rfl, hu2⟩ := he' j k' z' hz
    exact ⟨u, hu1, hfit _ _ hu2⟩⟩)
  obtain ⟨hm', hf'⟩ := hturn
  have hbs : bs.set l b = bs := by
   apply List.ext_getElem?
   intro t
   by_cases ht : l = t
   ·
    subst ht; rw [hb]; simp [(zLg hb).1]
   ·
    rw [List.getElem?_set_ne ht]
  rw [hbs] at hm' hf'
  unfold Oper.wp
  rw [hrun]
  simp only [Oper.upon]
  have hpn : act.put o.dst undef = act := by rw [hd]; rfl
  rw [hpn]
  refine hKK _ _ ?_
  rw [hes]
  have hnot : ∀ p, w.heap[g]? = some p -> still p = true -> False := fun p hp hs => by rw [hg] at hp; injection hp with hp; subst hp; cases hs
  refine ⟨h0, h1.keep ⟨by simp, fun D p hD hp => ?_⟩, h2.trans ⟨rfl, rfl, rfl, by simp, fun k hk => hother k (fun e => ?_)⟩, ok, bs, h3, h4, hm', h6.map hf'⟩
  ·
   rw [hother D (fun e => hnot p (by rw [← e]; exact hD) hp)]; exact hD
  ·
   have := (h5.own' l b _ g hb hm rfl hbg).1
   omega
 cases hix : kV a (es.map (·.1)) with
 | none =>
  rw [hix] at hfind
  refine fin (arr.push { key := enc a, val := act.eval y, born := es.length }) (es ++ [(a, v)]) (by simp [hlen]) (fun j k z hz => ?_) ?_ (s1 hix)
  ·
   rw [List.getElem?_append] at hz
   split at hz
   ·
    rename_i hj
    obtain ⟨u, hu1, hu2⟩ := hent j k z hz
    refine ⟨u, ?_, z, rfl, hu2⟩
    rw [Array.getElem?_push, if_neg (by omega)]; exact hu1
   ·
    rename_i hj
    have hj0 : j - es.length = 0 := by have := (zLg hz).1; simp at this; omega
    rw [hj0] at hz
    simp at hz
    obtain ⟨rfl, rfl⟩ := hz
    have hje : j = es.length := by omega
    subst hje
    refine ⟨act.eval y, ?_, v, rfl, ey⟩
    rw [Array.getElem?_push, if_pos hlen.symm]
  ·
   rw [exec _ rfl]
   simp only [Instr.mapUpdate, Sem.run_bind, run_underlying hT, Result.andThen_ok, hu, hobj, hkv, hK.check, hfind, Option.bind_none, hset, Sem.run_pure]
   simp
 | some j =>
  rw [hix] at hfind
  have hja := zg5 hix
  rw [List.getElem?_map, Option.map_eq_some_iff] at hja
  obtain ⟨⟨a', y0⟩, hy0, rfl⟩ := hja
  obtain ⟨u0, hu0, _⟩ := hent j a' y0 hy0
  have hvl : arr.toList[j]? = some ⟨enc a', u0, j⟩ := by rw [Array.getElem?_toList]; exact hu0
  have hjl : j < es.length := (zLg hy0).1
  refine fin (arr.modify j fun q => { q with key := enc a', val := act.eval y }) (es.set j (a', v)) (by simp [hlen]) (fun j' k z hz => ?_) ?_ (s2 j hix)
  ·
   by_cases hjj : j = j'
   ·
    subst hjj
    rw [List.getElem?_set_self hjl] at hz
    injection hz with hz
    injection hz with e1 e2
    subst e1; subst e2
    refine ⟨act.eval y, ?_, v, rfl, ey⟩
    rw [Array.getElem?_modify, if_pos rfl, hu0]; rfl
   ·
    rw [List.getElem?_set_ne hjj] at hz
    obtain ⟨u, hu1, hu2⟩ := hent j' k z hz
    refine ⟨u, ?_, z, rfl, hu2⟩
    rw [Array.getElem?_modify, if_neg hjj]; exact hu1
  ·
   have hstay : (Instr.keyThatStays (((arr[j]?).map (·.key)).getD (enc a')) (enc a')).run P w = .ok (enc a') w := by
    rw [hu0]
    simp [Instr.keyThatStays, hK.bits]
   rw [exec _ rfl]
   simp only [Instr.mapUpdate, Sem.run_bind, run_underlying hT, Result.andThen_ok, hu, hobj, hkv, hK.check, hfind, Option.bind_some, hvl, Option.map_some, hstay, hset, Sem.run_pure]
   simp
end
end Go.Av
end
section
namespace Go.Av
open Go.RowKit
inductive MOut where
 | ret (r : EV) (mem : List PO)
 | pan (v : AV) (mem : List PO)
def MOut.mem : MOut -> List PO
 | .ret _ m => m
 | .pan _ m => m
structure Own (w0 : World) (ok0 : Nat -> Prop) (mem : List PO) (gh : List (EV × Value)) (hold : List (Nat × Obj)) (ok : Nat -> Prop) (bs : List PB) (w : World) : Prop where
 below : Below w0.heap.size w0 w
 up : ∀ b, ok0 b -> ok b
 dn : ∀ b, ok b -> ok0 b ∨ w0.heap.size <= b
 mok : MemOK w0.heap.size ok w bs mem
 gh : ∀ p ∈ gh, FitsE ok w bs mem p.1 p.2
 hold : ∀ p ∈ hold, (still p.2 = true /\ w0.heap.size <= p.1) /\ w.heap[p.1]? = some p.2
def zjj (P : Program) (G : Glob) (f : FuncId) (args : List EV) (mem : List PO) (out : MOut) : Prop :=
 Enters P f /\ ∀ (w0 : World) (ok0 ok : Nat -> Prop) (bs : List PB) (w : World) (vs : List Value) (gh : List (EV × Value)) (hold : List (Nat × Obj)), G.holds w0 -> (∀ b, ok0 b -> b < w0.heap.size) -> Own w0 ok0 mem gh hold ok bs w -> FitsEL ok w bs mem args vs ->
  Calls P f vs.toArray w (fun e w' => ∃ ok' bs', Own w0 ok0 out.mem gh hold ok' bs' w' /\ ∃ u, match out with
   | .ret r m => e = .returned u /\ FitsE ok' w' bs' m r u
   | .pan v _ => e = .panicked (pnc u) /\ Fits ok' w' v u)
section
variable {P : Program} {G : Glob}
end
end Go.Av
end
section
namespace Go.Av
open Go.RowKit
section
variable {P : Program} {G : Glob} {st : ASt} {o : Oper}
theorem FitsEL.append {ok : Nat -> Prop} {w : World} {bs : List PB} {mem : List PO} : ∀ {l l' : List EV} {us us' : List Value}, FitsEL ok w bs mem l us -> FitsEL ok w bs mem l' us' -> FitsEL ok w bs mem (l ++ l') (us ++ us')
 | [], l', us, us', h, h' => by simp only [FitsEL] at h; subst h; simpa using h'
 | x :: xs, l', us, us', h, h' => by
  simp only [FitsEL] at h
  obtain ⟨u, us2, rfl, h1, h2⟩ := h
  simp only [List.cons_append, FitsEL]
  exact ⟨u, us2 ++ us', rfl, h1, FitsEL.append h2 h'⟩
theorem ACall.m {f : FuncId} {args : List AV} {r : AV} {mem : List PO} (h : ACall P G f args r) : zjj P G f (args.map .pub) mem (.ret (.pub r) mem) :=
 ⟨h.1, fun w0 ok0 ok bs w vs gh hold hG hok ho hfit => (h.2 ok w vs (G.stable _ _ hG ho.below) ho.mok.lt (FitsEL.pub.1 hfit)).mono fun e w' ⟨u, he, hb, hu⟩ => by
  refine ⟨okN ok w w', bs, ⟨yf ho.below ho.below.size hb, fun b hb' => .inl (ho.up b hb'), fun b hb' => ?_, ho.mok.grow hb, fun p hp => (ho.gh p hp).grow ho.mok.lt hb, fun p hp => ⟨(ho.hold p hp).1, ?_⟩⟩, u, he, by simpa only [FitsE] using hu⟩
  ·
   rcases hb' with h | h
   ·
    exact ho.dn b h
   ·
    exact .inr (Nat.le_trans ho.below.size h.1)
  ·
   rw [hb.block _ (Array.getElem?_eq_some_iff.1 (ho.hold p hp).2).1]; exact (ho.hold p hp).2⟩
end
end Go.Av
end
