import Derived.Test.YtgmbdadkbominaaGreatDoorPlatF
import Derived.Lib.ConvBytes
set_option linter.unusedVariables false
set_option linter.unusedSimpArgs false
section
namespace Go.Av
open Go.RowKit
def zbd {α:Type} [DecidableEq α] (a:α):List α -> Option Nat
 | []=>none
 | b :: t=>if b = a then some 0 else (zbd a t).map (· + 1)
structure KeyT (P:Program) (kt:TypeId) {α:Type} [DecidableEq α] (enc:α -> Value):Prop where
 check:∀ (b:Bool) (a:α) (w:World), (Instr.checkKey b 10000 kt (enc a)).run P w = .ok () w
 find:∀ (a:α) (l:List MapEntry) (as:List α) (w:World), l.map (·.key) = as.map enc -> (Instr.findKey kt (enc a) l).run P w = .ok ((zbd a as).bind fun j=>(l[j]?).map fun e=>(j, e.val)) w
 bits:∀ a:α, Instr.sameBits 10000 (enc a) (enc a) = true
section
variable {α:Type} [DecidableEq α]
theorem zlg {a:α}:∀ {l:List α} {j:Nat}, zbd a l = some j -> l[j]? = some a
 | [], j, h=>by simp [zbd] at h
 | b :: t, j, h=>by
  simp only[zbd] at h
  split at h
  ·rename_i e; injection h with h; subst h; subst e; rfl
  ·rw [Option.map_eq_some_iff] at h
   obtain ⟨i, hi, rfl⟩:=h
   simpa using zlg hi
theorem zfk {kind:TypeDesc} {enc:α -> Value} (hs:∀ a b, Instr.sameNow kind (enc a) (enc b) = some (decide (b = a))) (a:α):∀ (l:List MapEntry) (as:List α) (i:Nat), l.map (·.key) = as.map enc ->
  Instr.findNow kind (enc a) l i = some ((zbd a as).bind fun j=>(l[j]?).map fun e=>(i + j, e.val))
 | [], [], i, _=>rfl
 | [], _ :: _, i, h=>by simp at h
 | _ :: _, [], i, h=>by simp at h
 | e :: l, b :: as, i, h=>by
  simp only[List.map_cons, List.cons.injEq] at h
  simp only[Instr.findNow, h.1, hs, zbd]
  by_cases hb:b = a
  ·simp [hb]
  ·rw [decide_eq_false hb, if_neg hb]
   simp only
   rw [zfk hs a l as (i + 1) h.2]
   congr 1
   cases zbd a as with
   | none=>rfl
   | some j=>
    simp only[Option.map_some, Option.bind_some, List.getElem?_cons_succ]
    cases l[j]? with
    | none=>rfl
    | some e'=>simp; omega
theorem zu7 {P:Program} {kt:TypeId} {enc:α -> Value} (hs:∀ a b (w:World), (Op.equal kt (enc a) (enc b)).run P w = .ok (decide (b = a)) w) (a:α):∀ (l:List MapEntry) (as:List α) (i:Nat) (w:World), l.map (·.key) = as.map enc ->
  (Instr.findAsking kt (enc a) l i).run P w = .ok ((zbd a as).bind fun j=>(l[j]?).map fun e=>(i + j, e.val)) w
 | [], [], i, w, _=>rfl
 | [], _ :: _, i, w, h=>by simp at h
 | _ :: _, [], i, w, h=>by simp at h
 | e :: l, b :: as, i, w, h=>by
  simp only[List.map_cons, List.cons.injEq] at h
  simp only[Instr.findAsking, h.1, Sem.run_bind, hs, Result.andThen_ok, zbd]
  by_cases hb:b = a
  ·simp [hb]
  ·rw [decide_eq_false hb, if_neg hb]
   simp only[Bool.false_eq_true, if_false]
   rw [zu7 hs a l as (i + 1) w h.2]
   congr 1
   cases zbd a as with
   | none=>rfl
   | some j=>
    simp only[Option.map_some, Option.bind_some, List.getElem?_cons_succ]
    cases l[j]? with
    | none=>rfl
    | some e'=>simp; omega
theorem zoN {P:Program} {kt:TypeId} {kind:TypeDesc} {enc:α -> Value} (hu:P.underlying kt = some kind) (hs:∀ a b, Instr.sameNow kind (enc a) (enc b) = some (decide (b = a)))
  (hc:∀ (b:Bool) (a:α) (w:World), (Instr.checkKey b 10000 kt (enc a)).run P w = .ok () w) (hb:∀ a:α, Instr.sameBits 10000 (enc a) (enc a) = true):KeyT P kt enc:=
 ⟨hc, fun a l as w h=>by
  have:=zfk hs a l as 0 h
  simp only[Nat.zero_add] at this
  simp [Instr.findKey, run_underlying hu, this], hb⟩
theorem zxc {P:Program} {kt:TypeId} {kind:TypeDesc} {enc:α -> Value} (hu:P.underlying kt = some kind) (hn:∀ a b, Instr.sameNow kind (enc a) (enc b) = none) (hs:∀ a b (w:World), (Op.equal kt (enc a) (enc b)).run P w = .ok (decide (b = a)) w)
  (hc:∀ (b:Bool) (a:α) (w:World), (Instr.checkKey b 10000 kt (enc a)).run P w = .ok () w) (hb:∀ a:α, Instr.sameBits 10000 (enc a) (enc a) = true):KeyT P kt enc:=
 ⟨hc, fun a l as w h=>by
  have:=zu7 hs a l as 0 w h
  simp only[Nat.zero_add] at this
  cases l with
  | nil=>
   cases as with
   | nil=>simp [Instr.findKey, run_underlying hu, Instr.findNow, zbd]
   | cons=>simp at h
  | cons e l=>
   cases as with
   | nil=>simp at h
   | cons b as=>
    have h':=h
    simp only[List.map_cons, List.cons.injEq] at h'
    have hf:Instr.findNow kind (enc a) (e :: l) 0 = none:=by simp only[Instr.findNow, h'.1, hn]
    simp only[Instr.findKey, Sem.run_bind, run_underlying hu, Result.andThen_ok, hf]
    exact this, hb⟩
theorem zkg {P:Program} {kt:TypeId} {d:TypeDesc} (hu:P.underlying kt = some d) (v:Value) (hd:(match d with | .interface _=>false | .array ..=>false | .struct _=>false | _=>true) = true) (b:Bool) (w:World):(Instr.checkKey b 10000 kt v).run P w = .ok () w:=by
 rw [show (10000:Nat) = 9999 + 1 from rfl]
 unfold Instr.checkKey
 simp only[Sem.run_bind, run_underlying hu, Result.andThen_ok]
 cases d <;> first | (simp at hd; done) | (cases v <;> rfl)
theorem zpb {P:Program} {kt:TypeId} {k:IntKind} (hu:P.underlying kt = some (.int k)):KeyT P kt (fun n:Int=>Value.int k n):=
 zoN hu (fun a b=>by
   simp only[Instr.sameNow, if_true]
   congr 1
   rw [Bool.eq_iff_iff]
   simp only[beq_iff_eq, decide_eq_true_eq]
   exact eq_comm) (fun b a w=>zkg hu _ rfl b w) (fun a=>by show (k == k && a == a) = true; simp)
def ziF {β:Type} (a:α) (d:β):List (α × β) -> β
 | []=>d
 | (b, x) :: t=>if b = a then x else ziF a d t
def zo1 {β:Type} (a:α):List (α × β) -> Bool
 | []=>false
 | (b, _) :: t=>if b = a then true else zo1 a t
def zgD {β:Type} (a:α) (x:β):List (α × β) -> List (α × β)
 | []=>[(a, x)]
 | (b, y) :: t=>if b = a then (a, x) :: t else (b, y) :: zgD a x t
def zkO (enc:α -> Value) (es:List (α × EV)):PO:=.map (es.map fun p=>(enc p.1, p.2))
theorem zlI {β:Type} (a:α) (d:β):∀ (es:List (α × β)), (zbd a (es.map (·.1)) = none -> ziF a d es = d /\ zo1 a es = false) /\ ∀ j, zbd a (es.map (·.1)) = some j -> ∃ x, es[j]? = some (a, x) /\ ziF a d es = x /\ zo1 a es = true
 | []=>by simp [zbd, ziF, zo1]
 | (b, y) :: t=>by
  obtain ⟨h1, h2⟩:=zlI a d t
  simp only[List.map_cons, zbd, ziF, zo1]
  by_cases hb:b = a
  ·subst hb; simp
  ·simp only[if_neg hb, Option.map_eq_none_iff, Option.map_eq_some_iff]
   refine ⟨h1, fun j ⟨i, hi, e⟩=>?_⟩
   subst e
   simpa using h2 i hi
theorem zls {β:Type} (a:α) (x:β):∀ (es:List (α × β)), (zbd a (es.map (·.1)) = none -> zgD a x es = es ++ [(a, x)]) /\ ∀ j, zbd a (es.map (·.1)) = some j -> zgD a x es = es.set j (a, x)
 | []=>by simp [zbd, zgD]
 | (b, y) :: t=>by
  obtain ⟨h1, h2⟩:=zls a x t
  simp only[List.map_cons, zbd, zgD]
  by_cases hb:b = a
  ·subst hb; simp
  ·simp only[if_neg hb, Option.map_eq_none_iff, Option.map_eq_some_iff]
   refine ⟨fun h=>by rw [h1 h]; rfl, fun j ⟨i, hi, e⟩=>?_⟩
   subst e
   rw [h2 i hi]; rfl
end
def zrF (x:AV) (v:Value):Prop:=∀ (ok:Nat -> Prop) (w:World) (u:Value), Fits ok w x u -> u = v
theorem zps {x:Value}:zrF (.v x) x:=fun ok w u h=>by simp only[Fits] at h; exact h.1
theorem zvQ {ok:Nat -> Prop} {w:World}:∀ {l:List Value} {us:List Value}, FitsL ok w (l.map .v) us -> us = l
 | [], us, h=>by simpa only [List.map_nil, FitsL] using h
 | x :: xs, us, h=>by
  simp only[List.map_cons, FitsL, Fits] at h
  obtain ⟨u, us', rfl, ⟨rfl, _⟩, h2⟩:=h
  rw [zvQ h2]
theorem zxq {cs:List AV} {l:List Value} (h:cs = l.map .v):zrF (.agg cs) (.agg l.toArray):=fun ok w u hf=>by
 subst h
 simp only[Fits] at hf
 obtain ⟨vs, rfl, _, h2⟩:=hf
 rw [zvQ h2]
section
variable {P:Program} {G:Glob} {fr:Nat -> EV} {mem:List PO} {o:Oper} {st:ASt} {α:Type} {enc:α -> Value}
theorem zn5 {B:Nat} {ok:Nat -> Prop} {w:World} {bs:List PB} {l:Nat} {es:List (α × EV)} {u:Value} (hmo:MemOK B ok w bs mem) (h:FitsE ok w bs mem (.mpv l) u) (hm:mem[l]? = some (zkO enc es)):
  ∃ b g arr, bs[l]? = some b /\ b.blk = some g /\ u = .map (some g) /\ w.heap[g]? = some (.map arr es.length) /\ arr.toList.map (·.key) = (es.map (·.1)).map enc /\ arr.size = es.length /\
   ∀ (i:Nat) (k:α) (x:EV), es[i]? = some (k, x) -> ∃ v, arr[i]? = some ⟨enc k, v, i⟩ /\ FitsE ok w bs mem x v:=by
 simp only[FitsE] at h
 obtain ⟨b, hb, h⟩:=h
 obtain ⟨g, hg, hu⟩:=h _ hm
 obtain ⟨g', arr, h1, h2, h3, h4⟩:=hmo.mp l b _ hb hm
 rw [hg] at h1; injection h1 with h1; subst h1
 have h5:∀ (i:Nat) (k:α) (x:EV), es[i]? = some (k, x) -> ∃ v, arr[i]? = some ⟨enc k, v, i⟩ /\ FitsE ok w bs mem x v:=fun i k x hx=>h4 i (enc k) x (by rw [List.getElem?_map, hx]; rfl)
 refine ⟨b, g, arr, hb, hg, hu, by simpa using h2, ?_, by simpa using h3, h5⟩
 have hlen:arr.size = es.length:=by simpa using h3
 apply List.ext_getElem?
 intro i
 rw [List.map_map, List.getElem?_map, List.getElem?_map]
 by_cases hi:i < es.length
 ·obtain ⟨v, h6, _⟩:=h5 i es[i].1 es[i].2 (List.getElem?_eq_getElem hi)
  rw [Array.getElem?_toList, h6, List.getElem?_eq_getElem hi]; rfl
 ·rw [List.getElem?_eq_none (by simpa using by omega), List.getElem?_eq_none (by omega)]; rfl
variable [DecidableEq α]
theorem zjE {kt:TypeId} (hK:KeyT P kt enc) {arr:Array MapEntry} {es:List (α × EV)} (hk:arr.toList.map (·.key) = (es.map (·.1)).map enc) (a:α) (w:World):
  (Instr.findKey kt (enc a) arr.toList).run P w = .ok ((zbd a (es.map (·.1))).bind fun j=>(arr.toList[j]?).map fun e=>(j, e.val)) w:=hK.find a _ _ w hk
theorem zEA {T kt et:TypeId} {x i:Operand} {l:Nat} {es:List (α × AV)} {a:α} {kx:AV} {z:Value} (ho:o.op = .lookup T x i true) (hx:evO fr x = .mpv l) (hm:mem[l]? = some (zkO enc (es.map fun p=>(p.1, .pub p.2)))) (hi:evO fr i = .pub kx) (hk:zrF kx (enc a))
  (hT:P.underlying T = some (.map kt et)) (hK:KeyT P kt enc) (hz:(P.info? et).bind (·.zero) = some z):OpY P G fr mem o (.pub (.tup [ziF a (ofV z) es, .v (.bool (zo1 a es))])):=
 jb fun ok bs w act _ hmo hf=>by
  obtain ⟨B, hmo⟩:=hmo
  have h1:=hf x (by simp [ho, Op.operands])
  rw [hx] at h1
  obtain ⟨b, g, arr, _, _, hu, hg, hkeys, hlen, hent⟩:=zn5 hmo h1 hm
  have h2:=hf i (by simp [ho, Op.operands])
  rw [hi] at h2
  simp only[FitsE] at h2
  have hkv:=hk _ _ _ h2
  have hobj:(getObj g).run P w = .ok (.map arr (es.map fun p=>(p.1, EV.pub p.2)).length) w:=by simp [getObj, Sem.run, hg]
  have hfind:=zjE hK hkeys a w
  have hmm:(es.map fun p=>(p.1, EV.pub p.2)).map (·.1) = es.map (·.1):=by simp [Function.comp_def]
  rw [hmm] at hfind
  obtain ⟨g1, g2⟩:=zlI a (ofV z) es
  cases hix:zbd a (es.map (·.1)) with
  | none=>
   rw [hix] at hfind
   have hzv:(zeroValue et).run P w = .ok z w:=by
    rw [Option.bind_eq_some_iff] at hz
    obtain ⟨inf, hi1, hi2⟩:=hz
    simp [zeroValue, typeInfo, hi1, hi2]
   refine ⟨.tuple #[z, .bool false], ?_, ?_⟩
   ·simp only[execOp, ho, Instr.lookup, Sem.run_bind, run_underlying hT, Result.andThen_ok, hu, hobj, hkv, hK.check, hfind, Option.bind_none, hzv, Sem.run_pure]
    simp
   ·rw [(g1 hix).1, (g1 hix).2]
    simp only[FitsE, Fits]
    exact ⟨[z, .bool false], rfl, by simp only[FitsL, Fits]; exact ⟨_, _, rfl, ziT z, _, _, rfl, ⟨rfl, rfl⟩, rfl⟩⟩
  | some j=>
   rw [hix] at hfind
   obtain ⟨y, hy, hget, hhas⟩:=g2 j hix
   obtain ⟨v, hv, hfv⟩:=hent j a (.pub y) (by rw [List.getElem?_map, hy]; rfl)
   have hvl:arr.toList[j]? = some ⟨enc a, v, j⟩:=by rw [Array.getElem?_toList]; exact hv
   refine ⟨.tuple #[v, .bool true], ?_, ?_⟩
   ·simp only[execOp, ho, Instr.lookup, Sem.run_bind, run_underlying hT, Result.andThen_ok, hu, hobj, hkv, hK.check, hfind, Option.bind_some, hvl, Option.map_some, Sem.run_pure]
    simp
   ·rw [hget, hhas]
    simp only[FitsE] at hfv
    simp only[FitsE, Fits]
    exact ⟨[v, .bool true], rfl, by simp only[FitsL, Fits]; exact ⟨_, _, rfl, hfv, _, _, rfl, ⟨rfl, rfl⟩, rfl⟩⟩
theorem Sit.pushO {w0:World} {ok0:Nat -> Prop} {k:NS} {fr:Nat -> EV} {mem:List PO} {a:Act} {w w':World} {ok:Nat -> Prop} {bs:List PB} {e:EV} {u:Value} {dst:Option Tmp} {b:PB} {o:PO}
  (h0:a.tmps.size = k.n) (h1:Nod w0 w a k) (h2:Below w0.heap.size w0 w)
  (h3:∀ b, ok0 b -> ok b) (h4:∀ b, ok b -> ok0 b ∨ w0.heap.size <= b) (h5:MemOK w0.heap.size ok w bs mem) (h6:Slots ok w bs mem k fr a)
  (hw:Below w.heap.size w w') (hrow:∀ rows, o = .row rows -> PRow ok w' (bs ++ [b]) (mem ++ [o]) b rows) (hmap:∀ es, o = .map es -> zqa ok w' (bs ++ [b]) (mem ++ [o]) b es) (hnew:∀ g, b.blk = some g -> w.heap.size <= g)
  (he:FitsE ok w' (bs ++ [b]) (mem ++ [o]) e u) (hd:DOK dst k):Sit w0 ok0 ⟨k, qX fr dst e, mem ++ [o]⟩ (a.put dst u) w':=by
 refine ⟨(size_put ..).trans h0, h1.put (.of_below hw) hd, wI h2 h2.size hw, ok, bs ++ [b], h3, h4, h5.pushO hw h2.size hrow hmap hnew, ?_⟩
 exact wo (h6.map fun _ _ h=>h.mono (fun _ hb=>hb) (fun b hb=>hw.block b (h5.lt b hb)) (Turn.push h5.len b _)) he (fun d e=>by rw [h0]; exact (hd d e).1)
theorem zgX {T:TypeId} (ho:o.op = .makeMap T none) (hd:jO o st.n = true):OpM P G st o ⟨st.n, qX st.fr o.dst (.mpv st.mem.length), st.mem ++ [.map []]⟩:=by
 intro w0 ok0 a w hG hok hsit K Q hK
 obtain ⟨h0, h1, h2, ok, bs, h3, h4, h5, h6⟩:=hsit
 have hrun:(execOp a.eval o).run P w = .ok (.value (.map (some w.heap.size))) (w.alloc (.map #[] 0)):=by simp [execOp, ho, Instr.makeMap, newObj, Sem.run]
 refine jR hrun (hK _ _ (Sit.pushO (b:=⟨some w.heap.size, 0, 0, 0⟩) h0 h1 h2 h3 h4 h5 h6 (below_alloc ..) (fun rows e=>by cases e) (fun es e=>?_) (fun g hg=>by simp at hg; omega) ?_ (qC hd)))
 ·injection e with e
  subst e
  exact ⟨w.heap.size, #[], rfl, heap_alloc_new w _, rfl, by simp⟩
 ·simp only[FitsE]
  refine ⟨⟨some w.heap.size, 0, 0, 0⟩, by rw [← h5.len]; simp, fun es hes=>⟨w.heap.size, rfl, rfl⟩⟩
theorem zjw {T kt et:TypeId} {x i y:Operand} {l:Nat} {es:List (α × EV)} {a:α} {kx:AV} {v:EV} (ho:o.op = .mapUpdate T x i y ∨ o.op = .insert T x i y) (hd:o.dst = none) (hx:evO st.fr x = .mpv l) (hm:st.mem[l]? = some (zkO enc es)) (hi:evO st.fr i = .pub kx) (hk:zrF kx (enc a))
  (hT:P.underlying T = some (.map kt et)) (hK:KeyT P kt enc) (hv:evO st.fr y = v):OpM P G st o ⟨st.n, st.fr, st.mem.set l (zkO enc (zgD a v es))⟩:=by
 intro w0 ok0 act w hG hok hsit K Q hKK
 obtain ⟨h0, h1, h2, ok, bs, h3, h4, h5, h6⟩:=hsit
 have ex:=qO (fr:=st.fr) (a:=act) (x:=x) fun t _=>h6.1 t
 rw [hx] at ex
 obtain ⟨b, g, arr, hb, hbg, hu, hg, hkeys, hlen, hent⟩:=zn5 h5 ex hm
 have ei:=qO (fr:=st.fr) (a:=act) (x:=i) fun t _=>h6.1 t
 rw [hi] at ei
 simp only[FitsE] at ei
 have hkv:=hk _ _ _ ei
 have ey:=qO (fr:=st.fr) (a:=act) (x:=y) fun t _=>h6.1 t
 rw [hv] at ey
 have hobj:(getObj g).run P w = .ok (.map arr es.length) w:=by simp [getObj, Sem.run, hg]
 have hfind:=zjE hK hkeys a w
 have hlt:=(Array.getElem?_eq_some_iff.1 hg).1
 have hset:∀ (arr':Array MapEntry) (c:Nat), (setObj g (.map arr' c)).run P w = .ok () { w with heap:=w.heap.setIfInBounds g (.map arr' c) }:=fun arr' c=>by simp [setObj, Sem.run, hg]
 obtain ⟨s1, s2⟩:=zls a v es
 have exec:∀ (s:Sem Unit), Instr.mapUpdate T (act.eval x) (act.eval i) (act.eval y) = s -> execOp act.eval o = (do s; pure .skip):=fun s hs=>by
  rcases ho with ho | ho <;> simp [execOp, ho, hs]
 -- behind the update
 have fin:∀ (arr':Array MapEntry) (es':List (α × EV)), arr'.size = es'.length ->
   (∀ (j:Nat) (k:α) (z:EV), es'[j]? = some (k, z) -> (∃ u, arr'[j]? = some ⟨enc k, u, j⟩ /\ ∃ e, (e = z) /\ FitsE ok w bs st.mem e u)) ->
   (execOp act.eval o).run P w = .ok .skip { w with heap:=w.heap.setIfInBounds g (.map arr' es'.length) } -> zgD a v es = es' -> o.wp P act w K Q:=fun arr' es' hl' he' hrun hes=>by
  have hother:∀ k, k ≠ g -> (w.heap.setIfInBounds g (.map arr' es'.length))[k]? = w.heap[k]?:=fun k hk=>Array.getElem?_setIfInBounds_ne (Ne.symm hk)
  have hturn:=h5.turnO (w':={ w with heap:=w.heap.setIfInBounds g (.map arr' es'.length) }) (b':=b) (o':=zkO enc es') hb hm rfl (by simp) (fun k _ hk=>hother k (fun e=>hk (by rw [e, hbg])))
   ⟨fun r e=>(by cases e), fun es e=>⟨⟨_, rfl⟩, rfl⟩⟩ (fun g' hg'=>.inl hg') h2.size (fun hfit=>⟨fun r e=>(by cases e), fun es2 e=>by
    injection e with e
    subst e
    refine ⟨g, arr', hbg, by simp [hlt], by simpa using hl', fun j k z hz=>?_⟩
    rw [List.getElem?_map, Option.map_eq_some_iff] at hz
    obtain ⟨⟨k', z'⟩, hz, e⟩:=hz
    injection e with e1 e2
    subst e1; subst e2
    obtain ⟨u, hu1, e, rfl, hu2⟩:=he' j k' z' hz
    exact ⟨u, hu1, hfit _ _ hu2⟩⟩)
  obtain ⟨hm', hf'⟩:=hturn
  have hbs:bs.set l b = bs:=by
   apply List.ext_getElem?
   intro t
   by_cases ht:l = t
   ·subst ht; rw [hb]; simp [(zLg hb).1]
   ·rw [List.getElem?_set_ne ht]
  rw [hbs] at hm' hf'
  unfold Oper.wp
  rw [hrun]
  simp only[Oper.upon]
  have hpn:act.put o.dst undef = act:=by rw [hd]; rfl
  rw [hpn]
  refine hKK _ _ ?_
  rw [hes]
  have hnot:∀ p, w.heap[g]? = some p -> still p = true -> False:=fun p hp hs=>by rw [hg] at hp; injection hp with hp; subst hp; cases hs
  refine ⟨h0, h1.keep ⟨by simp, fun D p hD hp=>?_⟩, h2.trans ⟨rfl, rfl, rfl, by simp, fun k hk=>hother k (fun e=>?_)⟩, ok, bs, h3, h4, hm', h6.map hf'⟩
  ·rw [hother D (fun e=>hnot p (by rw [← e]; exact hD) hp)]; exact hD
  ·have:=(h5.own' l b _ g hb hm rfl hbg).1
   omega
 cases hix:zbd a (es.map (·.1)) with
 | none=>
  rw [hix] at hfind
  refine fin (arr.push { key:=enc a, val:=act.eval y, born:=es.length }) (es ++ [(a, v)]) (by simp [hlen]) (fun j k z hz=>?_) ?_ (s1 hix)
  ·rw [List.getElem?_append] at hz
   split at hz
   ·rename_i hj
    obtain ⟨u, hu1, hu2⟩:=hent j k z hz
    refine ⟨u, ?_, z, rfl, hu2⟩
    rw [Array.getElem?_push, if_neg (by omega)]; exact hu1
   ·rename_i hj
    have hj0:j - es.length = 0:=by have:=(zLg hz).1; simp at this; omega
    rw [hj0] at hz
    simp at hz
    obtain ⟨rfl, rfl⟩:=hz
    have hje:j = es.length:=by omega
    subst hje
    refine ⟨act.eval y, ?_, v, rfl, ey⟩
    rw [Array.getElem?_push, if_pos hlen.symm]
  ·rw [exec _ rfl]
   simp only[Instr.mapUpdate, Sem.run_bind, run_underlying hT, Result.andThen_ok, hu, hobj, hkv, hK.check, hfind, Option.bind_none, hset, Sem.run_pure]
   simp
 | some j=>
  rw [hix] at hfind
  have hja:=zlg hix
  rw [List.getElem?_map, Option.map_eq_some_iff] at hja
  obtain ⟨⟨a', y0⟩, hy0, rfl⟩:=hja
  obtain ⟨u0, hu0, _⟩:=hent j a' y0 hy0
  have hvl:arr.toList[j]? = some ⟨enc a', u0, j⟩:=by rw [Array.getElem?_toList]; exact hu0
  have hjl:j < es.length:=(zLg hy0).1
  refine fin (arr.modify j fun q=>{ q with key:=enc a', val:=act.eval y }) (es.set j (a', v)) (by simp [hlen]) (fun j' k z hz=>?_) ?_ (s2 j hix)
  ·by_cases hjj:j = j'
   ·subst hjj
    rw [List.getElem?_set_self hjl] at hz
    injection hz with hz
    injection hz with e1 e2
    subst e1; subst e2
    refine ⟨act.eval y, ?_, v, rfl, ey⟩
    rw [Array.getElem?_modify, if_pos rfl, hu0]; rfl
   ·rw [List.getElem?_set_ne hjj] at hz
    obtain ⟨u, hu1, hu2⟩:=hent j' k z hz
    refine ⟨u, ?_, z, rfl, hu2⟩
    rw [Array.getElem?_modify, if_neg hjj]; exact hu1
  ·have hstay:(Instr.keyThatStays (((arr[j]?).map (·.key)).getD (enc a')) (enc a')).run P w = .ok (enc a') w:=by
    rw [hu0]
    simp [Instr.keyThatStays, hK.bits]
   rw [exec _ rfl]
   simp only[Instr.mapUpdate, Sem.run_bind, run_underlying hT, Result.andThen_ok, hu, hobj, hkv, hK.check, hfind, Option.bind_some, hvl, Option.map_some, hstay, hset, Sem.run_pure]
   simp
end
end Go.Av
end
section
namespace Go.Av
open Go.RowKit
inductive MOut where
 | ret (r:EV) (mem:List PO)
 | pan (v:AV) (mem:List PO)
def MOut.mem:MOut -> List PO
 | .ret _ m=>m
 | .pan _ m=>m
structure Own (w0:World) (ok0:Nat -> Prop) (mem:List PO) (gh:List (EV × Value)) (hold:List (Nat × Obj)) (ok:Nat -> Prop) (bs:List PB) (w:World):Prop where
 below:Below w0.heap.size w0 w
 up:∀ b, ok0 b -> ok b
 dn:∀ b, ok b -> ok0 b ∨ w0.heap.size <= b
 mok:MemOK w0.heap.size ok w bs mem
 gh:∀ p ∈ gh, FitsE ok w bs mem p.1 p.2
 hold:∀ p ∈ hold, (still p.2 = true /\ w0.heap.size <= p.1) /\ w.heap[p.1]? = some p.2
def zeq (P:Program) (G:Glob) (f:FuncId) (args:List EV) (mem:List PO) (out:MOut):Prop:=
 Enters P f /\ ∀ (w0:World) (ok0 ok:Nat -> Prop) (bs:List PB) (w:World) (vs:List Value) (gh:List (EV × Value)) (hold:List (Nat × Obj)), G.holds w0 -> (∀ b, ok0 b -> b < w0.heap.size) -> Own w0 ok0 mem gh hold ok bs w -> FitsEL ok w bs mem args vs ->
  Calls P f vs.toArray w (fun e w'=>∃ ok' bs', Own w0 ok0 out.mem gh hold ok' bs' w' /\ ∃ u, match out with
   | .ret r m=>e = .returned u /\ FitsE ok' w' bs' m r u
   | .pan v _=>e = .panicked (pnc u) /\ Fits ok' w' v u)
section
variable {P:Program} {G:Glob}
def zoj (P:Program) (st:ASt):ResultVar -> EV -> Prop
 | .tmp t, e=>st.fr t = e
 | .cell p T, e=>znH P st.mem T (st.fr p) e
def zj9 (P:Program) (st:ASt):List ResultVar -> List EV -> Prop
 | [], es=>es = []
 | v :: vs, es=>∃ e es', es = e :: es' /\ zoj P st v e /\ zj9 P st vs es'
def zp0 (P:Program) (fn:Func) (st:ASt) (r:EV):Prop:=match fn.results.toList with
 | [v]=>zoj P st v r
 | vs=>∃ xs:List AV, r = .pub (.tup xs) /\ zj9 P st vs (xs.map .pub)
theorem zje {w:World} {ok:Nat -> Prop} {bs:List PB} {n:Nat} {st:ASt} (hmo:MemOK n ok w bs st.mem) {tm:Array Value} (hf:∀ t, FitsE ok w bs st.mem (st.fr t) (tm.getD t undef)) {v:ResultVar} {e:EV} (h:zoj P st v e):
  ∃ u, (resSem tm v).run P w = .ok u w /\ FitsE ok w bs st.mem e u:=by
 cases v with
 | tmp t=>
  simp only[zoj] at h
  exact ⟨_, rfl, h ▸ hf t⟩
 | cell p T=>
  simp only[zoj] at h
  obtain ⟨ad, v, h1, h2, h3⟩:=zlK hmo (hf p) h
  exact ⟨v, by simp only[resSem, h1, asAddr, Sem.run_bind, Sem.run_pure, Result.andThen_ok, h2], h3⟩
theorem zg1 {w:World} {ok:Nat -> Prop} {bs:List PB} {n:Nat} {st:ASt} (hmo:MemOK n ok w bs st.mem) {tm:Array Value} (hf:∀ t, FitsE ok w bs st.mem (st.fr t) (tm.getD t undef)):∀ {vs:List ResultVar} {es:List EV}, zj9 P st vs es ->
  ∃ us:List Value, (vs.mapM (resSem tm)).run P w = .ok us w /\ FitsEL ok w bs st.mem es us /\ us.length = vs.length
 | [], es, h=>by
  simp only[zj9] at h
  subst h
  exact ⟨[], by simp, by simp [FitsEL], rfl⟩
 | v :: vs, es, h=>by
  simp only[zj9] at h
  obtain ⟨e, es', rfl, h1, h2⟩:=h
  obtain ⟨u, h3, h4⟩:=zje hmo hf h1
  obtain ⟨us, h5, h6, h7⟩:=zg1 hmo hf h2
  refine ⟨u :: us, ?_, by simp only[FitsEL]; exact ⟨u, us, rfl, h4, h6⟩, by simp [h7]⟩
  rw [List.mapM_cons]
  simp only[Sem.run_bind, Sem.run_pure, h3, Result.andThen_ok, h5]
theorem zeu {fn:Func} {w:World} {ok:Nat -> Prop} {bs:List PB} {n:Nat} {st:ASt} (hmo:MemOK n ok w bs st.mem) {tm:Array Value} (hf:∀ t, FitsE ok w bs st.mem (st.fr t) (tm.getD t undef)) {r:EV} (h:zp0 P fn st r):
  ∃ u, (results fn tm).run P w = .ok u w /\ FitsE ok w bs st.mem r u:=by
 have e:∀ vs:List Value, (fn.results.toList.mapM (resSem tm)).run P w = .ok vs w ->
   (results fn tm).run P w = .ok (if h:vs.toArray.size = 1 then vs.toArray[0] else .tuple vs.toArray) w:=by
  intro vs hv
  rw [results_eq, Array.mapM_eq_mapM_toList]
  simp only[Sem.run_bind, Sem.run_map]
  rw [hv]
  simp
 unfold zp0 at h
 split at h
 ·rename_i v hv
  obtain ⟨u, h1, h2⟩:=zje hmo hf h
  refine ⟨u, ?_, h2⟩
  have:=e [u] (by
   rw [hv, List.mapM_cons]
   simp only[Sem.run_bind]
   rw [h1]
   simp)
  simpa using this
 ·rename_i vs hne
  obtain ⟨xs, rfl, hl⟩:=h
  obtain ⟨us, h1, h2, h4⟩:=zg1 hmo hf hl
  refine ⟨.tuple us.toArray, ?_, by simp only[FitsE, Fits]; exact ⟨us, rfl, FitsEL.pub.1 h2⟩⟩
  have h3:=e us h1
  have hlen:us.length ≠ 1:=by
   intro h5
   rw [h4] at h5
   match hq:fn.results.toList, h5 with
   | [v], _=>exact hne v hq
  simpa [hlen] using h3
theorem zau {mk:Bool} {F:Fence} {n:Nat} {fn:Func} {w0:World} {tm:Array Value} {R:Ending -> World -> Prop}:∀ {ds:List Deferred} {B:Nat} {w:World}, Dfs mk w0 w tm ds B [] ->
  (∀ w2, MK w0 w w2 -> (∀ k, k ∉ marksOf ds -> w2.heap[k]? = w.heap[k]?) -> ∃ v, (results fn tm).run P w2 = .ok v w2 /\ R (.returned v) w2) -> LeavesInM F n P fn tm R ds .returning w
 | [], B, w, _, h=>h w (MK.refl w0 w) (fun _ _=>rfl)
 | d :: ds, B, w, hd, h=>by
  simp only[Dfs] at hd
  rcases hd with ⟨_, D, rfl, h1, h2, h3, h4⟩ | ⟨t, l', e, _⟩
  ·refine ⟨by simp, .inl ⟨D, _, rfl, run_takeDeferred h3, zau (B:=D) (h4.low (Nat.le_refl _)) fun w2 hw2 hk=>h w2 (hw2.step h1 h3) fun k hkn=>?_⟩⟩
   simp only[marksOf, List.mem_cons, not_or] at hkn
   rw [hk k hkn.2]
   simp [World.putObj, Array.getElem?_setIfInBounds_ne (Ne.symm hkn.1)]
  ·cases e
theorem xE {mk:Bool} {F:Fence} {n:Nat} {fn:Func} {w0:World} {tm:Array Value} {R:Ending -> World -> Prop} {ch:List PanicEntry}:∀ {ds:List Deferred} {B:Nat} {w:World}, Dfs mk w0 w tm ds B [] ->
  (∀ w2, MK w0 w w2 -> (∀ k, k ∉ marksOf ds -> w2.heap[k]? = w.heap[k]?) -> R (.panicked ch) w2) -> LeavesInM F n P fn tm R ds (.panicking ch) w
 | [], B, w, _, h=>h w (MK.refl w0 w) (fun _ _=>rfl)
 | d :: ds, B, w, hd, h=>by
  simp only[Dfs] at hd
  rcases hd with ⟨_, D, rfl, h1, h2, h3, h4⟩ | ⟨t, l', e, _⟩
  ·refine ⟨by simp, .inl ⟨D, _, rfl, run_takeDeferred h3, xE (B:=D) (h4.low (Nat.le_refl _)) fun w2 hw2 hk=>h w2 (hw2.step h1 h3) fun k hkn=>?_⟩⟩
   simp only[marksOf, List.mem_cons, not_or] at hkn
   rw [hk k hkn.2]
   simp [World.putObj, Array.getElem?_setIfInBounds_ne (Ne.symm hkn.1)]
  ·cases e
def zp5 (P:Program) (fn:Func) (gh:List (EV × Value)) (hold:List (Nat × Obj)) (k0:Nat) (out:MOut) (e:Exit) (st:ASt):Prop:=
 (∃ more, st.mem = out.mem ++ more) /\ zbM out.mem.length out.mem /\ k0 <= out.mem.length /\ st.n.dfs = [] /\ (∀ p ∈ gh, p ∈ st.n.gh) /\ (∀ p ∈ hold, p ∈ st.n.hold) /\ match out with
  | .ret r m=>(e = .normal ∨ e = .ret) /\ r.lt m.length /\ zp0 P fn st r
  | .pan v _=>∃ u v', e = .panic (pnc u) /\ (EV.pub v', u) ∈ st.n.gh /\ AVle v' v
mutual
theorem EV.lt_mono {k k':Nat} (h:k <= k'):∀ {e:EV}, e.lt k -> e.lt k'
 | .pub _, _=>by simp only[EV.lt]
 | .psl l _, hl=>by simp only[EV.lt] at hl ⊢; omega
 | .pp l _ _ _, hl=>by simp only[EV.lt] at hl ⊢; omega
 | .mpv l, hl=>by simp only[EV.lt] at hl ⊢; omega
 | .tpl cs, hl=>by simp only[EV.lt] at hl ⊢; exact EV.ltL_mono h hl
 | .mix cs, hl=>by simp only[EV.lt] at hl ⊢; exact EV.ltL_mono h hl
 | .fnm _ fs cs, hl=>by simp only[EV.lt] at hl ⊢; exact ⟨EV.ltL_mono h hl.1, EV.ltL_mono h hl.2⟩
theorem EV.ltL_mono {k k':Nat} (h:k <= k'):∀ {l:List EV}, EV.ltL k l -> EV.ltL k' l
 | [], _=>by simp only[EV.ltL]
 | x :: xs, hl=>by simp only[EV.ltL] at hl ⊢; exact ⟨EV.lt_mono h hl.1, EV.ltL_mono h hl.2⟩
end
theorem zo5 {f:FuncId} {fn:Func} {c:Code} {args:List EV} {mem:List PO} {out:MOut} (hf:P.funcs[f]? = some fn) (hb:fn.body = some c) (hnm:(fn.name == "runtime.NumGoroutine") = false) (hlen':Nat.ble args.length fn.ntmps = true)
  (h:∀ gh hold, jl (r:=none) P G c ⟨⟨fn.ntmps, [], gh, false, hold⟩, frE args, mem⟩ (zp5 P fn gh hold mem.length out)):zeq P G f args mem out:=by
 have hlen:=zLb hlen'
 refine ⟨⟨fn, hf, hnm, by simp [hb]⟩, fun w0 ok0 ok bs w vs gh hold hG hok ⟨o1, o2, o3, o4, o5, o6⟩ hfit=>callsIn_wide.1 (callsIn_of_wp_marks (n:=0) hf hb trivial ?_)⟩
 have hl:=hfit.length
 refine wpIn_mono (h gh hold w0 ok0 _ w hG hok ?_) fun e a' w' ⟨st, hs, hq⟩=>?_
 ·refine ⟨by simp [hl]; omega, ⟨rfl, fun p hp=>⟨⟨⟨(o6 p hp).1.1, by simp [marksOf]⟩, (o6 p hp).1.2⟩, (o6 p hp).2⟩⟩, o1, ok, bs, o2, o3, o4, fun t=>?_, o5⟩
  show FitsE ok w bs mem (match args[t]? with | some x=>x | none=>.pub .top) _
  by_cases ht:t < args.length
  ·rw [List.getElem?_eq_getElem ht]
   obtain ⟨u, h1, h2⟩:=hfit.get (List.getElem?_eq_getElem ht)
   have h3:t < vs.length:=(zLg h1).1
   have h4:vs[t] = u:=(zLg h1).2
   simp only[Array.getD_eq_getD_getElem?]
   rw [Array.getElem?_append_left (by simpa using h3)]
   simp [h3, h4, h2]
  ·rw [List.getElem?_eq_none (by omega)]
   simp [FitsE, Fits]
 ·obtain ⟨⟨more, hmore⟩, hmk, hk0, hdf, hgh, hho, hout⟩:=hq
  obtain ⟨h0, h1, h2, ok', bs', h3, h4, h5, h6⟩:=hs
  have h1m:=h1.1
  rw [hdf] at h1m
  have hlen5:=h5.len
  -- behind the marks, and without what lies behind
  have cut:∀ (w2:World) (X:List (EV × Value)), MK w0 w' w2 -> (∀ k, k ∉ marksOf a'.defers -> w2.heap[k]? = w'.heap[k]?) -> (∀ p ∈ X, FitsE ok' w2 bs' st.mem p.1 p.2) -> (∀ p ∈ X, p.1.lt out.mem.length) ->
    ∃ okx bs2, Own w0 ok0 out.mem gh hold okx bs2 w2 /\ ∀ p ∈ X, FitsE okx w2 bs2 out.mem p.1 p.2:=fun w2 X hw2 hkk hX hXl=>by
   have htk:st.mem.take out.mem.length = out.mem:=by rw [hmore]; simp
   have hghl:∀ p ∈ gh, p.1.lt out.mem.length:=fun p hp=>EV.lt_mono hk0 (by have:=zcZ (o5 p hp); rwa [o4.len] at this)
   have hsit:Sit w0 ok0 ⟨⟨a'.tmps.size, [], X ++ gh, st.n.mks, []⟩, fun _=>.pub .top, st.mem⟩ { a' with defers:=[] } w2:=by
    refine ⟨rfl, ⟨rfl, fun p hp=>by cases hp⟩, h2.trans hw2.below, ok', bs', h3, h4, h5.marked hw2, fun t=>by simp [FitsE, Fits], fun p hp=>?_⟩
    rcases List.mem_append.1 hp with hp | hp
    ·exact hX p hp
    ·exact (h6.2 p (hgh p hp)).congr hw2.cell
   have hw:=zc6 (n:=⟨a'.tmps.size, [], X ++ gh, st.n.mks, []⟩) (fr:=fun _=>.pub .top) (mem:=st.mem) out.mem.length (fun t=>by simp [EV.lt]) (fun l rows hl hr r hrr x hx=>by
     have:=yA hmk (i:=l) (o:=.row rows) (by rw [← htk, List.getElem?_take, if_pos hl]; exact hr)
     exact this r hrr x hx) (fun p hp=>by
     rcases List.mem_append.1 hp with hp | hp
     ·exact hXl p hp
     ·exact hghl p hp) (fun l es hl hes=>yA hmk (i:=l) (o:=.map es) (by rw [← htk, List.getElem?_take, if_pos hl]; exact hes))
   obtain ⟨_, _, t2, okx, bsx, t3, t4, t5, t6⟩:=hw w0 ok0 _ w2 hsit
   simp only[htk] at t5 t6
   refine ⟨okx, bsx, ⟨t2, t3, t4, t5, fun p hp=>t6.2 p (List.mem_append_right _ hp), fun p hp=>?_⟩, fun p hp=>t6.2 p (List.mem_append_left _ hp)⟩
   obtain ⟨k1, k2⟩:=h1.2 p (hho p hp)
   exact ⟨⟨k1.1.1, k1.2⟩, by rw [hkk _ k1.1.2]; exact k2⟩
  cases out with
  | ret r m=>
   obtain ⟨he, hrl, hret⟩:=hout
   have hlv:LeavesInM Fence.wide 0 P fn a'.tmps (fun e w'=>∃ ok' bs', Own w0 ok0 m gh hold ok' bs' w' /\ ∃ u, e = .returned u /\ FitsE ok' w' bs' m r u) a'.defers .returning w':=zau h1m fun w2 hw2 hkk=>by
    obtain ⟨u, hu1, hu2⟩:=zeu (P:=P) (st:=st) (h5.marked hw2) (tm:=a'.tmps) (fun t=>(h6.1 t).congr hw2.cell) hret
    obtain ⟨okx, bsx, hown, hX⟩:=cut w2 [(r, u)] hw2 hkk (fun p hp=>by rw [List.mem_singleton] at hp; subst hp; exact hu2) (fun p hp=>by rw [List.mem_singleton] at hp; subst hp; exact hrl)
    exact ⟨u, hu1, okx, bsx, hown, u, rfl, hX _ (List.mem_singleton_self _)⟩
   rcases he with rfl | rfl
   ·exact hlv
   ·exact hlv
  | pan v m=>
   obtain ⟨u, v', rfl, hu, hv⟩:=hout
   refine xE h1m fun w2 hw2 hkk=>?_
   obtain ⟨okx, bsx, hown, hX⟩:=cut w2 [(.pub v', u)] hw2 hkk (fun p hp=>by
    rw [List.mem_singleton] at hp; subst hp; exact (h6.2 _ hu).congr hw2.cell) (fun p hp=>by rw [List.mem_singleton] at hp; subst hp; simp [EV.lt])
   have:=hX _ (List.mem_singleton_self _)
   simp only[FitsE] at this
   exact ⟨okx, bsx, hown, u, rfl, hv _ _ _ this⟩
end
end Go.Av
end
section
namespace Go.Av
open Go.RowKit
theorem Dfs.re {mk:Bool} {w0 w w':World} {tm tm':Array Value}:∀ {ds:List Deferred} {B B':Nat} {l:List Tmp}, Dfs mk w0 w tm ds B l -> (∀ D ∈ marksOf ds, w'.heap[D]? = some (.deferred (some []))) -> (∀ D ∈ marksOf ds, D < B') ->
  (∀ t, t ∈ l -> tm'.getD t undef = tm.getD t undef) -> Dfs mk w0 w' tm' ds B' l
 | [], B, B', l, h, _, _, _=>by simpa only [Dfs] using h
 | d :: ds, B, B', l, h, hD, hB, ht=>by
  simp only[Dfs] at h ⊢
  rcases h with ⟨hm, E, rfl, h1, h2, h3, h4⟩ | ⟨t, l', rfl, ⟨f, us, vs, rfl, h1⟩, h2⟩
  ·exact .inl ⟨hm, E, rfl, h1, hB E (by simp [marksOf]), hD E (by simp [marksOf]), h4.re (fun D h=>hD D (by simp [marksOf, h])) (fun D h=>(h4.marks D h).2.1) ht⟩
  ·exact .inr ⟨t, l', rfl, ⟨f, us, vs, rfl, (ht t (List.mem_cons_self ..)).trans h1⟩, h2.re (fun D h=>hD D (by simpa [marksOf] using h)) (fun D h=>hB D (by simpa [marksOf] using h)) (fun t h=>ht t (List.mem_cons_of_mem _ h))⟩
def zqs:EV -> FuncId -> List EV -> List EV -> Prop
 | .fnm f fs cs, g, as, bs=>g = f /\ as = fs /\ bs = cs
 | .pub (.fn f fs cs), g, as, bs=>g = f /\ as = fs.map .pub /\ bs = cs.map .pub
 | _, _, _, _=>False
section
variable {P:Program} {G:Glob} {st:ASt} {o:Oper}
theorem zqd {ok:Nat -> Prop} {w:World} {bs:List PB} {mem:List PO} {e:EV} {f:FuncId} {fs cs:List EV} {u:Value} (h:FitsE ok w bs mem e u) (hf:zqs e f fs cs):∃ us vs:List Value, u = .func (.func f) us.toArray vs.toArray /\ FitsEL ok w bs mem fs us /\ FitsEL ok w bs mem cs vs:=by
 cases e with
 | fnm g as bs=>
  obtain ⟨rfl, rfl, rfl⟩:=hf
  simpa only [FitsE] using h
 | pub x=>
  cases x with
  | fn g as bs=>
   obtain ⟨rfl, rfl, rfl⟩:=hf
   simp only[FitsE, Fits] at h
   obtain ⟨us, vs, e, h1, h2⟩:=h
   exact ⟨us, vs, e, FitsEL.pub.2 h1, FitsEL.pub.2 h2⟩
  | _=>exact hf.elim
 | _=>exact hf.elim
theorem FitsEL.append {ok:Nat -> Prop} {w:World} {bs:List PB} {mem:List PO}:∀ {l l':List EV} {us us':List Value}, FitsEL ok w bs mem l us -> FitsEL ok w bs mem l' us' -> FitsEL ok w bs mem (l ++ l') (us ++ us')
 | [], l', us, us', h, h'=>by simp only[FitsEL] at h; subst h; simpa using h'
 | x :: xs, l', us, us', h, h'=>by
  simp only[FitsEL] at h
  obtain ⟨u, us2, rfl, h1, h2⟩:=h
  simp only[List.cons_append, FitsEL]
  exact ⟨u, us2 ++ us', rfl, h1, FitsEL.append h2 h'⟩
def zjR (fr:Nat -> EV):List Operand -> List EV -> Prop
 | [], []=>True
 | x :: xs, c :: cs=>evO fr x = c /\ zjR fr xs cs
 | _, _=>False
theorem zfe {ok:Nat -> Prop} {w:World} {bs:List PB} {mem:List PO} {fr:Nat -> EV} {a:Act} (h:∀ x, FitsE ok w bs mem (evO fr x) (a.eval x)):∀ {l:List Operand} {cs:List EV}, zjR fr l cs -> FitsEL ok w bs mem cs (l.map a.eval)
 | [], [], _=>by simp [FitsEL]
 | x :: xs, c :: cs, hh=>by
  simp only[List.map_cons, FitsEL]
  exact ⟨_, _, rfl, hh.1 ▸ h x, zfe h hh.2⟩
 | [], _ :: _, hh=>hh.elim
 | _ :: _, [], hh=>hh.elim
theorem zev {f:FuncId} {fs cs av:List EV} {out:MOut} {fop:Operand} {args:Array Operand} {tys:Array TypeId} (ho:o.op = .call { callee:=.value fop, args:=args, argTypes:=tys }) (hf:zqs (evO st.fr fop) f fs cs) (ha:zjR st.fr args.toList av) (hc:zeq P G f (fs ++ av ++ cs) st.mem out)
  {w0:World} {ok0:Nat -> Prop} {a:Act} {w:World} (hG:G.holds w0) (hok:∀ b, ok0 b -> b < w0.heap.size) (hs:Sit w0 ok0 st a w):
  ∃ (args':Array Value), (execOp a.eval o).run P w = .ok (.enter f args') w /\ Calls P f args' w (fun e w'=>∃ ok' bs', (∀ b, ok0 b -> ok' b) /\ (∀ b, ok' b -> ok0 b ∨ w0.heap.size <= b) /\ Below w0.heap.size w0 w' /\ MemOK w0.heap.size ok' w' bs' out.mem /\
   Slots ok' w' bs' out.mem st.n (zeo st.n.n st.fr) a /\ (∀ tm':Array Value, (∀ t, t ∈ st.n.dfs -> tm'.getD t undef = a.tmps.getD t undef) -> Nod w0 w' { a with tmps:=tm' } st.n) /\ ∃ u, match out with
    | .ret r m=>e = .returned u /\ FitsE ok' w' bs' m r u
    | .pan v _=>e = .panicked (pnc u) /\ Fits ok' w' v u):=by
 obtain ⟨h0, h1, h2, ok, bs, h3, h4, h5, h6⟩:=hs
 have hev:∀ x, FitsE ok w bs st.mem (evO st.fr x) (a.eval x):=fun x=>qO fun t _=>h6.1 t
 obtain ⟨us, vs, e, k1, k2⟩:=zqd (hev fop) hf
 have hargs:=zfe hev ha
 refine ⟨_, call_exec ho hc.1 e, ?_⟩
 let gh0:List (EV × Value):=(List.range st.n.n).map (fun t=>(st.fr t, a.tmps.getD t undef)) ++ st.n.gh
 let hold0:List (Nat × Obj):=st.n.hold ++ (marksOf a.defers).map fun D=>(D, .deferred (some []))
 have hgh0:∀ p ∈ gh0, FitsE ok w bs st.mem p.1 p.2:=fun p hp=>by
  simp only[gh0, List.mem_append, List.mem_map] at hp
  rcases hp with ⟨t, _, rfl⟩ | hp
  ·exact h6.1 t
  ·exact h6.2 p hp
 have hhold0:∀ p ∈ hold0, (still p.2 = true /\ w0.heap.size <= p.1) /\ w.heap[p.1]? = some p.2:=fun p hp=>by
  simp only[hold0, List.mem_append, List.mem_map] at hp
  rcases hp with hp | ⟨D, hD, rfl⟩
  ·obtain ⟨j1, j2⟩:=h1.2 p hp
   exact ⟨⟨j1.1.1, j1.2⟩, j2⟩
  ·obtain ⟨j0, j1, j2⟩:=h1.1.marks D hD
   exact ⟨⟨rfl, j0⟩, j2⟩
 refine (hc.2 w0 ok0 ok bs w _ gh0 hold0 hG hok ⟨h2, h3, h4, h5, hgh0, hhold0⟩ ((FitsEL.append k1 hargs).append k2)).mono fun en w' ⟨ok', bs', ⟨q1, q2, q3, q4, q5, q6⟩, u, hu⟩=>?_
 refine ⟨ok', bs', q2, q3, q1, q4, ⟨fun t=>?_, fun p hp=>q5 p (List.mem_append_right _ hp)⟩, fun tm' htm=>⟨?_, fun p hp=>?_⟩, u, by cases out <;> exact hu⟩
 ·unfold zeo
  by_cases ht:t < st.n.n
  ·rw [show Nat.blt t st.n.n = true from by simpa [Nat.blt_eq] using ht]
   exact q5 (st.fr t, a.tmps.getD t undef) (List.mem_append_left _ (List.mem_map_of_mem (f:=fun t=>(st.fr t, a.tmps.getD t undef)) (List.mem_range.2 ht)))
  ·rw [show Nat.blt t st.n.n = false from by
    cases hb:Nat.blt t st.n.n
    ·rfl
    ·exact absurd (by simpa [Nat.blt_eq] using hb) ht]
   simp [FitsE, Fits]
 ·have hmk:∀ D ∈ marksOf a.defers, w'.heap[D]? = some (.deferred (some [])):=fun D hD=>(q6 (D, .deferred (some [])) (List.mem_append_right _ (List.mem_map_of_mem (f:=fun D=>(D, Obj.deferred (some []))) hD))).2
  exact h1.1.re hmk (fun D hD=>(Array.getElem?_eq_some_iff.1 (hmk D hD)).1) htm
 ·exact ⟨(h1.2 p hp).1, (q6 p (List.mem_append_left _ hp)).2⟩
theorem zfW {f:FuncId} {fs cs av:List EV} {r:EV} {mem':List PO} {fop:Operand} {args:Array Operand} {tys:Array TypeId} (ho:o.op = .call { callee:=.value fop, args:=args, argTypes:=tys }) (hd:jO o st.n = true) (hf:zqs (evO st.fr fop) f fs cs) (ha:zjR st.fr args.toList av)
  (hc:zeq P G f (fs ++ av ++ cs) st.mem (.ret r mem')):OpM P G st o ⟨st.n, qX (zeo st.n.n st.fr) o.dst r, mem'⟩:=by
 intro w0 ok0 a w hG hok hs K Q hK
 have hsz:=hs.size
 obtain ⟨args', hex, hcall⟩:=zev ho hf ha hc hG hok hs
 unfold Oper.wp
 rw [hex]
 simp only[Oper.upon]
 refine hcall.mono fun en w' ⟨ok', bs', q2, q3, q1, q4, q5, q6, u, he, hu⟩=>?_
 subst he
 refine hK _ _ ⟨(size_put ..).trans hsz, ?_, q1, ok', bs', q2, q3, q4, wo q5 hu (fun d e=>by rw [hsz]; exact (qC hd d e).1)⟩
 have hn:=q6 (a.put o.dst u).tmps (fun t ht=>by
  cases hdd:o.dst with
  | none=>rfl
  | some d=>
   have hne:t ≠ d:=fun e=>(qC hd d hdd).2 (e ▸ ht)
   simp only[Act.put, getD_put, hne, false_and, if_false])
 have e:({ a with tmps:=(a.put o.dst u).tmps }:Act) = a.put o.dst u:=by
  unfold Act.put; split <;> rfl
 rw [e] at hn
 exact hn
theorem zaE {fn:Func} {gh:List (EV × Value)} {hold:List (Nat × Obj)} {k0 N:Nat} {mks:Bool} {r:EV} {m:List PO} {e:Exit} {fr:Nat -> EV} {mem:List PO} (more:List PO) (hm:mem = m ++ more) (hk:zbM m.length m) (h0:k0 <= m.length) (he:e = .normal ∨ e = .ret) (hr:r.lt m.length)
  (hret:zp0 P fn ⟨⟨N, [], gh, mks, hold⟩, fr, mem⟩ r):zp5 P fn gh hold k0 (.ret r m) e ⟨⟨N, [], gh, mks, hold⟩, fr, mem⟩:=
 ⟨⟨more, hm⟩, hk, h0, rfl, fun _ h=>h, fun _ h=>h, he, hr, hret⟩
theorem ACall.m {f:FuncId} {args:List AV} {r:AV} {mem:List PO} (h:ACall P G f args r):zeq P G f (args.map .pub) mem (.ret (.pub r) mem):=
 ⟨h.1, fun w0 ok0 ok bs w vs gh hold hG hok ho hfit=>(h.2 ok w vs (G.stable _ _ hG ho.below) ho.mok.lt (FitsEL.pub.1 hfit)).mono fun e w' ⟨u, he, hb, hu⟩=>by
  refine ⟨okN ok w w', bs, ⟨wI ho.below ho.below.size hb, fun b hb'=>.inl (ho.up b hb'), fun b hb'=>?_, ho.mok.grow hb, fun p hp=>(ho.gh p hp).grow ho.mok.lt hb, fun p hp=>⟨(ho.hold p hp).1, ?_⟩⟩, u, he, by simpa only [FitsE] using hu⟩
  ·rcases hb' with h | h
   ·exact ho.dn b h
   ·exact .inr (Nat.le_trans ho.below.size h.1)
  ·rw [hb.block _ (Array.getElem?_eq_some_iff.1 (ho.hold p hp).2).1]; exact (ho.hold p hp).2⟩
end
end Go.Av
end
