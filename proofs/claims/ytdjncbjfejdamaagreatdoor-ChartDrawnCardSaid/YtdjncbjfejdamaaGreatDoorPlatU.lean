import Derived.Test.YtdjncbjfejdamaaGreatDoorPlatN
import Derived.Test.YtdjncbjfejdamaaGreatDoorPlatQ
import Derived.Shelf.SlSortCmp.QuietGrown
import Derived.Test.YtdjncbjfejdamaaGreatDoorPlatM
import Derived.Shelf.SlSortCmp.WholeK
import Derived.Shelf.SlSortCmp.NoneTotal
set_option linter.unusedVariables false
set_option linter.unusedSimpArgs false
section
namespace Go.Av
open Go.RowKit
section
variable {P:Program} {G:Glob} {α:Type} {enc:α -> Value} {o:Oper}
theorem zKB {w0:World} {ok0:Nat -> Prop} {n:NS} {fr:Nat -> EV} {mem:List PO} {act:Act} {w:World} {l g:Nat} {b:PB} {arr arr':Array MapEntry} {es es':List (α × EV)} {ok:Nat -> Prop} {bs:List PB} {dst:Option Tmp} {e:EV} {u:Value}
  (h0:act.tmps.size = n.n) (h1:Nod w0 w act n) (h2:Below w0.heap.size w0 w) (h3:∀ b, ok0 b -> ok b) (h4:∀ b, ok b -> ok0 b ∨ w0.heap.size <= b) (h5:MemOK w0.heap.size ok w bs mem) (h6:Slots ok w bs mem n fr act)
  (hb:bs[l]? = some b) (hbg:b.blk = some g) (hm:mem[l]? = some (zlS enc es)) (hg:w.heap[g]? = some (.map arr es.length)) (hl':arr'.size = es'.length)
  (he':∀ (j:Nat) (k:α) (z:EV), es'[j]? = some (k, z) -> ∃ u, arr'[j]? = some ⟨enc k, u, j⟩ /\ FitsE ok w bs mem z u) (hd:DOK dst n) (hu:FitsE ok w bs mem e u):
  Sit w0 ok0 ⟨n, jr fr dst e, mem.set l (zlS enc es')⟩ (act.put dst u) { w with heap:=w.heap.setIfInBounds g (.map arr' es'.length) }:=by
 have hlt:=(Array.getElem?_eq_some_iff.1 hg).1
 have hother:∀ k, k ≠ g -> (w.heap.setIfInBounds g (.map arr' es'.length))[k]? = w.heap[k]?:=fun k hk=>Array.getElem?_setIfInBounds_ne (Ne.symm hk)
 have hturn:=h5.turnO (w':={ w with heap:=w.heap.setIfInBounds g (.map arr' es'.length) }) (b':=b) (o':=zlS enc es') hb hm rfl (by simp) (fun k _ hk=>hother k (fun e=>hk (by rw [e, hbg])))
  ⟨fun r e=>(by cases e), fun es e=>⟨⟨_, rfl⟩, rfl⟩⟩ (fun g' hg'=>.inl hg') h2.size (fun hfit=>⟨fun r e=>(by cases e), fun es2 e=>by
   injection e with e
   subst e
   refine ⟨g, arr', hbg, by simp [hlt], by simpa using hl', fun j k z hz=>?_⟩
   rw [List.getElem?_map, Option.map_eq_some_iff] at hz
   obtain ⟨⟨k', z'⟩, hz, e⟩:=hz
   injection e with e1 e2
   subst e1; subst e2
   obtain ⟨u, hu1, hu2⟩:=he' j k' z' hz
   exact ⟨u, hu1, hfit _ _ hu2⟩⟩)
 obtain ⟨hm', hf'⟩:=hturn
 have hbs:bs.set l b = bs:=by
  apply List.ext_getElem?
  intro t
  by_cases ht:l = t
  ·
   subst ht; rw [hb]; simp [(zLg hb).1]
  ·
   rw [List.getElem?_set_ne ht]
 rw [hbs] at hm' hf'
 have hnot:∀ p, w.heap[g]? = some p -> still p = true -> False:=fun p hp hs=>by rw [hg] at hp; injection hp with hp; subst hp; cases hs
 refine ⟨(size_put ..).trans h0, h1.put ⟨by simp, fun D p hD hp=>?_⟩ hd, h2.trans ⟨rfl, rfl, rfl, by simp, fun k hk=>hother k (fun e=>?_)⟩, ok, bs, h3, h4, hm', ?_⟩
 ·
  rw [hother D (fun e=>hnot p (by rw [← e]; exact hD) hp)]; exact hD
 ·
  have:=(h5.own' l b _ g hb hm rfl hbg).1
  omega
 ·
  exact wX (h6.map hf') (hf' _ _ hu) (fun d e=>by rw [h0]; exact (hd d e).1)
theorem zIC {fr:Nat -> EV} {mem:List PO} {x:Operand} {l:List EV} {i:Nat} {c:EV} (ho:o.op = .extract x i) (hx:evO fr x = .tpl l) (hc:l[i]? = some c):OpY P G fr mem o c:=
 jI fun ok bs w a _ _ hfit=>by
  have h:=hfit x (by simp [ho, Op.operands])
  rw [hx] at h
  simp only[FitsE] at h
  obtain ⟨vs, e, h2⟩:=h
  obtain ⟨u, h3, h4⟩:=h2.get hc
  have h5:i < vs.length:=(zLg h3).1
  have h6:vs[i] = u:=(zLg h3).2
  exact ⟨u, by simp [execOp, ho, e, Instr.extract, h5, h6], h4⟩
theorem zJd {st:ASt} {T:TypeId} {x s y:Operand} {l ix:Nat} {es:List (α × EV)} {a:α} {v0 v:EV} (ho:o.op = .entryStore T x s y) (hd:o.dst = none) (hx:evO st.fr x = .mpv l) (hm:st.mem[l]? = some (zlS enc es)) (hs:evO st.fr s = .pub (.v (goInt ix))) (he:es[ix]? = some (a, v0))
  (hy:evO st.fr y = v):OpM P G st o ⟨st.n, st.fr, st.mem.set l (zlS enc (es.set ix (a, v)))⟩:=by
 intro w0 ok0 act w hG hok hsit K Q hKK
 obtain ⟨h0, h1, h2, ok, bs, h3, h4, h5, h6⟩:=hsit
 have ex:=jd (fr:=st.fr) (a:=act) (x:=x) fun t _=>h6.1 t
 rw [hx] at ex
 obtain ⟨b, g, arr, hb, hbg, hu, hg, hkeys, hlen, hent⟩:=zkb h5 ex hm
 have hsv:=xR (jd (fr:=st.fr) (a:=act) (x:=s) fun t _=>h6.1 t) hs
 have hyE:=jd (fr:=st.fr) (a:=act) (x:=y) fun t _=>h6.1 t
 rw [hy] at hyE
 have hobj:(getObj g).run P w = .ok (.map arr es.length) w:=by simp [getObj, Sem.run, hg]
 have hset:∀ (arr':Array MapEntry) (c:Nat), (setObj g (.map arr' c)).run P w = .ok () { w with heap:=w.heap.setIfInBounds g (.map arr' c) }:=fun arr' c=>by simp [setObj, Sem.run, hg]
 have hil:ix < es.length:=(zLg he).1
 have hborn:∀ (j:Nat) (q:MapEntry), arr[j]? = some q -> q.born = j:=fun j q hq=>by
  have hjl:j < es.length:=by have:=(Array.getElem?_eq_some_iff.1 hq).1; omega
  obtain ⟨u, hu1, _⟩:=hent j es[j].1 es[j].2 (List.getElem?_eq_getElem hjl)
  rw [hq] at hu1
  injection hu1 with hu1
  rw [hu1]
 have hfi:arr.findIdx? (fun e=>((e.born:Int) == (ix:Int))) = some ix:=by
  rw [Array.findIdx?_eq_some_iff_getElem]
  refine ⟨by omega, ?_, fun j hj=>?_⟩
  ·
   have:=hborn ix arr[ix] (Array.getElem?_eq_getElem _)
   simp [this]
  ·
   have:=hborn j arr[j] (Array.getElem?_eq_getElem _)
   simp [this]; omega
 have hrun:(execOp act.eval o).run P w = .ok .skip { w with heap:=w.heap.setIfInBounds g (.map (arr.modify ix fun e=>{ e with val:=act.eval y }) (es.set ix (a, v)).length) }:=by
  have zTb:(asInt (goInt ix)).run P w = .ok (ix:Int) w:=by simp [asInt, asIntOf, goInt]
  simp only[execOp, ho, Instr.entryStore, hu, hsv, Sem.run_bind, hobj, Result.andThen_ok, zTb, hfi, hset, Sem.run_pure]
  simp
 unfold Oper.wp
 rw [hrun]
 simp only[Oper.upon]
 have hpn:act.put o.dst undef = act:=by rw [hd]; rfl
 have:=zKB (enc:=enc) (es':=es.set ix (a, v)) (dst:=none) (e:=.pub .top) (u:=undef) h0 h1 h2 h3 h4 h5 h6 hb hbg hm hg (arr':=arr.modify ix fun e=>{ e with val:=act.eval y }) (by simp [hlen]) (fun j k z hz=>by
  by_cases hj:ix = j
  ·
   subst hj
   rw [List.getElem?_set_self hil] at hz
   injection hz with hz
   injection hz with e1 e2
   subst e1; subst e2
   obtain ⟨u, hu1, _⟩:=hent ix a v0 he
   exact ⟨act.eval y, by rw [Array.getElem?_modify, if_pos rfl, hu1]; rfl, hyE⟩
  ·
   rw [List.getElem?_set_ne hj] at hz
   obtain ⟨u, hu1, hu2⟩:=hent j k z hz
   exact ⟨u, by rw [Array.getElem?_modify, if_neg hj]; exact hu1, hu2⟩) (fun d e=>by cases e) (by simp [FitsE, Fits])
 rw [hpn]
 exact hKK _ _ this
variable [DecidableEq α]
def ixE (a:α) (es:List (α × EV)):Nat:=(kV a (es.map (·.1))).getD es.length
theorem zK8 (a:α) (x y:EV) (es:List (α × EV)):(yh a x es).set (ixE a es) (a, y) = yh a y es /\ (yh a x es)[ixE a es]? = some (a, x):=by
 unfold ixE
 obtain ⟨s1, s2⟩:=zep a x es
 obtain ⟨t1, t2⟩:=zep a y es
 cases h:kV a (es.map (·.1)) with
 | none=>rw [s1 h, t1 h, Option.getD_none]; simp
 | some j=>
  have hlt:j < es.length:=by have:=(zLg (zg5 h)).1; simpa using this
  rw [s2 j h, t2 j h, Option.getD_some]
  simp [hlt]
theorem zJT {st:ASt} {T kt et:TypeId} {x i:Operand} {l:Nat} {es:List (α × EV)} {a:α} {kx:AV} {z:Value} (ho:o.op = .mapEntry T x i) (hd:vC o st.n = true) (hx:evO st.fr x = .mpv l) (hm:st.mem[l]? = some (zlS enc es)) (hi:evO st.fr i = .pub kx) (hk:znQ kx (enc a))
  (hT:P.underlying T = some (.map kt et)) (hK:KeyT P kt enc) (hz:(P.info? et).bind (·.zero) = some z) (hz1:z.oneCell' = true):
  OpM P G st o ⟨st.n, jr st.fr o.dst (.tpl [zHu a (.pub (.v z)) es, .pub (.v (goInt (ixE a es)))]), st.mem.set l (zlS enc (yh a (zHu a (.pub (.v z)) es) es))⟩:=by
 intro w0 ok0 act w hG hok hsit K Q hKK
 obtain ⟨h0, h1, h2, ok, bs, h3, h4, h5, h6⟩:=hsit
 have ex:=jd (fr:=st.fr) (a:=act) (x:=x) fun t _=>h6.1 t
 rw [hx] at ex
 obtain ⟨b, g, arr, hb, hbg, hu, hg, hkeys, hlen, hent⟩:=zkb h5 ex hm
 have ei:=jd (fr:=st.fr) (a:=act) (x:=i) fun t _=>h6.1 t
 rw [hi] at ei
 simp only[FitsE] at ei
 have hkv:=hk _ _ _ ei
 have hobj:(getObj g).run P w = .ok (.map arr es.length) w:=by simp [getObj, Sem.run, hg]
 have hfind:=zjr hK hkeys a w
 have hset:∀ (arr':Array MapEntry) (c:Nat), (setObj g (.map arr' c)).run P w = .ok () { w with heap:=w.heap.setIfInBounds g (.map arr' c) }:=fun arr' c=>by simp [setObj, Sem.run, hg]
 obtain ⟨s1, s2⟩:=zep a (zHu a (.pub (.v z)) es) es
 obtain ⟨g1, g2⟩:=zhh a (EV.pub (.v z)) es
 cases hix:kV a (es.map (·.1)) with
 | none=>
  rw [hix] at hfind
  have hzv:(zeroValue et).run P w = .ok z w:=by
   rw [Option.bind_eq_some_iff] at hz
   obtain ⟨inf, hi1, hi2⟩:=hz
   simp [zeroValue, typeInfo, hi1, hi2]
  have hgz:=(g1 hix).1
  have e1:=s1 hix
  rw [hgz] at e1
  simp only[hgz] at hKK
  have hrun:(execOp act.eval o).run P w = .ok (.value (.tuple #[z, goInt (ixE a es)])) { w with heap:=w.heap.setIfInBounds g (.map (arr.push { key:=enc a, val:=z, born:=es.length }) (yh a (.pub (.v z)) es).length) }:=by
   simp only[execOp, ho, Instr.mapEntry, Sem.run_bind, run_underlying hT, Result.andThen_ok, hu, hobj, hkv, hK.check, hfind, Option.bind_none, hzv, hset, Sem.run_pure]
   simp [ixE, hix, e1]
  refine jT hrun (hKK _ _ ?_)
  refine zKB (enc:=enc) (es':=yh a (.pub (.v z)) es) (dst:=o.dst) h0 h1 h2 h3 h4 h5 h6 hb hbg hm hg (by rw [e1]; simp [hlen]) (fun j k v hv=>?_) (qM hd) ?_
  ·
   rw [e1, List.getElem?_append] at hv
   split at hv
   ·
    rename_i hj
    obtain ⟨u, hu1, hu2⟩:=hent j k v hv
    exact ⟨u, by rw [Array.getElem?_push, if_neg (by omega)]; exact hu1, hu2⟩
   ·
    rename_i hj
    have hj0:j - es.length = 0:=by have:=(zLg hv).1; simp at this; omega
    rw [hj0] at hv
    simp at hv
    obtain ⟨rfl, rfl⟩:=hv
    have hje:j = es.length:=by omega
    subst hje
    exact ⟨z, by rw [Array.getElem?_push, if_pos hlen.symm], by simp only[FitsE, Fits]; exact ⟨trivial, hz1⟩⟩
  ·
   simp only[FitsE, FitsEL, Fits]
   exact ⟨[z, goInt (ixE a es)], rfl, _, _, rfl, ⟨rfl, hz1⟩, _, _, rfl, ⟨rfl, rfl⟩, rfl⟩
 | some j=>
  rw [hix] at hfind
  have hja:=zg5 hix
  rw [List.getElem?_map, Option.map_eq_some_iff] at hja
  obtain ⟨⟨a', y0⟩, hy0, rfl⟩:=hja
  obtain ⟨u0, hu0, hu2⟩:=hent j a' y0 hy0
  have hvl:arr.toList[j]? = some ⟨enc a', u0, j⟩:=by rw [Array.getElem?_toList]; exact hu0
  have hjl:j < es.length:=(zLg hy0).1
  obtain ⟨y, hy, hget, _⟩:=g2 j hix
  have hyu:y = y0:=by rw [hy0] at hy; injection hy with hy; injection hy with _ hy; exact hy.symm
  subst hyu
  have hself:yh a' (zHu a' (.pub (.v z)) es) es = es:=by
   rw [s2 j hix, hget]
   exact List.ext_getElem? fun t=>by
    by_cases ht:j = t
    ·
     subst ht; rw [List.getElem?_set_self hjl, hy0]
    ·
     rw [List.getElem?_set_ne ht]
  have hstay:(Instr.keyThatStays (enc a') (enc a')).run P w = .ok (enc a') w:=by
   simp [Instr.keyThatStays, hK.bits]
  have hrun:(execOp act.eval o).run P w = .ok (.value (.tuple #[u0, goInt (ixE a' es)])) { w with heap:=w.heap.setIfInBounds g (.map (arr.modify j fun q=>{ q with key:=enc a' }) es.length) }:=by
   simp only[execOp, ho, Instr.mapEntry, Sem.run_bind, run_underlying hT, Result.andThen_ok, hu, hobj, hkv, hK.check, hfind, hset, Sem.run_pure]
   simp [ixE, hix, hu0, hset, hstay]
  have e2:yh a' y es = es:=by have:=hself; simp only[hget] at this; exact this
  have e7:=hKK
  simp only[hget, e2] at e7
  refine jT hrun (e7 _ _ ?_)
  refine zKB (enc:=enc) (es':=es) (dst:=o.dst) h0 h1 h2 h3 h4 h5 h6 hb hbg hm hg (by simp [hlen]) (fun j' k v hv=>?_) (qM hd) ?_
  ·
   obtain ⟨u, hu1, hu3⟩:=hent j' k v hv
   refine ⟨u, ?_, hu3⟩
   by_cases hjj:j = j'
   ·
    subst hjj
    rw [Array.getElem?_modify, if_pos rfl, hu1]
    rw [hy0] at hv
    injection hv with hv
    injection hv with e3 e4
    subst e3
    rfl
   ·
    rw [Array.getElem?_modify, if_neg hjj]; exact hu1
  ·
   simp only[FitsE, FitsEL, Fits]
   exact ⟨[u0, goInt (ixE a' es)], rfl, _, _, rfl, hu2, _, _, rfl, ⟨rfl, rfl⟩, rfl⟩
end
end Go.Av
end
section
namespace Go.Av
open Go.RowKit
section
variable {P:Program} {md:Region.Mode}
def zKp (P:Program) (ops:Array Oper) (N:Nat) (Q:Exit -> Act -> World -> Prop):Exit -> Act -> World -> Prop
 | .normal, a, w=>wpOp P ops Q N (fun a w=>Q .normal a w) a w
 | e, a, w=>Q e a w
theorem zJm {ops:Array Oper} {N:Nat} {Q:Exit -> Act -> World -> Prop} (h:LetsOut (zKp P ops N Q)):LetsOut Q:=by
 obtain ⟨a, w, h⟩:=h
 exact ⟨a, w, h⟩
theorem zOD {ops:Array Oper} {N:Nat} {Q:Exit -> Act -> World -> Prop} {o:Oper} {a:Act} {w:World} {K K':Act -> World -> Prop} (h:∀ a w, K a w -> K' a w) (hh:o.wp P a w K (zKp P ops N Q)):o.wp P a w K' Q:=by
 unfold Oper.wp at *
 generalize (execOp a.eval o).run P w = r at *
 cases r with
 | ok x w'=>
  cases x <;> simp only[Oper.upon] at hh ⊢ <;>
   first
    | exact h _ _ hh
    | exact Calls.mono hh (fun e w'' he=>by cases e <;> first | exact h _ _ he | exact zJm he | exact he)
    | exact Rows.mono hh (fun _ _ he=>h _ _ he)
    | exact hh
 | halt x w'=>cases x <;> simp only[Oper.upon] at hh ⊢ <;> exact hh
theorem zMa {l:List Oper} {o:Oper} {N i:Nat} {ops:Array Oper} (hops:ops = (l ++ [o]).toArray) (hi:i < l.length) (hg:∀ oi j b, l[i]? = some oi -> oi.guard = some (j, b) -> j < l.length) {Q:Exit -> Act -> World -> Prop} {K K':Act -> World -> Prop} {a:Act} {w:World} (h:∀ a w, K a w -> K' a w)
  (hh:wpOp P l.toArray (zKp P ops N Q) i K a w):wpOp P ops Q i K' a w:=by
 have e1:l.toArray[i]? = some l[i]:=by simp [hi]
 have e2:ops[i]? = some l[i]:=by rw [hops]; simp [List.getElem?_append_left hi, hi]
 unfold wpOp at *
 simp only[e1] at hh
 simp only[e2]
 have hw:Region.wanted l[i] (yielded ops a.tmps) = Region.wanted l[i] (yielded l.toArray a.tmps):=by
  unfold Region.wanted
  cases hgd:l[i].guard with
  | none=>rfl
  | some p=>
   obtain ⟨j, b⟩:=p
   simp only
   rw [hops, zyA (hg l[i] j b (by simp [hi]) hgd)]
 rw [hw]
 split
 ·
  rename_i hc
  rw [if_pos hc] at hh
  exact hh.imp (fun hh=>zOD h hh) (fun hh=>⟨hh.1, zJm hh.2⟩)
 ·
  rename_i hc
  rw [if_neg hc] at hh
  exact h _ _ hh
theorem zJB {l:List Oper} {o:Oper} {k:Nat} (hB:lastB md l o k = true) {Q:Exit -> Act -> World -> Prop} {ops:Array Oper} (hops:ops = (l ++ [o]).toArray):∀ (fuel:Nat) (s:Array Bool) (a:Act) (w:World), s.size = l.length -> Closd md l (fun i=>s.getD i false) ->
  wpAny P md l.toArray (zKp P ops l.length Q) fuel s a w -> wpAny P md ops Q (fuel + 1) (s.push false) a w:=by
 simp only[lastB, zLa, List.all_eq_true] at hB
 obtain ⟨⟨ht, hgo⟩, hall⟩:=hB
 have ht':zwu md l = true:=by
  unfold zwu at ht ⊢
  rw [List.all_eq_true] at ht ⊢
  intro i hi
  rw [List.mem_range] at hi
  have:=ht i (List.mem_range.2 (by simp; omega))
  rwa [List.getElem?_append_left hi] at this
 have hN:ops[l.length]? = some o:=by rw [hops]; simp
 have hto:∀ {i:Nat} (hi:i < l.length), (∀ e ∈ l[i].after, Region.binds md e = true -> e.on < i) /\ ∀ j b, l[i].guard = some (j, b) -> j < i:=fun {i} hi=>zwc ht (i:=i) (o:=l[i]) (by simp [List.getElem?_append_left hi, hi])
 have rN1:∀ s:Array Bool, s.size = l.length -> (∀ i, i < l.length -> s.getD i false = true) -> l.length ∈ Region.ready md ops (s.push false):=fun s hs h=>mem_ready.2 ⟨by rw [← hs]; exact zxu _ _, o, hN, fun e he hb=>by
  have h1:=(zwc ht (i:=l.length) (o:=o) (by simp)).1 e he hb
  rw [zvi _ _ (by omega)]
  exact h _ h1⟩
 have rN2:∀ s:Array Bool, s.size = l.length -> Closd md l (fun i=>s.getD i false) -> l.length ∈ Region.ready md ops (s.push false) -> ∀ i, i < l.length -> s.getD i false = true:=fun s hs hc h i hi=>by
  obtain ⟨_, o', ho', h2⟩:=mem_ready.1 h
  rw [hN] at ho'
  injection ho' with ho'
  subst ho'
  have hc2:Closd md (l ++ [o]) (fun i=>(s.push false).getD i false):=by
   intro j oj hj hsj e he hb
   by_cases hjl:j < l.length
   ·
    rw [List.getElem?_append_left hjl] at hj
    have e3:l[j] = oj:=by rw [List.getElem?_eq_getElem hjl] at hj; injection hj
    have h3:=(hto hjl).1 e (by rw [e3]; exact he) hb
    simp only[zvi _ _ (show j < s.size by omega)] at hsj
    simp only[zvi _ _ (show e.on < s.size by omega)]
    exact hc j oj hj hsj e he hb
   ·
    have e4:j = l.length:=by
     have:=(zLg hj).1
     simp at this; omega
    subst e4
    simp only[← hs, zxu] at hsj
    cases hsj
  have h3:=zyP hc2 k (waits md (l ++ [o]) l.length) (fun x hx=>by
   unfold waits at hx
   rw [show (l ++ [o])[l.length]? = some o by simp] at hx
   simp only[List.mem_filterMap] at hx
   obtain ⟨e, he, hx⟩:=hx
   split at hx
   ·
    rename_i hb
    injection hx with hx
    exact hx ▸ h2 e (by simpa using he) hb
   ·
    cases hx) i (by simpa using hall i (List.mem_range.2 hi))
  simp only[zvi _ _ (show i < s.size by omega)] at h3
  exact h3
 have rin:∀ {i:Nat} {L:List Oper} {s:Array Bool}, i ∈ Region.ready md L.toArray s -> i < L.length:=fun {i L s} hi=>by
  obtain ⟨_, o', ho', _⟩:=mem_ready.1 hi
  have:=(Array.getElem?_eq_some_iff.1 ho').1
  simpa using this
 have fin:∀ (s:Array Bool), s.size = l.length -> (∀ i, i < l.length -> s.getD i false = true) -> Region.ready md ops ((s.push false).setIfInBounds l.length true) = []:=fun s hs h=>by
  refine List.eq_nil_iff_forall_not_mem.2 fun i hi=>?_
  obtain ⟨h1, _⟩:=mem_ready.1 hi
  rw [hops] at hi
  have hlt:=rin hi
  simp at hlt
  by_cases hil:i < l.length
  ·
   rw [getD_set_ne true (Ne.symm (Nat.ne_of_lt hil)), zvi _ _ (by omega), zxa (by omega), h i hil] at h1
   cases h1
  ·
   have e4:i = l.length:=by omega
   subst e4
   simp [Array.getD_eq_getD_getElem?, hs] at h1
 have allr:∀ s:Array Bool, s.size = l.length -> (∀ i, i < l.length -> s.getD i false = true) -> Region.ready md l.toArray s = []:=fun s hs h=>by
  refine List.eq_nil_iff_forall_not_mem.2 fun i hi=>?_
  obtain ⟨h1, _⟩:=mem_ready.1 hi
  have hlt:=rin hi
  rw [zxa (by omega), h i hlt] at h1
  cases h1
 intro fuel
 induction fuel with
 | zero=>
  intro s a w hs hc hh
  obtain ⟨h0, h1⟩:=hh
  have ha:=zwo ht' hs h0
  refine ⟨fun h=>?_, fun i hi=>?_⟩
  ·
   have:=rN1 s hs ha
   rw [h] at this; cases this
  ·
   have hi':=hi
   rw [hops] at hi
   have hlt:=rin hi
   simp at hlt
   by_cases hil:i < l.length
   ·
    have:=(zwT ht hs false hil).1 hi
    rw [h0] at this; cases this
   ·
    have e4:i = l.length:=by omega
    subst e4
    exact wpOp_mono (fun a w hq=>⟨fin s hs ha, hq⟩) h1
 | succ fuel ih=>
  intro s a w hs hc hh
  obtain ⟨h0, h1⟩:=hh
  refine ⟨fun h=>?_, fun i hi=>?_⟩
  ·
   have hr:Region.ready md l.toArray s = []:=List.eq_nil_iff_forall_not_mem.2 fun i hi=>by
    have:=(zwT (o:=o) ht hs false (rin hi)).2 hi
    rw [← hops, h] at this; cases this
   have:=rN1 s hs (zwo ht' hs hr)
   rw [h] at this; cases this
  ·
   have hi':=hi
   rw [hops] at hi
   have hlt:=rin hi
   simp at hlt
   by_cases hil:i < l.length
   ·
    have hr:i ∈ Region.ready md l.toArray s:=(zwT ht hs false hil).1 hi
    have h2:=h1 i hr
    have e:(s.push false).setIfInBounds i true = (s.setIfInBounds i true).push false:=by
     apply Array.ext_getElem?
     intro j
     by_cases hij:i = j
     ·
      subst hij
      simp only[Array.getElem?_setIfInBounds, hs, hil, Nat.lt_succ_of_lt hil, Array.size_push, if_true]
      rw [Array.getElem?_push_lt (by simpa [hs] using hil)]
      simp
     ·
      rw [Array.getElem?_setIfInBounds_ne hij, Array.getElem?_push, Array.getElem?_push, Array.getElem?_setIfInBounds_ne hij]
      simp
    rw [e]
    refine zMa hops hil (fun oi j b hoi hg=>?_) (fun a w hk=>ih (s.setIfInBounds i true) a w (by simpa using hs) ?_ hk) h2
    ·
     have e5:l[i] = oi:=by rw [List.getElem?_eq_getElem hil] at hoi; injection hoi
     have h3:=(hto hil).2 j b (by rw [e5]; exact hg)
     omega
    ·
     intro j oj hj hsj e he hb
     by_cases hij:i = j
     ·
      subst hij
      obtain ⟨_, o', ho', h4⟩:=mem_ready.1 hr
      have e5:o' = oj:=by
       simp only[List.getElem?_toArray] at ho'
       rw [ho'] at hj; injection hj
      subst e5
      have h5:=h4 e he hb
      by_cases hie:i = e.on
      ·
       simp only[← hie]; exact hsj
      ·
       simp only[getD_set_ne _ hie]; exact h5
     ·
      simp only[getD_set_ne _ hij] at hsj
      have h5:=hc j oj hj hsj e he hb
      by_cases hie:i = e.on
      ·
       simp only[← hie]
       have hlt:i < s.size:=by omega
       simp [Array.getD_eq_getD_getElem?, hlt]
      ·
       simp only[getD_set_ne _ hie]; exact h5
   ·
    have e4:i = l.length:=by omega
    subst e4
    have ha:=rN2 s hs hc hi'
    have h2:=h0 (allr s hs ha)
    exact wpOp_mono (fun a w hq=>⟨fun _=>hq, fun j hj=>by rw [fin s hs ha] at hj; cases hj⟩) h2
theorem zJC {ops:Array Oper} {Q:Exit -> Act -> World -> Prop} {i:Nat} {o:Oper} {K:Act -> World -> Prop} {a:Act} {w:World} (hi:ops[i]? = some o) (hg:o.guard = none) (h:o.wp P a w K Q ∨ (o.asks P a w /\ LetsOut Q)):wpOp P ops Q i K a w:=by
 unfold wpOp
 simp only[hi]
 rw [if_pos (by simp [Region.wanted, hg])]
 exact h
theorem zJx {l:List Oper} {o:Oper} {k:Nat} (h:lastB md l o k = true):o.guard = none:=by
 simp only[lastB, zLa] at h
 exact Option.isNone_iff_eq_none.1 h.1.2
theorem zK6 {N:Nat} {ops:Array Oper} {Q:Exit -> Act -> World -> Prop} {o:Oper} {a:Act} {w:World} {K K':Act -> World -> Prop} (h:∀ a w, K a w -> K' a w) (hh:o.wp P a w K Q ∨ (o.asks P a w /\ LetsOut Q)):o.wp P a w K' (zKp P ops N Q) ∨ (o.asks P a w /\ LetsOut (zKp P ops N Q)):=by
 have lo:LetsOut Q -> LetsOut (zKp P ops N Q):=fun ⟨a, w, h⟩=>⟨a, w, h⟩
 refine hh.imp (fun hh=>?_) (fun hh=>⟨hh.1, lo hh.2⟩)
 unfold Oper.wp at *
 generalize (execOp a.eval o).run P w = r at *
 cases r with
 | ok x w'=>
  cases x <;> simp only[Oper.upon] at hh ⊢ <;>
   first
    | exact h _ _ hh
    | exact Calls.mono hh (fun e w'' he=>by cases e <;> first | exact h _ _ he | exact lo he | exact he)
    | exact Rows.mono hh (fun _ _ he=>h _ _ he)
    | exact hh
 | halt x w'=>cases x <;> simp only[Oper.upon] at hh ⊢ <;> exact hh
theorem zR7 {l:List Oper} {o:Oper} {n:Nat} (h:n = l.length):(l ++ [o]).toArray[n]? = some o:=by subst h; simp
theorem zJW {id:Nat} {L:List Oper} {Q:Exit -> Act -> World -> Prop} {a:Act} {w:World} (pre:List Oper) (o1 o2 o3:Oper) (k:Nat) (hL:L = ((pre ++ [o1]) ++ [o2]) ++ [o3]) (hm:P.follows .mixedOrders = true)
  (hB:Region.lexB .any pre.toArray = true) (h1:lastB .any pre o1 k = true) (h2:lastB .any (pre ++ [o1]) o2 k = true) (h3:lastB .any ((pre ++ [o1]) ++ [o2]) o3 k = true)
  (C:World -> Prop) (hC:C { w with drawn:=w.drawn + 1 }) (h:wpQuiet P pre.toArray C (fun a'=>∀ w', C w' -> wpList P #[o1, o2, o3] Q [o1, o2, o3] a' w') pre a):(Code.region id L.toArray true).wp P Q a w:=by
 subst hL
 simp only[Region.lexB, zLa] at hB
 have g1:=zJx h1
 have g2:=zJx h2
 have g3:=zJx h3
 refine wp_region_any hm ?_
 have hsz:(((pre ++ [o1]) ++ [o2]) ++ [o3]).toArray.size = ((pre ++ [o1]) ++ [o2]).length + 1:=by simp
 rw [hsz, show Array.replicate (((pre ++ [o1]) ++ [o2]).length + 1) false = (Array.replicate ((pre ++ [o1]) ++ [o2]).length false).push false by rw [Array.replicate_succ]]
 refine zJB h3 rfl _ _ a _ (by simp) (zxx _ _) ?_
 rw [show ((pre ++ [o1]) ++ [o2]).length = (pre ++ [o1]).length + 1 by simp, show Array.replicate ((pre ++ [o1]).length + 1) false = (Array.replicate (pre ++ [o1]).length false).push false by rw [Array.replicate_succ]]
 refine zJB h2 rfl _ _ a _ (by simp) (zxx _ _) ?_
 rw [show (pre ++ [o1]).length = pre.length + 1 by simp, show Array.replicate (pre.length + 1) false = (Array.replicate pre.length false).push false by rw [Array.replicate_succ]]
 refine zJB h1 rfl _ _ a _ (by simp) (zxx _ _) ?_
 refine wpAny_of_quiet (C:=C) (Q:=fun a'=>∀ w', C w' -> wpList P #[o1, o2, o3] Q [o1, o2, o3] a' w') (fun a' w' hw' hq=>?_) _ _ _ _ hC ?_
 ·
  have hq:=hq w' hw'
  simp only[wpList] at hq
  rw [if_pos (by simp [Region.wanted, g1])] at hq
  show wpOp _ _ _ _ _ _ _
  refine zJC (o:=o1) (zR7 (by simp)) g1 (zK6 (fun a w hq=>?_) (zK6 (fun a w hq=>hq) hq))
  rw [if_pos (by simp [Region.wanted, g2])] at hq
  show wpOp _ _ _ _ _ _ _
  refine zJC (o:=o2) (zR7 (by simp)) g2 (zK6 (fun a w hq=>?_) hq)
  rw [if_pos (by simp [Region.wanted, g3])] at hq
  show wpOp _ _ _ _ _ _ _
  exact zJC (o:=o3) (zR7 (by simp)) g3 hq
 ·
  have:=wpAnyQ_lex (C:=C) (md:=.any) hB.1 pre 0 (Array.replicate pre.length false) a (by simp) (by simpa using hB.2) h
  simpa using this
theorem zIB {id:Nat} {L:List Oper} {Q:Exit -> Act -> World -> Prop} {a:Act} {w:World} (pre:List Oper) (o1 o2 o3:Oper) (k:Nat) (hL:L = ((pre ++ [o1]) ++ [o2]) ++ [o3]) (hm:P.follows .mixedOrders = true)
  (hB:Region.lexB .any pre.toArray = true) (h1:lastB .any pre o1 k = true) (h2:lastB .any (pre ++ [o1]) o2 k = true) (h3:lastB .any ((pre ++ [o1]) ++ [o2]) o3 k = true)
  (h:wpQuiet P pre.toArray (fun w'=>∃ p:GrownBy, w' = Sort.grow (w.drewN p.n) p.os) (fun a'=>∀ w', (∃ p:GrownBy, w' = Sort.grow (w.drewN p.n) p.os) -> wpList P #[o1, o2, o3] Q [o1, o2, o3] a' w') pre a):(Code.region id L.toArray true).wp P Q a w:=
 zJW pre o1 o2 o3 k hL hm hB h1 h2 h3 _ ⟨⟨1, #[]⟩, by rw [Sort.grow_empty]; rfl⟩ h
end
end Go.Av
end
section
namespace Go.Av
open Go.RowKit Go.Proofs
def rowP (c:Int × Int):List EV:=[.pub (.v (.int .i64 c.1)), .pub (.v (.int .i64 c.2))]
def zSz (x:Int × Int):List Value:=[.int .i64 x.1, .int .i64 x.2]
theorem zJU {α:Type} [Inhabited α] (enc:α -> List Value) (k:Nat) (w:World) (blk off m:Nat) (dk:Array α) (os:Array Obj):sortWorldK enc k w blk off m dk os = sortWorld id w blk off m (Sort.flatK enc k dk) os:=rfl
section
variable {P:Program} {G:Glob} {st:ASt} {o:Oper}
theorem zSb {ρ:Go.Shelf.Ren} (L:SlLaysF0.n6 P ρ) {x y:Operand} {tys:Array TypeId} {k n:Nat} {ls ls':List (Int × Int)} {g f:FuncId} {cf:Int × Int -> Int × Int -> Int} (ho:o.op = .call { callee:=.value (.func f), args:=#[x, y], argTypes:=tys }) (hf:ρ.f 6 = f) (hd:vC o st.n = true)
  (hx:evO st.fr x = .psl k n) (hy:evO st.fr y = .pub (.fn g [] [])) (hm:st.mem[k]? = some (.row (ls.map rowP))) (hn:ls.length = n) (hlen:ls.length <= 1000000000)
  (hef:Enters P f) (heg:Enters P g) (aE:∀ w, (isAgg (ρ.t 24)).run P w = .ok true w) (zE:∀ w, (Go.sizeOf (ρ.t 24)).run P w = .ok 2 w) (hO:Sort.SWO (ltOf cf))
  (hcmp:∀ (x y:Int × Int) (W:World), Calls P g #[.agg #[.int .i64 x.1, .int .i64 x.2], .agg #[.int .i64 y.1, .int .i64 y.2]] W fun e w'=>e = .returned (.int .i64 (cf x y)) /\ ∃ q os', w' = Sort.grow (W.drewN q) os')
  (hu:∀ l:List (Int × Int), l.Perm ls -> l.Pairwise (fun a b=>ltOf cf b a = false) -> l = ls'):
  OpM P G st o ⟨st.n, jr st.fr o.dst (.pub (.tup [])), st.mem.set k (.row (ls'.map rowP))⟩:=by
 subst hf
 intro w0 ok0 a w hG hok hs K Q hK
 obtain ⟨h0, h1, h2, ok, bs, h3, h4, h5, h6⟩:=hs
 have hxe:=jd (fr:=st.fr) (a:=a) (x:=x) fun t _=>h6.1 t
 rw [hx] at hxe
 simp only[FitsE] at hxe
 obtain ⟨b, hb, hxe⟩:=hxe
 have hxv:=(hxe _ hm).2 (by simpa using hn)
 have hye:=jd (fr:=st.fr) (a:=a) (x:=y) fun t _=>h6.1 t
 rw [hy] at hye
 simp only[FitsE, Fits, FitsL] at hye
 obtain ⟨us, vs, hyv, rfl, rfl⟩:=hye
 have hrow:=h5.row k b _ hb hm
 have hef':(execOp a.eval o).run P w = .ok (.enter (ρ.f 6) #[b.sl n, .func (.func g) #[] #[]]) w:=by
  rw [call_exec (us:=[]) (vs:=[]) ho hef rfl]
  simp [hxv, hyv]
 unfold Oper.wp
 rw [hef']
 simp only[Oper.upon]
 cases hbk:b.blk with
 | none=>
  have hls:ls = []:=by simpa using hrow.nil hbk
  subst hls
  have hn0:n = 0:=by simpa using hn.symm
  subst hn0
  have hls':ls' = []:=(hu [] (List.Perm.refl _) List.Pairwise.nil).symm
  subst hls'
  have hsl:b.sl 0 = .slice none 0 0:=by unfold PB.sl; rw [hbk]
  rw [hsl]
  refine (AnyF.slices_SortFunc_none L none 0 _ w).mono fun en w' ⟨e1, e2⟩=>?_
  subst e1; subst e2
  have hsame:st.mem.set k (PO.row (([]:List (Int × Int)).map rowP)) = st.mem:=by
   apply List.ext_getElem?
   intro t
   by_cases ht:k = t
   ·
    subst ht; rw [hm]; simp [(zLg hm).1]
   ·
    rw [List.getElem?_set_ne ht]
  have hfin:Sit w0 ok0 ⟨st.n, jr st.fr o.dst (.pub (.tup [])), st.mem⟩ (a.put o.dst (.tuple #[])) w':=Sit.put (n:=st.n) h0 h1 h2 h3 h4 h5 h6 (Below.refl _ _) (by simp [FitsE, Fits, FitsL]) (qM hd)
  rw [← hsame] at hfin
  exact hK _ _ hfin
 | some bg=>
  obtain ⟨cur, hc, hcs, hcl, hcm, hcell⟩:=hrow.blk bg hbk
  have hown:=h5.own k b _ bg hb hm hbk
  have hpos:=hrow.pos bg hbk
  have hlp:0 < ls.length:=by simpa using hpos
  have hsz:b.size = 2:=by
   have:=hrow.size (rowP ls[0]) (List.mem_map.2 ⟨ls[0], List.getElem_mem hlp, rfl⟩)
   simpa [rowP] using this.symm
  have hlt:=(Array.getElem?_eq_some_iff.1 hc).1
  let d:Array (Int × Int):=ls.toArray
  have hds:d.size = ls.length:=by simp [d]
  have hdi:∀ i (h:i < ls.length), d[i]! = ls[i]:=fun i h=>by
   rw [getElem!_pos d i (by rw [hds]; exact h)]
   simp [d]
  have hel:∀ t, t < ls.length * 2 -> cur[t]? = some (zSz ls[t / 2]!)[t % 2]!:=fun t ht=>by
   have hi:t / 2 < ls.length:=by omega
   have e1:ls[t / 2]! = ls[t / 2]:=getElem!_pos ls _ hi
   have hr:(ls.map rowP)[t / 2]? = some (rowP ls[t / 2]):=by simp [hi]
   rcases (show t % 2 = 0 ∨ t % 2 = 1 by omega) with h | h
   ·
    obtain ⟨u, hu', h8, h9⟩:=hcell (t / 2) 0 (rowP ls[t / 2]) _ hr rfl
    rw [hsz, show t / 2 * 2 + 0 = t by omega] at hu'
    simp only[FitsE, Fits] at h9
    rw [hu', h9.1, e1, h]; rfl
   ·
    obtain ⟨u, hu', h8, h9⟩:=hcell (t / 2) 1 (rowP ls[t / 2]) _ hr rfl
    rw [hsz, show t / 2 * 2 + 1 = t by omega] at hu'
    simp only[FitsE, Fits] at h9
    rw [hu', h9.1, e1, h]; rfl
  have hH:Sort.HoldsK zSz 2 w bg 0 d:=fun j hj=>by
   have hj':j < d.size * 2:=by rw [Sort.size_flatK] at hj; exact hj
   have hj2:j < ls.length * 2:=by rw [← hds]; exact hj'
   have hv:=hel j hj2
   have hjc:j < cur.size:=(Array.getElem?_eq_some_iff.1 hv).1
   rw [Sort.get_flatK _ _ _ _ hj', Nat.zero_add]
   refine ⟨?_, ?_⟩
   ·
    simp only[World.cell?, hc]
    have e2:d[j / 2]! = ls[j / 2]!:=by rw [hdi _ (by omega), getElem!_pos ls _ (by omega)]
    rw [e2]
    exact hv
   ·
    simp only[World.frozen?, hc]
    rcases b.elem.free cur.size with h | h
    ·
     rw [h]; simp
    ·
     simp; omega
  have hsl:b.sl n = .slice (some ⟨bg, 0, none⟩) d.size b.cap:=by unfold PB.sl; rw [hbk, hds, hn]
  rw [hsl]
  have hsort:=AnyQ.slices_SortFunc L 2 aE zE zSz (fun _=>rfl) (fun x v hv=>by simp [zSz] at hv; rcases hv with rfl | rfl <;> rfl) cf hO g #[] bg 0 b.cap d w (fun args w=>enter_run heg args w) (fun m os dk _ x y=>hcmp x y _) hH hlt (by rw [hds]; omega)
  refine hsort.mono fun en w' ⟨e1, d', nn, os, hperm, hsorted, e2⟩=>?_
  subst e1
  have hds':d'.size = d.size:=hperm.1
  have hp:d'.toList.Perm ls:=by
   have h:=hperm.2.2
   rw [← hds'] at h
   have e1:(d'.extract 0 d'.size).toList = d'.toList:=by simp
   have e2:(d.extract 0 d'.size).toList = ls:=by rw [hds']; simp [d]
   rwa [e1, e2] at h
  have hs:d'.toList.Pairwise (fun a b=>ltOf cf b a = false):=by
   rw [List.pairwise_iff_getElem]
   intro i j hi hj hij
   have hi':i < d'.size:=by simpa using hi
   have hj':j < d'.size:=by simpa using hj
   have:=hsorted i j (Nat.zero_le _) hij (by omega)
   rw [getElem!_pos d' i hi', getElem!_pos d' j hj'] at this
   simpa using this
  have hfin:d'.toList = ls':=hu _ hp hs
  have hl':ls'.length = ls.length:=by rw [← hfin]; exact hp.length_eq
  rw [zJU] at e2
  have hother:∀ t, t < w.heap.size -> some t ≠ b.blk -> w'.heap[t]? = w.heap[t]?:=fun t ht hne=>by
   rw [e2]; exact zbg _ _ _ _ _ _ _ ht (fun e=>hne (by rw [e, hbk]))
  have hrow':w'.heap[bg]? = some (.cells (Sort.putCells id 0 (Sort.flatK zSz 2 d') cur) b.elem.t (b.elem.fzp cur.size)):=by rw [e2]; exact zf8 _ _ _ _ _ _ _ hc
  have hpc:(Sort.putCells id 0 (Sort.flatK zSz 2 d') cur).size = cur.size:=by simp [Sort.putCells]
  have hgrow:w.heap.size <= w'.heap.size:=by rw [e2]; unfold sortWorld; simp [Sort.putRow, Sort.mapBlock, Sort.ahead]
  have hturn:=h5.turn (w':=w') (b':=b) (rows':=ls'.map rowP) hb hm hgrow hother (by simp [hl']) (fun _=>rfl) (fun g' hg'=>.inl hg') h2.size (fun hfit=>by
   refine ⟨fun r hr=>?_, fun hnone=>(by rw [hbk] at hnone; cases hnone), fun g' hg'=>(by simp [hl']; omega), fun g' hg'=>?_⟩
   ·
    obtain ⟨m, _, rfl⟩:=List.mem_map.1 hr
    simp [hsz, rowP]
   ·
    have:g' = bg:=by rw [hbk] at hg'; injection hg' with hg'; exact hg'.symm
    subst this
    refine ⟨_, by rw [hpc]; exact hrow', by rw [hpc]; exact hcs, by simpa [hl'] using hcl, hcm, fun i j r z hr hz=>?_⟩
    have hi:i < ls'.length:=by
     have:=(zLg hr).1; simpa using this
    have hr2:r = rowP ls'[i]:=by
     rw [List.getElem?_map, List.getElem?_eq_getElem hi] at hr
     simpa using hr.symm
    subst hr2
    have hj2:j < 2:=by
     have:=(zLg hz).1; simpa [rowP] using this
    have hid:i < d'.size:=by omega
    have hkey:d'[i]! = ls'[i]:=by
     rw [getElem!_pos d' i hid]
     have:d'.toList[i]'(by simpa using hid) = d'[i]:=by simp
     rw [← this]
     simp only[hfin]
    have htd:i * 2 + j < d'.size * 2:=by omega
    have hcv:(Sort.putCells id 0 (Sort.flatK zSz 2 d') cur)[i * 2 + j]? = some (zSz ls'[i])[j]!:=by
     have hic:i * 2 + j < cur.size:=by
      rw [hcs, hsz]; have:ls.length <= b.cap:=by simpa using hcl
      omega
     simp only[Sort.putCells, Array.getElem?_mapIdx, Array.getElem?_eq_getElem hic, Option.map_some, id_eq]
     rw [if_pos ⟨Nat.zero_le _, by rw [Sort.size_flatK]; omega⟩, Nat.sub_zero, Sort.get_flatK _ _ _ _ htd, show (i * 2 + j) / 2 = i by omega, show (i * 2 + j) % 2 = j by omega, hkey]
    rw [hsz]
    rcases (show j = 0 ∨ j = 1 by omega) with h | h
    ·
     subst h
     have hz2:z = .pub (.v (.int .i64 ls'[i].1)):=by simpa [rowP] using hz.symm
     subst hz2
     exact ⟨_, hcv, rfl, hfit _ _ (by simp only[FitsE, Fits]; exact ⟨rfl, rfl⟩)⟩
    ·
     subst h
     have hz2:z = .pub (.v (.int .i64 ls'[i].2)):=by simpa [rowP] using hz.symm
     subst hz2
     exact ⟨_, hcv, rfl, hfit _ _ (by simp only[FitsE, Fits]; exact ⟨rfl, rfl⟩)⟩)
  obtain ⟨hm', hf'⟩:=hturn
  have hbs:bs.set k b = bs:=by
   apply List.ext_getElem?
   intro t
   by_cases ht:k = t
   ·
    subst ht; rw [hb]; simp [(zLg hb).1]
   ·
    rw [List.getElem?_set_ne ht]
  rw [hbs] at hm' hf'
  refine hK _ _ ⟨(size_put ..).trans h0, h1.put ?_ (qM hd), ?_, ok, bs, h3, h4, hm', ?_⟩
  ·
   exact .of_cells hc hgrow (fun t ht hne=>hother t ht (fun e=>hne (by rw [hbk] at e; injection e)))
  ·
   refine h2.trans ⟨?_, ?_, ?_, hgrow, fun t ht=>hother t (Nat.lt_of_lt_of_le ht h2.size) (fun e=>?_)⟩
   ·
    rw [e2]; rfl
   ·
    rw [e2]; rfl
   ·
    rw [e2]; rfl
   ·
    have:=(h5.own k b _ t hb hm e.symm).1; omega
  ·
   exact wX (h6.map hf') (by simp [FitsE, Fits, FitsL]) (fun d e=>by rw [h0]; exact (qM hd d e).1)
theorem zMD {α β:Type} {cf:β -> β -> Int} (h:Sort.SWO (ltOf cf)) (f:α -> β):Sort.SWO (ltOf fun x y:α=>cf (f x) (f y)):=
 ⟨fun x=>h.irrefl (f x), fun x y z h1 h2=>h.trans (f x) (f y) (f z) h1 h2, fun x y z h1 h2=>h.ntrans (f x) (f y) (f z) h1 h2⟩
theorem zPA {β:Type} [Inhabited β] {av:β -> AV} {ρ:Go.Shelf.Ren} (L:SlLaysF.n6 P ρ) (L0:SlLaysF0.n6 P ρ) {x y:Operand} {tys:Array TypeId} {k n:Nat} {ls ls':List β} {g f:FuncId} {cf:β -> β -> Int} (ho:o.op = .call { callee:=.value (.func f), args:=#[x, y], argTypes:=tys }) (hf:ρ.f 6 = f) (hd:vC o st.n = true)
  (hx:evO st.fr x = .psl k n) (hy:evO st.fr y = .pub (.fn g [] [])) (hm:st.mem[k]? = some (.row (ls.map fun m=>[.pub (av m)]))) (hn:ls.length = n) (hlen:ls.length <= 1000000000)
  (hef:Enters P f) (heg:Enters P g) (hO:Sort.SWO (ltOf cf))
  (hcmp:∀ (ok:Nat -> Prop) (w:World) (x y:β) (u v:Value), x ∈ ls -> y ∈ ls -> Fits ok w (av x) u -> Fits ok w (av y) v -> Calls P g #[u, v] w fun e w'=>e = .returned (.int .i64 (cf x y)) /\ ∃ q os', w' = Sort.grow (w.drewN q) os')
  (hu:∀ l:List β, l.Perm ls -> l.Pairwise (fun a b=>ltOf cf b a = false) -> l = ls'):
  OpM P G st o ⟨st.n, jr st.fr o.dst (.pub (.tup [])), st.mem.set k (.row (ls'.map fun m=>[.pub (av m)]))⟩:=by
 subst hf
 intro w0 ok0 a w hG hok hs K Q hK
 obtain ⟨h0, h1, h2, ok, bs, h3, h4, h5, h6⟩:=hs
 have hxe:=jd (fr:=st.fr) (a:=a) (x:=x) fun t _=>h6.1 t
 rw [hx] at hxe
 simp only[FitsE] at hxe
 obtain ⟨b, hb, hxe⟩:=hxe
 have hxv:=(hxe _ hm).2 (by simpa using hn)
 have hye:=jd (fr:=st.fr) (a:=a) (x:=y) fun t _=>h6.1 t
 rw [hy] at hye
 simp only[FitsE, Fits, FitsL] at hye
 obtain ⟨us, vs, hyv, rfl, rfl⟩:=hye
 have hrow:=h5.row k b _ hb hm
 have hef':(execOp a.eval o).run P w = .ok (.enter (ρ.f 6) #[b.sl n, .func (.func g) #[] #[]]) w:=by
  rw [call_exec (us:=[]) (vs:=[]) ho hef rfl]
  simp [hxv, hyv]
 unfold Oper.wp
 rw [hef']
 simp only[Oper.upon]
 cases hbk:b.blk with
 | none=>
  have hls:ls = []:=by simpa using hrow.nil hbk
  subst hls
  have hn0:n = 0:=by simpa using hn.symm
  subst hn0
  have hsl:b.sl 0 = .slice none 0 0:=by unfold PB.sl; rw [hbk]
  rw [hsl]
  have hls':ls' = []:=(hu [] (List.Perm.refl _) List.Pairwise.nil).symm
  subst hls'
  refine (AnyF.slices_SortFunc_none L0 none 0 _ w).mono fun en w' ⟨e1, e2⟩=>?_
  subst e1; subst e2
  have hsame:st.mem.set k (PO.row (([]:List β).map fun m=>[EV.pub (av m)])) = st.mem:=by
   apply List.ext_getElem?
   intro t
   by_cases ht:k = t
   ·
    subst ht; rw [hm]; simp [(zLg hm).1]
   ·
    rw [List.getElem?_set_ne ht]
  have hfin:Sit w0 ok0 ⟨st.n, jr st.fr o.dst (.pub (.tup [])), st.mem⟩ (a.put o.dst (.tuple #[])) w':=Sit.put (n:=st.n) h0 h1 h2 h3 h4 h5 h6 (Below.refl _ _) (by simp [FitsE, Fits, FitsL]) (qM hd)
  rw [← hsame] at hfin
  exact hK _ _ hfin
 | some bg=>
  obtain ⟨cur, hc, hcs, hcl, hcm, hcell⟩:=hrow.blk bg hbk
  have hown:=h5.own k b _ bg hb hm hbk
  have hpos:=hrow.pos bg hbk
  have hlp:0 < ls.length:=by simpa using hpos
  have hsz1:b.size = 1:=by
   have:=hrow.size [.pub (av ls[0])] (List.mem_map.2 ⟨ls[0], List.getElem_mem hlp, rfl⟩)
   simpa using this.symm
  have hlt:=(Array.getElem?_eq_some_iff.1 hc).1
  -- the elements, with what stands in them
  let α:Type:={ p:β × Value // p.1 ∈ ls /\ p.2.oneCell' = true /\ Fits ok w (av p.1) p.2 }
  have hel:∀ i (h:i < ls.length), ∃ u, cur[i]? = some u /\ u.oneCell' = true /\ Fits ok w (av ls[i]) u:=fun i h=>by
   obtain ⟨u, hu, h8, h9⟩:=hcell i 0 [.pub (av ls[i])] (.pub (av ls[i])) (by simp [h]) rfl
   rw [hsz1] at hu
   exact ⟨u, by simpa using hu, h8, by simpa only [FitsE] using h9⟩
  have hinh:Inhabited α:=⟨⟨(ls[0], Classical.choose (hel 0 hlp)), List.getElem_mem hlp, (Classical.choose_spec (hel 0 hlp)).2⟩⟩
  let val:(i:Nat) -> i < ls.length -> α:=fun i h=>⟨(ls[i], Classical.choose (hel i h)), List.getElem_mem h, (Classical.choose_spec (hel i h)).2⟩
  let d:Array α:=((List.finRange ls.length).map fun i=>val i.1 i.2).toArray
  have hds:d.size = ls.length:=by simp [d]
  have hdi:∀ i (h:i < ls.length), d[i]! = val i h:=fun i h=>by
   rw [getElem!_pos d i (by rw [hds]; exact h)]
   simp [d]
  let enc:α -> Value:=fun p=>p.1.2
  let key:α -> β:=fun p=>p.1.1
  have hdk:d.toList.map key = ls:=by
   refine List.ext_getElem (by simp [hds]) fun i hi1 hi2=>?_
   simp [d, key, val]
  have hH:Sort.Holds enc w bg 0 d:=fun j hj=>by
   rw [hds] at hj
   have hv:=Classical.choose_spec (hel j hj)
   rw [hdi j hj, Nat.zero_add]
   have hjc:j < cur.size:=(Array.getElem?_eq_some_iff.1 hv.1).1
   refine ⟨?_, ?_⟩
   ·
    show w.cell? _ = some (Classical.choose (hel j hj))
    simp only[World.cell?, hc]
    simpa using hv.1
   ·
    simp only[World.frozen?, hc]
    rcases b.elem.free cur.size with h | h
    ·
     rw [h]; simp
    ·
     simp; omega
  have hsl:b.sl n = .slice (some ⟨bg, 0, none⟩) d.size b.cap:=by unfold PB.sl; rw [hbk, hds, hn]
  rw [hsl]
  have hcmp':CmpLays1 P g #[] enc (fun x y:α=>cf (key x) (key y)) bg 0 d.size w:=fun m os dk hsk x' y'=>by
   have hblk:∀ t, ok t -> (sortWorld enc w bg 0 m dk os).heap[t]? = w.heap[t]?:=fun t ht=>zbg _ _ _ _ _ _ _ (h5.lt t ht) (fun e=>hown.2 (e ▸ ht))
   exact hcmp ok (sortWorld enc w bg 0 m dk os) _ _ _ _ x'.2.1 y'.2.1 (x'.2.2.2.mono (fun _ h=>h) hblk) (y'.2.2.2.mono (fun _ h=>h) hblk)
  have hsort:=Any.slices_SortFunc L enc (fun x=>x.2.2.1) (fun x y:α=>cf (key x) (key y)) (zMD hO key) g #[] bg 0 b.cap d w (fun args w=>enter_run heg args w) hcmp' hH hlt (by rw [hds]; omega)
  refine hsort.mono fun en w' ⟨e1, d', nn, os, hperm, hsorted, e2⟩=>?_
  subst e1
  have hds':d'.size = d.size:=hperm.1
  have hp:(d'.toList.map key).Perm ls:=by
   rw [← hdk]
   refine List.Perm.map _ ?_
   have h:=hperm.2.2
   rw [← hds'] at h
   have e1:(d'.extract 0 d'.size).toList = d'.toList:=by simp
   have e2:(d.extract 0 d'.size).toList = d.toList:=by rw [hds']; simp
   rwa [e1, e2] at h
  have hs:(d'.toList.map key).Pairwise (fun a b=>ltOf cf b a = false):=by
   rw [List.pairwise_iff_getElem]
   intro i j hi hj hij
   have hi':i < d'.size:=by simpa using hi
   have hj':j < d'.size:=by simpa using hj
   have:=hsorted i j (Nat.zero_le _) hij (by omega)
   rw [getElem!_pos d' i hi', getElem!_pos d' j hj'] at this
   simpa [ltOf] using this
  have hfin:d'.toList.map key = ls':=hu _ hp hs
  have hsl2:ls'.length = ls.length:=by rw [← hfin]; exact hp.length_eq
  have hother:∀ t, t < w.heap.size -> some t ≠ b.blk -> w'.heap[t]? = w.heap[t]?:=fun t ht hne=>by
   rw [e2]; exact zbg _ _ _ _ _ _ _ ht (fun e=>hne (by rw [e, hbk]))
  have hrow':w'.heap[bg]? = some (.cells (Sort.putCells enc 0 d' cur) b.elem.t (b.elem.fzp cur.size)):=by rw [e2]; exact zf8 _ _ _ _ _ _ _ hc
  have hpc:(Sort.putCells enc 0 d' cur).size = cur.size:=by simp [Sort.putCells]
  have hgrow:w.heap.size <= w'.heap.size:=by rw [e2]; unfold sortWorld; simp [Sort.putRow, Sort.mapBlock, Sort.ahead]
  have hturn:=h5.turn (w':=w') (b':=b) (rows':=ls'.map fun m=>[.pub (av m)]) hb hm hgrow hother (by simp [hsl2]) (fun _=>rfl) (fun g' hg'=>.inl hg') h2.size (fun hfit=>by
   refine ⟨fun r hr=>?_, fun hnone=>(by rw [hbk] at hnone; cases hnone), fun g' hg'=>(by simp [hsl2]; omega), fun g' hg'=>?_⟩
   ·
    obtain ⟨m, _, rfl⟩:=List.mem_map.1 hr
    simp [hsz1]
   ·
    have:g' = bg:=by rw [hbk] at hg'; injection hg' with hg'; exact hg'.symm
    subst this
    refine ⟨_, by rw [hpc]; exact hrow', by rw [hpc]; exact hcs, by simpa [hsl2] using hcl, hcm, fun i j r z hr hz=>?_⟩
    have hi:i < ls'.length:=by
     have:=(zLg hr).1; simpa using this
    have hr2:r = [.pub (av ls'[i])]:=by
     rw [List.getElem?_map, List.getElem?_eq_getElem hi] at hr
     simpa using hr.symm
    subst hr2
    have hj0:j = 0:=by
     have:=(zLg hz).1; simpa using this
    subst hj0
    have hz2:z = .pub (av ls'[i]):=by simpa using hz.symm
    subst hz2
    have hid:i < d'.size:=by omega
    have hkey:ls'[i] = key d'[i]:=by
     have:(d'.toList.map key)[i]'(by simpa using hid) = key d'[i]:=by simp
     rw [← this]
     simp only[hfin]
    refine ⟨enc d'[i], ?_, d'[i].2.2.1, ?_⟩
    ·
     rw [hsz1]
     have hic:i < cur.size:=by
      rw [hcs, hsz1]; have:ls.length <= b.cap:=by simpa using hcl
      omega
     simp only[Sort.putCells, Nat.mul_one, Nat.add_zero, Array.getElem?_mapIdx, Array.getElem?_eq_getElem hic, Option.map_some]
     rw [if_pos ⟨Nat.zero_le _, by omega⟩, Nat.sub_zero, getElem!_pos d' i hid]
    ·
     rw [hkey]
     exact hfit (.pub (av (key d'[i]))) (enc d'[i]) (by simpa only [FitsE] using d'[i].2.2.2))
  obtain ⟨hm', hf'⟩:=hturn
  have hbs:bs.set k b = bs:=by
   apply List.ext_getElem?
   intro t
   by_cases ht:k = t
   ·
    subst ht; rw [hb]; simp [(zLg hb).1]
   ·
    rw [List.getElem?_set_ne ht]
  rw [hbs] at hm' hf'
  refine hK _ _ ⟨(size_put ..).trans h0, h1.put ?_ (qM hd), ?_, ok, bs, h3, h4, hm', ?_⟩
  ·
   exact .of_cells hc hgrow (fun t ht hne=>hother t ht (fun e=>hne (by rw [hbk] at e; injection e)))
  ·
   refine h2.trans ⟨?_, ?_, ?_, hgrow, fun t ht=>hother t (Nat.lt_of_lt_of_le ht h2.size) (fun e=>?_)⟩
   ·
    rw [e2]; rfl
   ·
    rw [e2]; rfl
   ·
    rw [e2]; rfl
   ·
    have:=(h5.own k b _ t hb hm e.symm).1; omega
  ·
   exact wX (h6.map hf') (by simp [FitsE, Fits, FitsL]) (fun d e=>by rw [h0]; exact (qM hd d e).1)
end
end Go.Av
end
