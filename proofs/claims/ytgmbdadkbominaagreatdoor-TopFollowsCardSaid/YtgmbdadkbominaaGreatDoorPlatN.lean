import Derived.Test.YtgmbdadkbominaaGreatDoorPlatH
set_option linter.unusedVariables false
set_option linter.unusedSimpArgs false
section
namespace Go.Av
open Go.RowKit
section
variable {P:Program} {G:Glob} {α:Type} {enc:α -> Value}
theorem zwO {w0:World} {ok0:Nat -> Prop} {n:NS} {fr:Nat -> EV} {mem:List PO} {act:Act} {w:World} {l g:Nat} {b:PB} {arr arr':Array MapEntry} {es es':List (α × EV)} {ok:Nat -> Prop} {bs:List PB} {dst:Option Tmp} {e:EV} {u:Value}
  (h0:act.tmps.size = n.n) (h1:Nod w0 w act n) (h2:Below w0.heap.size w0 w) (h3:∀ b, ok0 b -> ok b) (h4:∀ b, ok b -> ok0 b ∨ w0.heap.size <= b) (h5:MemOK w0.heap.size ok w bs mem) (h6:Slots ok w bs mem n fr act)
  (hb:bs[l]? = some b) (hbg:b.blk = some g) (hm:mem[l]? = some (zkO enc es)) (hg:w.heap[g]? = some (.map arr es.length)) (hl':arr'.size = es'.length)
  (he':∀ (j:Nat) (k:α) (z:EV), es'[j]? = some (k, z) -> ∃ u, arr'[j]? = some ⟨enc k, u, j⟩ /\ FitsE ok w bs mem z u) (hd:DOK dst n) (hu:∀ (ok:Nat -> Prop) (w:World) (bs:List PB) (mem:List PO), FitsE ok w bs mem e u):
  Sit w0 ok0 ⟨n, qX fr dst e, mem.set l (zkO enc es')⟩ (act.put dst u) { w with heap:=w.heap.setIfInBounds g (.map arr' es'.length) }:=by
 have hlt:=(Array.getElem?_eq_some_iff.1 hg).1
 have hother:∀ k, k ≠ g -> (w.heap.setIfInBounds g (.map arr' es'.length))[k]? = w.heap[k]?:=fun k hk=>Array.getElem?_setIfInBounds_ne (Ne.symm hk)
 have hturn:=h5.turnO (w':={ w with heap:=w.heap.setIfInBounds g (.map arr' es'.length) }) (b':=b) (o':=zkO enc es') hb hm rfl (by simp) (fun k _ hk=>hother k (fun e=>hk (by rw [e, hbg])))
  ⟨fun r e=>(by cases e), fun es e=>⟨⟨_, rfl⟩, rfl⟩⟩ (fun g' hg'=>.inl hg') h2.size (fun hfit=>⟨fun r e=>(by cases e), fun es2 e=>by
   injection e with e
   subst e
   refine ⟨g, arr', hbg, by simp [hlt], by simpa using hl', fun j k z hz=>?_⟩
   rw [List.getElem?_map, Option.map_eq_some_iff] at hz
   obtain ⟨⟨k', z'⟩, hz, e⟩:=hz
   injection e with e1 e2
   subst e1; subst e2
   obtain ⟨u, hu1, hu2⟩:=he' j k' z' hz
   exact ⟨u, hu1, hfit _ _ hu2⟩⟩)
 obtain ⟨hm', hf'⟩:=hturn
 have hbs:bs.set l b = bs:=by
  apply List.ext_getElem?
  intro t
  by_cases ht:l = t
  ·subst ht; rw [hb]; simp [(zLg hb).1]
  ·rw [List.getElem?_set_ne ht]
 rw [hbs] at hm' hf'
 have hnot:∀ p, w.heap[g]? = some p -> still p = true -> False:=fun p hp hs=>by rw [hg] at hp; injection hp with hp; subst hp; cases hs
 refine ⟨(size_put ..).trans h0, h1.put ⟨by simp, fun D p hD hp=>?_⟩ hd, h2.trans ⟨rfl, rfl, rfl, by simp, fun k hk=>hother k (fun e=>?_)⟩, ok, bs, h3, h4, hm', ?_⟩
 ·rw [hother D (fun e=>hnot p (by rw [← e]; exact hD) hp)]; exact hD
 ·have:=(h5.own' l b _ g hb hm rfl hbg).1
  omega
 ·exact wo (h6.map hf') (hu _ _ _ _) (fun d e=>by rw [h0]; exact (hd d e).1)
def zuE (enc:α -> Value) (es:List (α × Value)):PO:=zkO enc (es.map fun p=>(p.1, EV.pub (.v p.2)))
theorem zxy (es:List (α × Value)):(es.map fun p=>(p.1, EV.pub (.v p.2))).map (·.1) = es.map (·.1):=by simp [Function.comp_def]
variable {o:Oper}
theorem zv1 {st:ASt} {T:TypeId} {x s y:Operand} {l ix:Nat} {es:List (α × Value)} {a:α} {v0 v:Value} (ho:o.op = .entryStore T x s y) (hd:o.dst = none) (hx:evO st.fr x = .mpv l) (hm:st.mem[l]? = some (zuE enc es)) (hs:evO st.fr s = .pub (.v (goInt ix))) (he:es[ix]? = some (a, v0))
  (hy:evO st.fr y = .pub (.v v)):OpM P G st o ⟨st.n, st.fr, st.mem.set l (zuE enc (es.set ix (a, v)))⟩:=by
 intro w0 ok0 act w hG hok hsit K Q hKK
 obtain ⟨h0, h1, h2, ok, bs, h3, h4, h5, h6⟩:=hsit
 have ex:=qO (fr:=st.fr) (a:=act) (x:=x) fun t _=>h6.1 t
 rw [hx] at ex
 obtain ⟨b, g, arr, hb, hbg, hu, hg, hkeys, hlen, hent⟩:=zn5 h5 ex hm
 have hsv:=xY (qO (fr:=st.fr) (a:=act) (x:=s) fun t _=>h6.1 t) hs
 have hyE:=qO (fr:=st.fr) (a:=act) (x:=y) fun t _=>h6.1 t
 have hyv:=xY hyE hy
 rw [hy] at hyE
 simp only[FitsE, Fits] at hyE
 have hobj:(getObj g).run P w = .ok (.map arr (es.map fun p=>(p.1, EV.pub (.v p.2))).length) w:=by simp [getObj, Sem.run, hg]
 have hset:∀ (arr':Array MapEntry) (c:Nat), (setObj g (.map arr' c)).run P w = .ok () { w with heap:=w.heap.setIfInBounds g (.map arr' c) }:=fun arr' c=>by simp [setObj, Sem.run, hg]
 have hlen2:arr.size = es.length:=by simpa using hlen
 have hil:ix < es.length:=(zLg he).1
 have hborn:∀ (j:Nat) (q:MapEntry), arr[j]? = some q -> q.born = j:=fun j q hq=>by
  have hjl:j < es.length:=by have:=(Array.getElem?_eq_some_iff.1 hq).1; omega
  obtain ⟨u, hu1, _⟩:=hent j es[j].1 (.pub (.v es[j].2)) (by rw [List.getElem?_map, List.getElem?_eq_getElem hjl]; rfl)
  rw [hq] at hu1
  injection hu1 with hu1
  rw [hu1]
 have hfi:arr.findIdx? (fun e=>((e.born:Int) == (ix:Int))) = some ix:=by
  rw [Array.findIdx?_eq_some_iff_getElem]
  refine ⟨by omega, ?_, fun j hj=>?_⟩
  ·have:=hborn ix arr[ix] (Array.getElem?_eq_getElem _)
   simp [this]
  ·have:=hborn j arr[j] (Array.getElem?_eq_getElem _)
   simp [this]; omega
 have hrun:(execOp act.eval o).run P w = .ok .skip { w with heap:=w.heap.setIfInBounds g (.map (arr.modify ix fun e=>{ e with val:=v }) (es.set ix (a, v)).length) }:=by
  have hasI:(asInt (goInt ix)).run P w = .ok (ix:Int) w:=by simp [asInt, asIntOf, goInt]
  simp only[execOp, ho, Instr.entryStore, hu, hsv, hyv, Sem.run_bind, hobj, Result.andThen_ok, hasI, hfi, hset, Sem.run_pure]
  simp
 unfold Oper.wp
 rw [hrun]
 simp only[Oper.upon]
 have hpn:act.put o.dst undef = act:=by rw [hd]; rfl
 have:=zwO (enc:=enc) (es':=(es.set ix (a, v)).map fun p=>(p.1, EV.pub (.v p.2))) (dst:=none) (e:=.pub .top) (u:=undef) h0 h1 h2 h3 h4 h5 h6 hb hbg hm hg (arr':=arr.modify ix fun e=>{ e with val:=v }) (by simp [hlen2]) (fun j k z hz=>by
  rw [List.getElem?_map, Option.map_eq_some_iff] at hz
  obtain ⟨⟨k', z'⟩, hz, e⟩:=hz
  injection e with e1 e2
  subst e1; subst e2
  by_cases hj:ix = j
  ·subst hj
   rw [List.getElem?_set_self hil] at hz
   injection hz with hz
   injection hz with e1 e2
   subst e1; subst e2
   obtain ⟨u, hu1, _⟩:=hent ix a (.pub (.v v0)) (by rw [List.getElem?_map, he]; rfl)
   refine ⟨v, by rw [Array.getElem?_modify, if_pos rfl, hu1]; rfl, ?_⟩
   simp only[FitsE, Fits]
   exact ⟨trivial, hyE.2⟩
  ·rw [List.getElem?_set_ne hj] at hz
   obtain ⟨u, hu1, hu2⟩:=hent j k' (.pub (.v z')) (by rw [List.getElem?_map, hz]; rfl)
   exact ⟨u, by rw [Array.getElem?_modify, if_neg hj]; exact hu1, hu2⟩) (fun d e=>by cases e) (fun _ _ _ _=>by simp [FitsE, Fits])
 rw [List.length_map] at this
 rw [hpn]
 exact hKK _ _ this
variable [DecidableEq α]
def ixV (a:α) (es:List (α × Value)):Nat:=(zbd a (es.map (·.1))).getD es.length
theorem zx6 (a:α) (x y:Value) (es:List (α × Value)):(zgD a x es).set (ixV a es) (a, y) = zgD a y es /\ (zgD a x es)[ixV a es]? = some (a, x):=by
 unfold ixV
 obtain ⟨s1, s2⟩:=zls a x es
 obtain ⟨t1, t2⟩:=zls a y es
 cases h:zbd a (es.map (·.1)) with
 | none=>rw [s1 h, t1 h, Option.getD_none]; simp
 | some j=>
  have hlt:j < es.length:=by have:=(zLg (zlg h)).1; simpa using this
  rw [s2 j h, t2 j h, Option.getD_some]
  simp [hlt]
theorem zvc (a:α) (d:Value):∀ es:List (α × Value), ziF a (EV.pub (.v d)) (es.map fun p=>(p.1, EV.pub (.v p.2))) = .pub (.v (ziF a d es))
 | []=>rfl
 | (b, x) :: t=>by simp only[List.map_cons, ziF]; split; rfl; exact zvc a d t
variable {o:Oper}
theorem zwp {st:ASt} {T kt et:TypeId} {x i:Operand} {l:Nat} {es:List (α × Value)} {a:α} {kx:AV} {z:Value} (ho:o.op = .mapEntry T x i) (hd:jO o st.n = true) (hx:evO st.fr x = .mpv l) (hm:st.mem[l]? = some (zuE enc es)) (hi:evO st.fr i = .pub kx) (hk:zrF kx (enc a))
  (hT:P.underlying T = some (.map kt et)) (hK:KeyT P kt enc) (hz:(P.info? et).bind (·.zero) = some z) (hz1:z.oneCell' = true) (h1c:∀ p ∈ es, p.2.oneCell' = true):
  OpM P G st o ⟨st.n, qX st.fr o.dst (.pub (.tup [.v (ziF a z es), .v (goInt (ixV a es))])), st.mem.set l (zuE enc (zgD a (ziF a z es) es))⟩:=by
 intro w0 ok0 act w hG hok hsit K Q hKK
 obtain ⟨h0, h1, h2, ok, bs, h3, h4, h5, h6⟩:=hsit
 have ex:=qO (fr:=st.fr) (a:=act) (x:=x) fun t _=>h6.1 t
 rw [hx] at ex
 obtain ⟨b, g, arr, hb, hbg, hu, hg, hkeys, hlen, hent⟩:=zn5 h5 ex hm
 have ei:=qO (fr:=st.fr) (a:=act) (x:=i) fun t _=>h6.1 t
 rw [hi] at ei
 simp only[FitsE] at ei
 have hkv:=hk _ _ _ ei
 have hobj:(getObj g).run P w = .ok (.map arr (es.map fun p=>(p.1, EV.pub (.v p.2))).length) w:=by simp [getObj, Sem.run, hg]
 have hfind:=zjE hK hkeys a w
 rw [zxy] at hfind
 have hset:∀ (arr':Array MapEntry) (c:Nat), (setObj g (.map arr' c)).run P w = .ok () { w with heap:=w.heap.setIfInBounds g (.map arr' c) }:=fun arr' c=>by simp [setObj, Sem.run, hg]
 obtain ⟨s1, s2⟩:=zls a (ziF a z es) es
 obtain ⟨g1, g2⟩:=zlI a z es
 have h1g:(ziF a z es).oneCell' = true:=by
  cases hix:zbd a (es.map (·.1)) with
  | none=>rw [(g1 hix).1]; exact hz1
  | some j=>
   obtain ⟨y, hy, hget, _⟩:=g2 j hix
   rw [hget]; exact h1c _ (List.mem_of_getElem? hy)
 have hut:∀ (ok:Nat -> Prop) (w:World) (bs:List PB) (mem:List PO), FitsE ok w bs mem (.pub (.tup [.v (ziF a z es), .v (goInt (ixV a es))])) (.tuple #[ziF a z es, goInt (ixV a es)]):=fun ok w bs mem=>by
  simp only[FitsE, Fits]
  exact ⟨[_, _], rfl, by simp only[FitsL, Fits]; exact ⟨_, _, rfl, ⟨rfl, h1g⟩, _, _, rfl, ⟨rfl, rfl⟩, rfl⟩⟩
 have hlen2:arr.size = es.length:=by simpa using hlen
 have fin:∀ (arr':Array MapEntry), arr'.size = (zgD a (ziF a z es) es).length -> (∀ (j:Nat) (k:α) (v:Value), (zgD a (ziF a z es) es)[j]? = some (k, v) -> arr'[j]? = some ⟨enc k, v, j⟩) ->
   (execOp act.eval o).run P w = .ok (.value (.tuple #[ziF a z es, goInt (ixV a es)])) { w with heap:=w.heap.setIfInBounds g (.map arr' (zgD a (ziF a z es) es).length) } -> o.wp P act w K Q:=fun arr' hl' he' hrun=>by
  refine jR hrun (hKK _ _ ?_)
  have:=zwO (enc:=enc) (es':=(zgD a (ziF a z es) es).map fun p=>(p.1, EV.pub (.v p.2))) (dst:=o.dst) h0 h1 h2 h3 h4 h5 h6 hb hbg hm hg (arr':=arr') (by simpa using hl') (fun j k v hv=>by
   rw [List.getElem?_map, Option.map_eq_some_iff] at hv
   obtain ⟨⟨k', v'⟩, hv, e⟩:=hv
   injection e with e1 e2
   subst e1; subst e2
   refine ⟨v', he' j k' v' hv, ?_⟩
   simp only[FitsE, Fits]
   refine ⟨trivial, ?_⟩
   have hmem:=List.mem_of_getElem? hv
   cases hix:zbd a (es.map (·.1)) with
   | none=>
    rw [s1 hix] at hmem
    rcases List.mem_append.1 hmem with h | h
    ·exact h1c _ h
    ·rw [List.mem_singleton] at h; injection h with _ h; rw [h]; exact h1g
   | some q=>
    rw [s2 q hix] at hmem
    rcases List.mem_or_eq_of_mem_set hmem with h | h
    ·exact h1c _ h
    ·injection h with _ h; rw [h]; exact h1g) (qC hd) hut
  rw [List.length_map] at this
  exact this
 cases hix:zbd a (es.map (·.1)) with
 | none=>
  rw [hix] at hfind
  have hzv:(zeroValue et).run P w = .ok z w:=by
   rw [Option.bind_eq_some_iff] at hz
   obtain ⟨inf, hi1, hi2⟩:=hz
   simp [zeroValue, typeInfo, hi1, hi2]
  have hgz:=(g1 hix).1
  refine fin (arr.push { key:=enc a, val:=z, born:=es.length }) (by rw [s1 hix]; simp [hlen2]) (fun j k v hv=>?_) ?_
  ·rw [s1 hix, hgz] at hv
   rw [List.getElem?_append] at hv
   split at hv
   ·rename_i hj
    obtain ⟨u, hu1, hu2⟩:=hent j k (.pub (.v v)) (by rw [List.getElem?_map, hv]; rfl)
    simp only[FitsE, Fits] at hu2
    rw [Array.getElem?_push, if_neg (by omega), hu1, hu2.1]
   ·rename_i hj
    have hj0:j - es.length = 0:=by have:=(zLg hv).1; simp at this; omega
    rw [hj0] at hv
    simp at hv
    obtain ⟨rfl, rfl⟩:=hv
    have hje:j = es.length:=by omega
    subst hje
    rw [Array.getElem?_push, if_pos hlen2.symm]
  ·simp only[execOp, ho, Instr.mapEntry, Sem.run_bind, run_underlying hT, Result.andThen_ok, hu, hobj, hkv, hK.check, hfind, Option.bind_none, hzv, hset, Sem.run_pure]
   have e1:zgD a z es = es ++ [(a, z)]:=by have:=s1 hix; rwa [hgz] at this
   simp [ixV, hix, hgz, e1]
 | some j=>
  rw [hix] at hfind
  have hja:=zlg hix
  rw [List.getElem?_map, Option.map_eq_some_iff] at hja
  obtain ⟨⟨a', y0⟩, hy0, rfl⟩:=hja
  obtain ⟨u0, hu0, hu2⟩:=hent j a' (.pub (.v y0)) (by rw [List.getElem?_map, hy0]; rfl)
  simp only[FitsE, Fits] at hu2
  obtain ⟨rfl, _⟩:=hu2
  have hvl:arr.toList[j]? = some ⟨enc a', u0, j⟩:=by rw [Array.getElem?_toList]; exact hu0
  have hjl:j < es.length:=(zLg hy0).1
  obtain ⟨y, hy, hget, _⟩:=g2 j hix
  have hyu:y = u0:=by rw [hy0] at hy; injection hy with hy; injection hy with _ hy; exact hy.symm
  subst hyu
  have hself:zgD a' (ziF a' z es) es = es:=by
   rw [s2 j hix, hget]
   exact List.ext_getElem? fun t=>by
    by_cases ht:j = t
    ·subst ht; rw [List.getElem?_set_self hjl, hy0]
    ·rw [List.getElem?_set_ne ht]
  refine fin (arr.modify j fun q=>{ q with key:=enc a' }) (by rw [hself]; simp [hlen2]) (fun j' k v hv=>?_) ?_
  ·rw [hself] at hv
   obtain ⟨u, hu1, hu2⟩:=hent j' k (.pub (.v v)) (by rw [List.getElem?_map, hv]; rfl)
   simp only[FitsE, Fits] at hu2
   rw [hu2.1] at hu1
   by_cases hjj:j = j'
   ·subst hjj
    rw [Array.getElem?_modify, if_pos rfl, hu0]
    rw [hu0] at hu1
    injection hu1 with hu1
    injection hu1 with e1 e2
    subst e2
    rw [hy0] at hv
    injection hv with hv
    injection hv with e3 e4
    subst e3
    rfl
   ·rw [Array.getElem?_modify, if_neg hjj]; exact hu1
  ·have hstay:(Instr.keyThatStays (((arr[j]?).map (·.key)).getD (enc a')) (enc a')).run P w = .ok (enc a') w:=by
    rw [hu0]
    simp [Instr.keyThatStays, hK.bits]
   simp only[execOp, ho, Instr.mapEntry, Sem.run_bind, run_underlying hT, Result.andThen_ok, hu, hobj, hkv, hK.check, hfind, Option.bind_some, hvl, Option.map_some, hstay, hset, Sem.run_pure]
   have e2:zgD a' y es = es:=by rw [hget] at hself; exact hself
   simp [ixV, hix, hget, e2, hu0]
end
end Go.Av
end
section
namespace Go.Av
open Go.RowKit
theorem zwT {n:NS} {fr:Nat -> EV} {mem:List PO} (d:Nat):Weak ⟨n, fr, mem⟩ ⟨n, fr, mem.set d .dead⟩:=by
 intro w0 ok0 a w ⟨h0, h1, h2, ok, bs, h3, h4, h5, h6⟩
 have get:∀ (l:Nat) (o:PO), (mem.set d .dead)[l]? = some o -> o.live = true -> mem[l]? = some o:=fun l o h ho=>by
  by_cases e:d = l
  ·subst e
   by_cases hl:d < mem.length
   ·rw [List.getElem?_set_self hl] at h; injection h with h; subst h; cases ho
   ·rw [List.getElem?_eq_none (by simp; omega)] at h; cases h
  ·rwa [List.getElem?_set_ne e] at h
 have ht:Turn bs bs mem (mem.set d .dead):=⟨fun l b hb=>⟨b, hb, fun rows h=>⟨rows, get l _ h rfl, Nat.le_refl _, fun _=>rfl⟩⟩, fun l b b' es hb hb' h=>⟨⟨es, get l _ h rfl⟩, by rw [hb] at hb'; injection hb' with hb'; exact hb'.symm⟩⟩
 have hf:∀ (e:EV) (u:Value), FitsE ok w bs mem e u -> FitsE ok w bs (mem.set d .dead) e u:=fun e u h=>h.mono (fun _ hb=>hb) (fun _ _=>rfl) ht
 refine ⟨h0, h1, h2, ok, bs, h3, h4, ⟨by simp [h5.len], h5.lt, fun l b rows hb h=>?_, fun l b es hb h=>?_, fun l b o g hb h ho=>h5.own' l b o g hb (get l o h ho) ho, fun l l' b b' o o' g hb h ho hb' h' ho'=>h5.dist' l l' b b' o o' g hb (get l o h ho) ho hb' (get l' o' h' ho') ho'⟩, h6.map hf⟩
 ·have hr:=h5.row l b rows hb (get l _ h rfl)
  exact ⟨hr.size, hr.nil, hr.pos, fun g hg=>by
   obtain ⟨cur, c1, c2, c3, c4, c5⟩:=hr.blk g hg
   exact ⟨cur, c1, c2, c3, c4, fun i j r x e1 e2=>by
    obtain ⟨u, u1, u2, u3⟩:=c5 i j r x e1 e2
    exact ⟨u, u1, u2, hf _ _ u3⟩⟩⟩
 ·obtain ⟨g, arr, g1, g2, g3, g4⟩:=h5.mp l b es hb (get l _ h rfl)
  exact ⟨g, arr, g1, g2, g3, fun i k x e=>by
   obtain ⟨v, v1, v2⟩:=g4 i k x e
   exact ⟨v, v1, hf _ _ v2⟩⟩
section
variable {P:Program} {G:Glob} {α:Type} {enc:α -> Value} [DecidableEq α] {ops:Array Oper}
theorem zu3 {C:List PO -> Prop} {hows:Nat -> How} {Q:(Nat -> EV) -> List PO -> Prop} {k:Nat} {fr:Nat -> EV} {mem:List PO} {o:Oper} {rest:List Oper} {e:EV} {x:PO} (R:List Nat) (l:Nat) (hk:hows k = .rw R l) (hg:o.guard = none)
  (ho:∀ m:List PO, Agree (l :: R) m mem -> C m -> OpB P G fr m o e (m.set l x) /\ C (m.set l x)) (h:zbV P G ops C hows Q (k + 1) rest (qX fr o.dst e) (mem.set l x)):zbV P G ops C hows Q k (o :: rest) fr mem:=
 ⟨e, mem.set l x, by rw [hk]; exact ⟨hg, x, rfl, ho⟩, h⟩
def zwl (enc:α -> Value) (l d:Nat) (a:α) (z:Value) (es:List (α × Value)) (m:List PO):Prop:=
 m[d]? = some (.row []) -> m[l]? = some (zuE enc es) ∨ m[l]? = some (zuE enc (zgD a (ziF a z es) es))
theorem zvM (a:α) (d x:Value):∀ es:List (α × Value), ziF a d (zgD a x es) = x
 | []=>by simp [zgD, ziF]
 | (b, y) :: t=>by
  unfold zgD
  by_cases h:b = a
  ·rw [if_pos h]; simp [ziF]
  ·rw [if_neg h]; unfold ziF; rw [if_neg h]; exact zvM a d x t
variable {fr:Nat -> EV} {o:Oper}
theorem zwZ {T kt et:TypeId} {x i:Operand} {l d:Nat} {es:List (α × Value)} {a:α} {kx:AV} {z:Value} {m mem:List PO} (hm:Agree [d] m mem) (hf:mem[d]? = some (.row [])) (hC:zwl enc l d a z es m) (ho:o.op = .lookup T x i false) (hx:evO fr x = .mpv l) (hi:evO fr i = .pub kx) (hk:zrF kx (enc a))
  (hT:P.underlying T = some (.map kt et)) (hK:KeyT P kt enc) (hz:(P.info? et).bind (·.zero) = some z) (hzv:ofV z = .v z):OpY P G fr m o (.pub (.v (ziF a z es))):=by
 have h1:=hC ((hm.one d (by simp)).trans hf)
 rcases h1 with h1 | h1
 ·have:=zmk (P:=P) (G:=G) (fr:=fr) (mem:=m) ho hx h1 hi hk hT hK hz
  rw [hzv, zvc] at this
  exact this
 ·have:=zmk (P:=P) (G:=G) (fr:=fr) (mem:=m) ho hx h1 hi hk hT hK hz
  rw [hzv, zvc, zvM] at this
  exact this
theorem zxp {T kt et:TypeId} {x i:Operand} {l d:Nat} {es:List (α × Value)} {a:α} {kx:AV} {z:Value} {m mem:List PO} (hm:Agree [l] m mem) (hml:mem[l]? = some (zuE enc es)) (hld:l ≠ d) (hC:zwl enc l d a z es m) (ho:o.op = .mapEntry T x i) (hx:evO fr x = .mpv l) (hi:evO fr i = .pub kx) (hk:zrF kx (enc a))
  (hT:P.underlying T = some (.map kt et)) (hK:KeyT P kt enc) (hz:(P.info? et).bind (·.zero) = some z) (hz1:z.oneCell' = true) (h1c:∀ p ∈ es, p.2.oneCell' = true):
  OpB P G fr m o (.pub (.tup [.v (ziF a z es), .v (goInt (ixV a es))])) (m.set l (zuE enc (zgD a (ziF a z es) es))) /\ zwl enc l d a z es (m.set l (zuE enc (zgD a (ziF a z es) es))):=by
 have h1:=(hm.one l (by simp)).trans hml
 refine ⟨fun n fr2 hfr hd=>zwp (P:=P) (G:=G) (st:=⟨n, fr2, m⟩) ho hd ((hfr x (by simp [ho, Op.operands])).trans hx) h1 ((hfr i (by simp [ho, Op.operands])).trans hi) hk hT hK hz hz1 h1c, fun _=>.inr ?_⟩
 rw [List.getElem?_set_self (by exact (zLg h1).1)]
theorem zw9 {T:TypeId} {x s y:Operand} {l d:Nat} {es:List (α × Value)} {a:α} {z v:Value} {mem:List PO} (ho:o.op = .entryStore T x s y) (hd:o.dst = none) (hx:evO fr x = .mpv l) (hm:mem[l]? = some (zuE enc (zgD a (ziF a z es) es))) (hld:l ≠ d) (hs:evO fr s = .pub (.v (goInt (ixV a es)))) (hy:evO fr y = .pub (.v v)):
  OpB P G fr mem o zal ((mem.set l (zuE enc (zgD a v es))).set d .dead):=by
 intro n fr2 hfr hdn
 obtain ⟨e1, e2⟩:=zx6 a (ziF a z es) v es
 have:=zv1 (P:=P) (G:=G) (st:=⟨n, fr2, mem⟩) (enc:=enc) (a:=a) (v:=v) ho hd ((hfr x (by simp [ho, Op.operands])).trans hx) hm ((hfr s (by simp [ho, Op.operands])).trans hs) e2 ((hfr y (by simp [ho, Op.operands])).trans hy)
 rw [e1] at this
 intro w0 ok0 act w hG hok hsit K Q hK
 refine this w0 ok0 act w hG hok hsit K Q fun a' w' hs'=>hK a' w' ?_
 rw [hd]
 exact zwT d _ _ _ _ hs'
end
end Go.Av
end
section
namespace Go.Av
open Go.RowKit
section
variable {P:Program} {G:Glob} {st:ASt} {o:Oper}
theorem zxC {T E:TypeId} {x:Operand} {m:Int} {zs:List Value} {size bytes l:Nat} {i:TypeInfo} {z:Value} (ho:o.op = .makeSlice T x x) (hd:jO o st.n = true) (hx:evO st.fr x = I m)
  (hu:P.underlying T = some (.slice E)) (hi:P.info? E = some i) (hz:i.zero = some z) (hsz:i.size = size) (hbt:i.bytes = bytes) (hc:z.cells = zs.toArray) (hzl:zs.length = size) (h1:zs.all Value.oneCell' = true)
  (hm:0 < m) (hm2:m <= 1000000000) (hb:bytes <= 1000) (hml:st.mem[l]? = some (.row [])):
  OpM P G st o ⟨st.n, qX st.fr o.dst (.psl l m.toNat), st.mem.set l (.row (List.replicate m.toNat (zs.map fun v=>.pub (.v v))))⟩:=by
 intro w0 ok0 a w hG hok hsit K Q hK
 obtain ⟨h0, h1', h2, ok, bs, h3, h4, h5, h6⟩:=hsit
 have hlm:l < st.mem.length:=(zLg hml).1
 have hlb:l < bs.length:=by rw [h5.len]; exact hlm
 have hbl:bs[l]? = some bs[l]:=by simp [hlb]
 have e:a.eval x = .int .i64 m:=by
  have hse:=qO (fr:=st.fr) (a:=a) (x:=x) fun t _=>h6.1 t
  rw [hx] at hse
  simp only[FitsE, Fits] at hse
  exact hse.1
 have hbytes:(i.bytes:Int) * m <= 281474976710656:=by
  have h:(i.bytes:Int) * m <= 1000 * 1000000000:=Int.mul_le_mul (by omega) hm2 (by omega) (by omega)
  omega
 have hmk:=run_make (P:=P) w T E i z hu hi hz .i64 .i64 m m (by omega) (by omega) hbytes (by omega)
 have hsize:z.cells.size = size:=by rw [hc]; simpa using hzl
 have hrun:(execOp a.eval o).run P w = .ok (.value (.slice (some ⟨w.heap.size, 0, none⟩) m.toNat m.toNat)) (w.alloc (.cells (madeCells z.cells (m.toNat * i.size)) E)):=by
  simp [execOp, ho, e, hmk]
 have hcs:(madeCells z.cells (m.toNat * i.size)).size = m.toNat * size:=by simp [madeCells, hsz]
 have hturn:=h5.turn (w':=w.alloc (.cells (madeCells z.cells (m.toNat * i.size)) E)) (b':=⟨some w.heap.size, m.toNat, E, size⟩) (rows':=List.replicate m.toNat (zs.map fun v=>.pub (.v v))) hbl hml (below_alloc w _).size (fun k hk _=>(below_alloc w _).block k hk) (by simp) (fun e=>by simp at e; omega)
  (fun g hg=>by simp at hg; exact .inr (Nat.le_of_eq hg)) h2.size (fun hfit=>by
   refine ⟨fun r hr=>?_, fun hnn=>(by simp at hnn), fun _ _=>(by simp; omega), fun g hg=>?_⟩
   ·have:=List.eq_of_mem_replicate hr
    rw [this]; simpa using hzl
   ·simp at hg
    subst hg
    refine ⟨_, heap_alloc_new w _, hcs, by simp, by simp only[maxLen]; omega, fun i' j r x hr hx=>?_⟩
    have hil:i' < m.toNat:=by have:=(zLg hr).1; simpa using this
    have hr':=List.eq_of_mem_replicate (List.mem_of_getElem? hr)
    subst hr'
    simp only[List.getElem?_map, Option.map_eq_some_iff] at hx
    obtain ⟨v, hv, rfl⟩:=hx
    have hj:j < size:=by have:=(zLg hv).1; omega
    have hlt:i' * size + j < m.toNat * size:=by
     have:(i' + 1) * size <= m.toNat * size:=Nat.mul_le_mul_right _ hil
     rw [Nat.succ_mul] at this
     omega
    refine ⟨v, ?_, by rw [List.all_eq_true] at h1; exact h1 v (List.mem_of_getElem? hv), wW (by rw [List.all_eq_true] at h1; exact h1 v (List.mem_of_getElem? hv))⟩
    have hmod:(i' * size + j) % size = j:=by rw [Nat.mul_comm, Nat.mul_add_mod, Nat.mod_eq_of_lt hj]
    simp only[madeCells, hsz, Array.getElem?_map]
    rw [Array.getElem?_eq_getElem (by simpa using hlt)]
    simp only[Array.getElem_range, Option.map_some, hsize, hmod]
    have hv':z.cells[j]? = some v:=by rw [hc]; simpa using hv
    simp [Array.getElem!_eq_getD, Array.getD_eq_getD_getElem?, hv'])
 refine jR hrun (hK _ _ ⟨(size_put ..).trans h0, h1'.put (.of_below (below_alloc w _)) (qC hd), wI h2 h2.size (below_alloc w _), ok, _, h3, h4, hturn.1, ?_⟩)
 refine wo (h6.map hturn.2) ?_ (fun d hdd=>by rw [h0]; exact yB hd d hdd)
 simp only[FitsE]
 refine ⟨⟨some w.heap.size, m.toNat, E, size⟩, by simp [hlb], fun rows hr=>?_⟩
 simp [hlm] at hr
 subst hr
 simp [PB.sl]
theorem wP {fr:Nat -> EV} {mem:List PO} {T E:TypeId} {x:Operand} {m:Int} {zs:List Value} {size bytes l:Nat} {i:TypeInfo} {z:Value} (ho:o.op = .makeSlice T x x) (hx:evO fr x = I m)
  (hu:P.underlying T = some (.slice E)) (hi:P.info? E = some i) (hz:i.zero = some z) (hsz:i.size = size) (hbt:i.bytes = bytes) (hc:z.cells = zs.toArray) (hzl:zs.length = size) (h1:zs.all Value.oneCell' = true)
  (hm:0 < m) (hm2:m <= 1000000000) (hb:bytes <= 1000) (hml:mem[l]? = some (.row [])):
  ∀ mm:List PO, mm[l]? = mem[l]? -> True -> OpB P G fr mm o (.psl l m.toNat) (mm.set l (.row (List.replicate m.toNat (zs.map fun v=>.pub (.v v))))) /\ True:=fun mm hmm _=>
 ⟨fun N fr2 he hd=>zxC (P:=P) (G:=G) (st:=⟨N, fr2, mm⟩) ho hd ((he x (by simp [ho, Op.operands])).trans hx) hu hi hz hsz hbt hc hzl h1 hm hm2 hb (hmm.trans hml), trivial⟩
end
end Go.Av
end
section
namespace Go.Av
open Go.RowKit
end Go.Av
end
section
namespace Go.Av
open Go.RowKit
section
variable {P:Program} {G:Glob} {fr:Nat -> EV} {mem:List PO} {o:Oper}
end
end Go.Av
end
