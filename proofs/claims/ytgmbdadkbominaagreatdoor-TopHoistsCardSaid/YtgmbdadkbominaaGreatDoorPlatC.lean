import Derived.Test.YtgmbdadkbominaaGreatDoorPlatB
import Derived.Deep.Slices
import Derived.ChangeSame
import Derived.Carry
import Derived.RowKit
import Derived.LaidSub
import Derived.MakeChecks
import Derived.ProofKit
set_option linter.unusedVariables false
set_option linter.unusedSimpArgs false
section
namespace Go.Av
open Go.ChangeShapes Go.WideShapes Go.RowKit
def zpu (P:Program):List Field -> Nat -> Nat -> Bool
 | [], off, tot=>off == tot
 | f :: fs, off, tot=>f.offset == off && zpu P fs (off + P.cellsOf f.type) tot
def kY (P:Program):Nat -> TypeId -> Bool
 | 0, _=>false
 | n + 1, t=>match P.underlying t with
  | some (.int _)=>P.cellsOf t == 1
  | some .bool=>P.cellsOf t == 1
  | some .string=>P.cellsOf t == 1
  | some (.slice e)=>P.cellsOf t == 1 && decide (0 < P.cellsOf e) && kY P n e
  | some (.struct fs)=>zpu P fs.toList 0 (P.cellsOf t) && fs.toList.all fun f=>kY P n f.type
  | _=>false
def zfZ (Q:TypeId -> List AV -> Prop):List Field -> List AV -> Prop
 | [], xs=>xs = []
 | f :: fs, xs=>∃ a b, xs = a ++ b /\ Q f.type a /\ zfZ Q fs b
def qK (P:Program):Nat -> TypeId -> List AV -> Prop
 | 0, _, _=>False
 | n + 1, t, xs=>match P.underlying t with
  | some (.int k)=>∃ q, xs = [.v (.int k q)] /\ (Lit.int k q).wf = true
  | some .bool=>∃ b, xs = [.v (.bool b)]
  | some .string=>∃ s, xs = [.v (.string s)] /\ s.size <= maxLen
  | some (.slice e)=>∃ rows, xs = [.sl rows] /\ rows.length <= maxLen /\ ∀ r ∈ rows, qK P n e r
  | some (.struct fs)=>zfZ (qK P n) fs.toList xs
  | _=>False
section
variable {P:Program} {n:Nat} {t:TypeId} {xs:List AV}
theorem zhu {k:IntKind} (ht:P.underlying t = some (.int k)) (h:qK P (n + 1) t xs):∃ q, xs = [.v (.int k q)] /\ (Lit.int k q).wf = true:=by
 unfold qK at h; rw [ht] at h; exact h
theorem zkH (ht:P.underlying t = some .bool) (h:qK P (n + 1) t xs):∃ b, xs = [.v (.bool b)]:=by
 unfold qK at h; rw [ht] at h; exact h
theorem zdq (ht:P.underlying t = some .string) (h:qK P (n + 1) t xs):∃ s, xs = [.v (.string s)] /\ s.size <= maxLen:=by
 unfold qK at h; rw [ht] at h; exact h
theorem yC {e:TypeId} (ht:P.underlying t = some (.slice e)) (h:qK P (n + 1) t xs):∃ rows, xs = [.sl rows] /\ rows.length <= maxLen /\ ∀ r ∈ rows, qK P n e r:=by
 unfold qK at h; rw [ht] at h; exact h
theorem yH {fs:Array Field} (ht:P.underlying t = some (.struct fs)) (h:qK P (n + 1) t xs):zfZ (qK P n) fs.toList xs:=by
 unfold qK at h; rw [ht] at h; exact h
theorem zaY {α:Type} {e:α -> List AV}:∀ {rows:List (List AV)}, (∀ r ∈ rows, ∃ s, r = e s) -> ∃ ss:List α, rows = ss.map e
 | [], _=>⟨[], rfl⟩
 | r :: rs, h=>by
  obtain ⟨s, hs⟩:=h r (by simp)
  obtain ⟨ss, hss⟩:=zaY (e:=e) (rows:=rs) (fun q hq=>h q (by simp [hq]))
  exact ⟨s :: ss, by simp [hs, hss]⟩
theorem zlX {α:Type} {Q:Nat -> α -> Prop}:∀ (n:Nat), (∀ i, i < n -> ∃ r, Q i r) -> ∃ l:List α, l.length = n /\ ∀ i r, l[i]? = some r -> Q i r
 | 0, _=>⟨[], rfl, fun i r h=>by simp at h⟩
 | n + 1, h=>by
  obtain ⟨l, h1, h2⟩:=zlX n (fun i hi=>h i (by omega))
  obtain ⟨r, hr⟩:=h n (by omega)
  refine ⟨l ++ [r], by simp [h1], fun i x hx=>?_⟩
  rw [List.getElem?_append] at hx
  split at hx
  ·exact h2 i x hx
  ·have:i - l.length = 0:=by
    rcases Nat.eq_zero_or_pos (i - l.length) with h0 | h0
    ·exact h0
    ·rw [List.getElem?_eq_none (by simp; omega)] at hx; cases hx
   rw [this] at hx
   simp at hx
   subst hx
   rwa [show i = n by omega]
end
theorem cell_lt {w:World} {a:Addr} {v:Value} (h:w.cell? a = some v):a.block < w.heap.size:=by
 unfold World.cell? at h
 split at h
 ·rename_i h1
  exact (Array.getElem?_eq_some_iff.1 h1).1
 ·cases h
section
variable {H:Type} {enc:TypeId × Value -> H} {P:Program} {w:World} {base:Nat} {spare:Nat -> Bool} {held:Bool} {ok:Nat -> Prop}
theorem zdp {n m tot:Nat} {cs:List Value} (hlen:cs.length = tot)
  (ih:∀ (t:TypeId) (fuel:Nat) (cs:List Value) (x:DataW H × List MemPlace), kY P n t = true -> DataW.trod enc P w base spare held fuel t cs = some x -> ∃ xs, qK P n t xs /\ FitsL ok w xs cs /\ (∀ u ∈ cs, u.oneCell' = true) /\ xs.length = P.cellsOf t):
  ∀ (fs:List Field) (off:Nat), zpu P fs off tot = true -> (fs.all fun f=>kY P n f.type) = true -> (∀ f ∈ fs, ∃ y, DataW.trod enc P w base spare held m f.type ((cs.drop f.offset).take (P.cellsOf f.type)) = some y) ->
   ∃ xs, zfZ (qK P n) fs xs /\ FitsL ok w xs (cs.drop off) /\ (∀ u ∈ cs.drop off, u.oneCell' = true) /\ xs.length = tot - off /\ off <= tot
 | [], off, hl, _, _=>by
  simp only[zpu, beq_iff_eq] at hl
  subst hl
  have:cs.drop off = []:=by simp [hlen]
  exact ⟨[], rfl, by rw [this]; simp only[FitsL], by rw [this]; simp, by simp, Nat.le_refl _⟩
 | f :: fs, off, hl, hp, hf=>by
  simp only[zpu, zLa, beq_iff_eq] at hl
  simp only[List.all_cons, zLa] at hp
  obtain ⟨y, hy⟩:=hf f (by simp)
  rw [hl.1] at hy
  obtain ⟨a, a1, a2, a3, a4⟩:=ih _ _ _ _ hp.1 hy
  obtain ⟨b, b1, b2, b3, b4, b5⟩:=zdp hlen ih fs (off + P.cellsOf f.type) hl.2 hp.2 (fun g hg=>hf g (by simp [hg]))
  have e:cs.drop off = (cs.drop off).take (P.cellsOf f.type) ++ cs.drop (off + P.cellsOf f.type):=by
   rw [← List.drop_drop, List.take_append_drop]
  refine ⟨a ++ b, ⟨a, b, rfl, a1, b1⟩, ?_, ?_, by simp [a4, b4]; omega, by omega⟩
  ·rw [e]; exact a2.append b2
  ·rw [e]
   intro u hu
   rcases List.mem_append.1 hu with hu | hu
   ·exact a3 u hu
   ·exact b3 u hu
theorem zcP (hok:∀ b, b < w.heap.size -> ok b):∀ (n:Nat) (t:TypeId) (fuel:Nat) (cs:List Value) (x:DataW H × List MemPlace), kY P n t = true -> DataW.trod enc P w base spare held fuel t cs = some x ->
  ∃ xs, qK P n t xs /\ FitsL ok w xs cs /\ (∀ u ∈ cs, u.oneCell' = true) /\ xs.length = P.cellsOf t
 | 0, t, fuel, cs, x, hp, _=>by simp [kY] at hp
 | n + 1, t, fuel, cs, x, hp, h=>by
  unfold kY at hp
  split at hp
  ·rename_i k ht
   obtain ⟨q, rfl, rfl, hw⟩:=DataW.trod_int ht h
   refine ⟨[.v (.int k q)], by unfold qK; rw [ht]; exact ⟨q, rfl, hw⟩, by simp only[FitsL]; exact ⟨_, _, rfl, by simp only[Fits]; exact ⟨trivial, rfl⟩, rfl⟩, by simp [Value.oneCell'], ?_⟩
   simp at hp; simp [hp]
  ·rename_i ht
   obtain ⟨q, rfl, rfl⟩:=DataW.trod_bool ht h
   refine ⟨[.v (.bool q)], by unfold qK; rw [ht]; exact ⟨q, rfl⟩, by simp only[FitsL]; exact ⟨_, _, rfl, by simp only[Fits]; exact ⟨trivial, rfl⟩, rfl⟩, by simp [Value.oneCell'], ?_⟩
   simp at hp; simp [hp]
  ·rename_i ht
   obtain ⟨q, rfl, rfl, hw⟩:=DataW.trod_string ht h
   refine ⟨[.v (.string q)], by unfold qK; rw [ht]; exact ⟨q, rfl, hw⟩, by simp only[FitsL]; exact ⟨_, _, rfl, by simp only[Fits]; exact ⟨trivial, rfl⟩, rfl⟩, by simp [Value.oneCell'], ?_⟩
   simp at hp; simp [hp]
  ·rename_i e ht
   simp only[zLa, beq_iff_eq, decide_eq_true_eq] at hp
   obtain ⟨⟨hc, hpos⟩, hpe⟩:=hp
   rcases Deep.open_slice ht h with ⟨rfl, _⟩ | ⟨a, len, cap, m, k, D, Pl, rfl, hb, hl, hm, hmm, hx, hi⟩
   ·refine ⟨[.sl []], by unfold qK; rw [ht]; exact ⟨[], rfl, by simp, by simp⟩, ?_, by simp [Value.oneCell'], by simp [hc]⟩
    simp only[FitsL]
    refine ⟨_, _, rfl, ?_, rfl⟩
    simp only[Fits]
    exact ⟨none, 0, 0, rfl, by simp, by simp, by simp, by simp⟩
   ·have hml:len <= m:=by rw [hmm]; split <;> omega
    have key:∀ i, i < len -> ∃ r, qK P n e r /\ ∃ cs', w.cells? base (a.add (i * P.cellsOf e)) (P.cellsOf e) = some cs' /\ FitsL ok w r cs' /\ (∀ u ∈ cs', u.oneCell' = true) /\ r.length = P.cellsOf e:=fun i hil=>by
     obtain ⟨cs', h1, h2⟩:=hi i (by omega)
     obtain ⟨r, r1, r2, r3, r4⟩:=zcP hok n e k cs' _ hpe h2
     exact ⟨r, r1, cs', h1, r2, r3, r4⟩
    obtain ⟨rows, hrl, hr⟩:=zlX len key
    have hsize:∀ r ∈ rows, r.length = P.cellsOf e:=fun r hrm=>by
     obtain ⟨i, hi', hg⟩:=List.getElem_of_mem hrm
     obtain ⟨_, cs', _, _, _, h4⟩:=hr i r (by rw [List.getElem?_eq_getElem hi', hg])
     exact h4
    refine ⟨[.sl rows], by unfold qK; rw [ht]; exact ⟨rows, rfl, by omega, fun r hrm=>by
     obtain ⟨i, hi', hg⟩:=List.getElem_of_mem hrm
     exact (hr i r (by rw [List.getElem?_eq_getElem hi', hg])).1⟩, ?_, by simp [Value.oneCell'], by simp [hc]⟩
    simp only[FitsL]
    refine ⟨_, _, rfl, ?_, rfl⟩
    simp only[Fits]
    refine ⟨some a, cap, P.cellsOf e, by rw [hrl], by omega, hm, hsize, fun hp0=>?_⟩
    obtain ⟨b, off, spot⟩:=a
    obtain ⟨_, _, cs0, hc0, hf0, ho0, hl0⟩:=key 0 (by omega)
    obtain ⟨_, hcl, hat⟩:=World.cells?_some hc0
    have g0:=hat 0 hpos
    rw [List.getElem?_eq_getElem (by omega)] at g0
    have hspot:spot = none:=by simpa [Addr.add] using World.cell?_spot g0
    subst hspot
    have hblk:b < w.heap.size:=by have:=cell_lt g0; simpa [Addr.add] using this
    refine ⟨b, off, rfl, hok b hblk, FitsR.of_get hsize fun i r hir=>FitsC.of_get fun j z hz=>?_⟩
    obtain ⟨_, cs', h1, h2, h3, h4⟩:=hr i r hir
    obtain ⟨_, hcl', hat'⟩:=World.cells?_some h1
    obtain ⟨u, hu, hfu⟩:=h2.get hz
    have hj:j < P.cellsOf e:=by
     have:=(zLg hz).1
     omega
    have:=hat' j hj
    rw [hu, add_plain, add_plain] at this
    exact ⟨u, this, h3 u (List.mem_of_getElem? hu), hfu⟩
  ·rename_i fs ht
   simp only[zLa] at hp
   obtain ⟨ys, k, rfl, rfl, hlen, hyl, hg⟩:=DataW.trod_struct ht h
   obtain ⟨xs, h1, h2, h3, h4, _⟩:=zdp (enc:=enc) (m:=k) hlen (fun t fuel cs x=>zcP hok n t fuel cs x) fs.toList 0 hp.1 hp.2 (fun f hf=>by
    obtain ⟨i, hi', hgi⟩:=List.getElem_of_mem hf
    have hi2:i < fs.size:=by simpa using hi'
    have:=hg i f (by rw [Array.getElem?_eq_getElem hi2]; simpa using hgi)
    rw [List.getElem?_eq_getElem (by omega)] at this
    exact ⟨_, this⟩)
   rw [List.drop_zero] at h2 h3
   exact ⟨xs, by unfold qK; rw [ht]; exact h1, h2, h3, by simpa using h4⟩
  ·cases hp
def xU (P:Program) (n:Nat) (t:TypeId) (x:AV):Prop:=match P.underlying t with
 | some (.struct fs)=>∃ xs, x = .agg xs /\ zfZ (qK P n) fs.toList xs
 | _=>qK P (n + 1) t [x]
theorem zm3 (hok:∀ b, b < w.heap.size -> ok b) {r:Reach} {b0 n:Nat} {t:TypeId} {v:Value} {d:DataW H} {ps:List MemPlace} (hp:kY P (n + 1) t = true) (hv:Value.okWide P w r b0 t v) (h:DataW.Trod enc P w base spare held t v d ps):
  ∃ x, xU P n t x /\ Fits ok w x v:=by
 obtain ⟨fuel, hf⟩:=h
 obtain ⟨xs, h1, h2, h3, h4⟩:=zcP hok (n + 1) t fuel _ _ hp hf
 have one:∀ (x:AV), xs = [x] -> v.cells.toList = [v] -> Fits ok w x v:=fun x hx hc=>by
  subst hx
  rw [hc] at h2
  simp only[FitsL, List.cons.injEq] at h2
  obtain ⟨u, us, ⟨rfl, _⟩, h5, _⟩:=h2
  exact h5
 have hp':=hp
 unfold kY at hp'
 split at hp'
 ·rename_i k ht
  obtain ⟨q, rfl⟩:=okWide_int ht hv
  obtain ⟨q', rfl, _⟩:=zhu ht h1
  exact ⟨_, by unfold xU; rw [ht]; exact h1, one _ rfl rfl⟩
 ·rename_i ht
  obtain ⟨q, rfl⟩:=okWide_bool ht hv
  obtain ⟨q', rfl⟩:=zkH ht h1
  exact ⟨_, by unfold xU; rw [ht]; exact h1, one _ rfl rfl⟩
 ·rename_i ht
  obtain ⟨q, rfl⟩:=okWide_string ht hv
  obtain ⟨q', rfl, _⟩:=zdq ht h1
  exact ⟨_, by unfold xU; rw [ht]; exact h1, one _ rfl rfl⟩
 ·rename_i e ht
  obtain ⟨a, len, cap, rfl⟩:=okWide_slice ht hv
  obtain ⟨rows, rfl, _⟩:=yC ht h1
  exact ⟨_, by unfold xU; rw [ht]; exact h1, one _ rfl rfl⟩
 ·rename_i fs ht
  obtain ⟨cs, rfl, hsz⟩:=okWide_struct ht hv
  refine ⟨.agg xs, by unfold xU; rw [ht]; exact ⟨xs, rfl, yH ht h1⟩, ?_⟩
  simp only[Fits]
  refine ⟨cs.toList, by simp, ?_, ?_⟩
  ·simpa [Value.cells] using h3
  ·simpa [Value.cells] using h2
 ·cases hp'
def zh1 (P:Program) (n:Nat):List TypeId -> List AV -> Prop
 | [], xs=>xs = []
 | t :: ts, xs=>∃ x ys, xs = x :: ys /\ xU P n t x /\ zh1 P n ts ys
theorem zfv (hok:∀ b, b < w.heap.size -> ok b) {r:Reach} {b0 n:Nat}:∀ {ts:List TypeId} {vs:List Value} {ds:List (DataW H)} {ps:List MemPlace}, (ts.all fun t=>kY P (n + 1) t) = true ->
  (∀ (j:Nat) t v, ts[j]? = some t -> vs[j]? = some v -> Value.okWide P w r b0 t v) -> DataW.TrodAll enc P w base spare held ts vs ds ps -> ∃ xs, zh1 P n ts xs /\ FitsL ok w xs vs
 | [], vs, ds, ps, _, _, h=>by
  obtain ⟨rfl, rfl, rfl⟩:=trodAll_nil h
  exact ⟨[], rfl, by simp only[FitsL]⟩
 | t :: ts, vs, ds, ps, hp, hv, h=>by
  simp only[List.all_cons, zLa] at hp
  obtain ⟨v, vs', d, ds', p, q, rfl, rfl, rfl, h1, h2⟩:=trodAll_cons h
  obtain ⟨x, x1, x2⟩:=zm3 hok hp.1 (hv 0 t v rfl rfl) h1
  obtain ⟨xs, y1, y2⟩:=zfv hok (ts:=ts) hp.2 (fun j t' v' ht hv'=>hv (j + 1) t' v' (by simpa using ht) (by simpa using hv')) h2
  exact ⟨x :: xs, ⟨x, xs, rfl, x1, y1⟩, by simp only[FitsL]; exact ⟨v, vs', rfl, x2, y2⟩⟩
theorem zcN (hl:laidOutB P = true) {W W':World} {sp:Nat -> Bool}:∀ {ts:List TypeId} {vs:List Value} {ds:List (DataW H)} {ps:List MemPlace}, (ts.all fun t=>P.readableRec t && decide (t < P.types.size)) = true ->
  DataW.TrodAll enc P W base (fun _=>true) true ts vs ds ps -> (∀ p ∈ ps, W.sameAt W' p) -> (∀ p ∈ ps, sp p.block = true) -> DataW.TrodAll enc P W' base sp true ts vs ds ps
 | [], vs, ds, ps, _, h, _, _=>by
  obtain ⟨rfl, rfl, rfl⟩:=trodAll_nil h
  exact rfl
 | t :: ts, vs, ds, ps, hp, h, hs, hsp=>by
  simp only[List.all_cons, zLa, decide_eq_true_eq] at hp
  obtain ⟨v, vs', d, ds', p, q, rfl, rfl, rfl, h1, h2⟩:=trodAll_cons h
  exact ⟨p, q, WideElems.Trod_stays hl hp.1.1 hp.1.2 h1 (fun x hx=>hs x (by simp [hx])) (fun x hx=>hsp x (by simp [hx])), zcN hl (ts:=ts) hp.2 h2 (fun x hx=>hs x (by simp [hx])) (fun x hx=>hsp x (by simp [hx])), rfl⟩
theorem zgC {f:Func} {s:ChangeSpec} {apart fresh handsOn again:Bool} {W W':World} {args:Array Value} {tb:TypeId} {ds gs:List (DataW H)} {before:List MemPlace}
  (hl:laidOutB P = true) (hr:(f.params.toList.all fun t=>P.readableRec t && decide (t < P.types.size)) = true)
  (hb:P.underlying tb = some .bool) (hres:f.resultTypes = #[tb]) (hvars:s.vars = []) (hs:s.fn H ds = { results:=[.lit (.bool true)], args:=ds, vars:=[] })
  (hW:DataW.Whole enc P f.params.toList s.vars apart W args.toList ds gs before) (hbl:Below W.heap.size W W'):
  s.post enc P f apart fresh handsOn again W args (.bool true) W':=by
 have hlt:=fun p hp=>hW.lt p hp
 have hW':=hW
 obtain ⟨p, q, hA, hV, rfl, hz, hn⟩:=hW
 rw [hvars] at hV
 obtain ⟨rfl, rfl⟩:=trodVars_none hV
 have hsame:∀ x ∈ p, W.sameAt W' x:=fun x hx=>hbl.same (hlt x (by simp [hx]))
 have hargs:∀ sp:Nat -> Bool, (∀ x ∈ p ++ [], sp x.block = true) -> DataW.TrodAll enc P W' 0 sp true f.params.toList args.toList ds p:=fun sp hsp=>
  zcN hl hr hA hsame (fun x hx=>hsp x (by simp [hx]))
 have hfz:∀ x ∈ p, ∀ b off, x = .cell b off -> W'.frozen? ⟨b, off, none⟩ = W.frozen? ⟨b, off, none⟩:=fun x hx b off he=>by
  have:=hlt x (by simp [hx])
  subst he
  simp only[World.frozen?]
  rw [hbl.block b (by simpa [MemPlace.block] using this)]
 have hold:∀ x ∈ p ++ [], (fun b=>decide (b < W.heap.size)) x.block = true:=fun x hx=>by simpa using hlt x hx
 have e0:s.fn H (ds ++ []) = { results:=[.lit (.bool true)], args:=ds, vars:=[] }:=by rw [List.append_nil]; exact hs
 refine ⟨ds, [], p ++ [], [], p, [], hW', ?_, ?_, ?_, World.keptBut_mono (fun x hx=>⟨hx, Or.inr (by simpa using hx)⟩) (hbl.frame _), fun _=>⟨ok_one hres rfl (okWide_bool_mk hb true), ?_⟩⟩
 ·rw [e0, hres]; exact trodAll_mk1 (shut_bool hb true)
 ·rw [e0]; exact hargs _ hold
 ·rw [hvars, e0]; exact rfl
 ·refine ⟨[.lit (.bool true)] ++ ds, [], ([] ++ p) ++ [], ⟨[] ++ p, [], ?_, ?_, rfl, ?_, ?_⟩, ?_⟩
  ·rw [hres]
   show DataW.TrodAll enc P W' 0 (fun _=>true) true ([tb] ++ f.params.toList) ([.bool true] ++ args.toList) ([.lit (.bool true)] ++ ds) ([] ++ p)
   exact trodAll_append (hargs (fun _=>true) (fun _ _=>rfl)) (trodAll_mk1 (shut_bool (enc:=enc) (w:=W') (base:=0) (spare:=fun _=>true) (held:=true) hb true))
  ·rw [hvars]; exact rfl
  ·intro b off hp
   rw [hfz _ (by simpa using hp) b off rfl]
   exact hz b off (by simpa using hp)
  ·intro ha
   have:=hn ha
   simpa using this
  ·intro x hx _
   simpa using hx
end
end Go.Av
end
