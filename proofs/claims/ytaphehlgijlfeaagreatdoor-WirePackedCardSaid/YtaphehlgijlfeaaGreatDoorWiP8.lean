
import Derived.Test.YtaphehlgijlfeaaGreatDoorWiP7
set_option linter.unusedVariables false
set_option linter.unusedSimpArgs false
section
namespace Go.Av
open Go.Proofs
set_option maxRecDepth 100000
set_option maxHeartbeats 1000000
variable {G : Glob}
theorem zBY {P : Program} {fr : Nat -> EV} {mem : List PO} {o : Oper} {x y : Bool} (h : x = y) (ho : OpY P G fr mem o (B x)) : OpY P G fr mem o (B y) := h ▸ ho
theorem zCn (c : Cod) (hc : c.fields.length <= 1000 /\ c.turns.length <= 1000) {b : Bool} (h : jA c = b) : ACall Tryz.prog G 31 [.agg (qK c)] (.v (.bool b)) := h ▸ f31 c hc
theorem zCw (c : Cod) (m : List Int) (hm : m.length <= 1000) {b : Bool} (h : wS c m = b) : ACall Tryz.prog G 32 [.agg (qK c), zO m] (.v (.bool b)) := h ▸ f32 c m hm
theorem zCu (l : List Ent) (hl : l.length <= 1000) (hw : ∀ e ∈ l, e.word.length <= 9223372036854775807) {b : Bool} (h : zuB l = b) : ACall Tryz.prog G 47 [eBk l] (.v (.bool b)) := h ▸ f47 l hl hw
theorem zCx (hkn : KN G) (c : Cod) (bk : List Ent) (ms : List Int) (ts : LS) (hw : ∀ e ∈ bk, e.word.length <= 9223372036854775807) (hs : y7 c = false) : ACall Tryz.prog G 17 [.agg (qK c), eBk bk, zO ms, jD ts] (.v (.bool true)) := by
 refine zS Tryz.func17 rfl (by kernel_rfl) rfl ?_
 refine zl (zh (zg rfl rfl (jf rfl (zY rfl)) (zg rfl rfl (zn rfl rfl) (zo (zf (zl (zl (zh (zg rfl rfl (zZ rfl rfl wH (by exact zLb rfl)) (zg rfl rfl (zy (av := [_]) rfl ⟨rfl, trivial⟩ (zoc c hs)) (zg rfl rfl (je rfl rfl) ?_)))))))))))
 refine zg rfl rfl (zi rfl rfl) (zk rfl rfl rfl (fun hg => zq rfl rfl) ?_)
 refine zk (x := .pub (.tup [])) rfl rfl rfl (fun hg => absurd hg (by decide)) ?_
 refine zk (x := .pub (.tup [])) rfl rfl rfl (fun hg => absurd hg (by decide)) ?_
 refine zg rfl rfl (zU rfl rfl (fun _ => rfl) (fun h => absurd h (by decide))) ?_
 refine zg rfl rfl (zi rfl rfl) (zk rfl rfl rfl (fun hg => zq rfl rfl) ?_)
 refine zk (x := .pub (.tup [])) rfl rfl rfl (fun hg => absurd hg (by decide)) ?_
 refine zk (x := .pub (.tup [])) rfl rfl rfl (fun hg => absurd hg (by decide)) ?_
 refine zg rfl rfl (zU rfl rfl (fun _ => rfl) (fun h => absurd h (by decide))) ?_
 refine zg rfl rfl (zi rfl rfl) (zk rfl rfl rfl (fun hg => zq rfl rfl) ?_)
 refine zk (x := .pub (.tup [])) rfl rfl rfl (fun hg => absurd hg (by decide)) ?_
 refine zk (x := .pub (.tup [])) rfl rfl rfl (fun hg => absurd hg (by decide)) ?_
 refine zg rfl rfl (zU rfl rfl (fun _ => rfl) (fun h => absurd h (by decide))) ?_
 refine zg rfl rfl (zi rfl rfl) (zk rfl rfl rfl (fun hg => zq rfl rfl) ?_)
 refine zk (x := .pub (.tup [])) rfl rfl rfl (fun hg => absurd hg (by decide)) ?_
 refine zk (x := .pub (.tup [])) rfl rfl rfl (fun hg => absurd hg (by decide)) ?_
 refine zg rfl rfl (zU rfl rfl (fun _ => rfl) (fun h => absurd h (by decide))) ?_
 refine zg rfl rfl (zi rfl rfl) (zk rfl rfl rfl (fun hg => zZ rfl rfl wH (by exact zLb rfl)) ?_)
 refine zk (x := .pub (.tup [])) rfl rfl rfl (fun hg => absurd hg (by decide)) ?_
 refine zk (x := .pub (.tup [])) rfl rfl rfl (fun hg => absurd hg (by decide)) ?_
 refine zg rfl rfl (zU rfl rfl (fun _ => rfl) (fun h => absurd h (by decide))) ?_
 refine zg rfl rfl (zi rfl rfl) (zk rfl rfl rfl (fun hg => zq rfl rfl) ?_)
 refine zk (x := .pub (.tup [])) rfl rfl rfl (fun hg => absurd hg (by decide)) ?_
 refine zk (x := .pub (.tup [])) rfl rfl rfl (fun hg => absurd hg (by decide)) ?_
 refine zg rfl rfl (zU rfl rfl (fun _ => rfl) (fun h => absurd h (by decide))) ?_
 refine zg rfl rfl (zi rfl rfl) (zk rfl rfl rfl (fun hg => zZ rfl rfl wH (by exact zLb rfl)) (zk rfl rfl rfl (fun hg => zq rfl rfl) ?_))
 refine zk (x := .pub (.tup [])) rfl rfl rfl (fun hg => absurd hg (by decide)) ?_
 refine zk (x := .pub (.tup [])) rfl rfl rfl (fun hg => absurd hg (by decide)) ?_
 refine zg rfl rfl (zU rfl rfl (fun _ => rfl) (fun h => absurd h (by decide))) ?_
 refine zo (zf (zx rfl (fun h0 => ?_) (fun h0 => ?_)))
 ·
  refine zl (zh (zg rfl rfl (zy (av := []) rfl trivial hkn) (zg rfl rfl (zn rfl rfl) (zo (zf (zP (zQ ?_)))))))
  exact ⟨.inr rfl, AVle.refl _⟩
 ·
  exfalso; simp at h0
theorem zCF (hkn : KN G) (c : Cod) (bk : List Ent) (ms : List Int) (ts : LS) (hw : ∀ e ∈ bk, e.word.length <= 9223372036854775807) (hs : y7 c = true) (hb15 : 15 < bk.length) : ACall Tryz.prog G 17 [.agg (qK c), eBk bk, zO ms, jD ts] (.v (.bool true)) := by
 have hcs := zvI hs
 refine zS Tryz.func17 rfl (by kernel_rfl) rfl ?_
 refine zl (zh (zg rfl rfl (jf rfl (zY rfl)) (zg rfl rfl (zn rfl rfl) (zo (zf (zl (zl (zh (zg rfl rfl (zZ rfl rfl wH (by exact zLb rfl)) (zg rfl rfl (zy (av := [_]) rfl ⟨rfl, trivial⟩ (zoc c hs)) (zg rfl rfl (je rfl rfl) ?_)))))))))))
 refine zg rfl rfl (zi rfl rfl) (zk rfl rfl rfl (fun hg => zq rfl rfl) (zk rfl rfl rfl (fun hg => zuz rfl rfl Tryz.underlying63) ?_))
 refine zk rfl rfl rfl (fun hg => zBY (y := true) (by simp; omega) (qR rfl rfl rfl)) ?_
 refine zg rfl rfl (qU rfl rfl rfl rfl) (zg rfl rfl (zi rfl rfl) (zk rfl rfl rfl (fun hg => zq rfl rfl) ?_))
 refine zk (x := .pub (.tup [])) rfl rfl rfl (fun hg => absurd hg (by decide)) ?_
 refine zk (x := .pub (.tup [])) rfl rfl rfl (fun hg => absurd hg (by decide)) ?_
 refine zg rfl rfl (zU rfl rfl (fun _ => rfl) (fun h => absurd h (by decide))) ?_
 refine zg rfl rfl (zi rfl rfl) (zk rfl rfl rfl (fun hg => zq rfl rfl) ?_)
 refine zk (x := .pub (.tup [])) rfl rfl rfl (fun hg => absurd hg (by decide)) ?_
 refine zk (x := .pub (.tup [])) rfl rfl rfl (fun hg => absurd hg (by decide)) ?_
 refine zg rfl rfl (zU rfl rfl (fun _ => rfl) (fun h => absurd h (by decide))) ?_
 refine zg rfl rfl (zi rfl rfl) (zk rfl rfl rfl (fun hg => zq rfl rfl) ?_)
 refine zk (x := .pub (.tup [])) rfl rfl rfl (fun hg => absurd hg (by decide)) ?_
 refine zk (x := .pub (.tup [])) rfl rfl rfl (fun hg => absurd hg (by decide)) ?_
 refine zg rfl rfl (zU rfl rfl (fun _ => rfl) (fun h => absurd h (by decide))) ?_
 refine zg rfl rfl (zi rfl rfl) (zk rfl rfl rfl (fun hg => zZ rfl rfl wH (by exact zLb rfl)) ?_)
 refine zk (x := .pub (.tup [])) rfl rfl rfl (fun hg => absurd hg (by decide)) ?_
 refine zk (x := .pub (.tup [])) rfl rfl rfl (fun hg => absurd hg (by decide)) ?_
 refine zg rfl rfl (zU rfl rfl (fun _ => rfl) (fun h => absurd h (by decide))) ?_
 refine zg rfl rfl (zi rfl rfl) (zk rfl rfl rfl (fun hg => zq rfl rfl) ?_)
 refine zk (x := .pub (.tup [])) rfl rfl rfl (fun hg => absurd hg (by decide)) ?_
 refine zk (x := .pub (.tup [])) rfl rfl rfl (fun hg => absurd hg (by decide)) ?_
 refine zg rfl rfl (zU rfl rfl (fun _ => rfl) (fun h => absurd h (by decide))) ?_
 refine zg rfl rfl (zi rfl rfl) (zk rfl rfl rfl (fun hg => zZ rfl rfl wH (by exact zLb rfl)) (zk rfl rfl rfl (fun hg => zq rfl rfl) ?_))
 refine zk (x := .pub (.tup [])) rfl rfl rfl (fun hg => absurd hg (by decide)) ?_
 refine zk (x := .pub (.tup [])) rfl rfl rfl (fun hg => absurd hg (by decide)) ?_
 refine zg rfl rfl (zU rfl rfl (fun _ => rfl) (fun h => absurd h (by decide))) ?_
 refine zo (zf (zx rfl (fun h0 => ?_) (fun h0 => ?_)))
 ·
  refine zl (zh (zg rfl rfl (zy (av := []) rfl trivial hkn) (zg rfl rfl (zn rfl rfl) (zo (zf (zP (zQ ?_)))))))
  exact ⟨.inr rfl, AVle.refl _⟩
 ·
  exfalso; simp at h0
theorem zCD (hkn : KN G) (c : Cod) (bk : List Ent) (ms : List Int) (ts : LS) (hw : ∀ e ∈ bk, e.word.length <= 9223372036854775807) (hs : y7 c = true) (hb15 : bk.length <= 15) (hm6 : 6 < ms.length) : ACall Tryz.prog G 17 [.agg (qK c), eBk bk, zO ms, jD ts] (.v (.bool true)) := by
 have hcs := zvI hs
 refine zS Tryz.func17 rfl (by kernel_rfl) rfl ?_
 refine zl (zh (zg rfl rfl (jf rfl (zY rfl)) (zg rfl rfl (zn rfl rfl) (zo (zf (zl (zl (zh (zg rfl rfl (zZ rfl rfl wH (by exact zLb rfl)) (zg rfl rfl (zy (av := [_]) rfl ⟨rfl, trivial⟩ (zoc c hs)) (zg rfl rfl (je rfl rfl) ?_)))))))))))
 refine zg rfl rfl (zi rfl rfl) (zk rfl rfl rfl (fun hg => zq rfl rfl) (zk rfl rfl rfl (fun hg => zuz rfl rfl Tryz.underlying63) ?_))
 refine zk rfl rfl rfl (fun hg => zBY (y := false) (by simp; omega) (qR rfl rfl rfl)) ?_
 refine zg rfl rfl (qU rfl rfl rfl rfl) (zg rfl rfl (zi rfl rfl) (zk rfl rfl rfl (fun hg => zq rfl rfl) (zk rfl rfl rfl (fun hg => zuz rfl rfl Tryz.underlying23) ?_)))
 refine zk rfl rfl rfl (fun hg => zBY (y := true) (by simp; omega) (qR rfl rfl rfl)) ?_
 refine zg rfl rfl (qU rfl rfl rfl rfl) (zg rfl rfl (zi rfl rfl) (zk rfl rfl rfl (fun hg => zq rfl rfl) ?_))
 refine zk (x := .pub (.tup [])) rfl rfl rfl (fun hg => absurd hg (by decide)) ?_
 refine zk (x := .pub (.tup [])) rfl rfl rfl (fun hg => absurd hg (by decide)) ?_
 refine zg rfl rfl (zU rfl rfl (fun _ => rfl) (fun h => absurd h (by decide))) ?_
 refine zg rfl rfl (zi rfl rfl) (zk rfl rfl rfl (fun hg => zq rfl rfl) ?_)
 refine zk (x := .pub (.tup [])) rfl rfl rfl (fun hg => absurd hg (by decide)) ?_
 refine zk (x := .pub (.tup [])) rfl rfl rfl (fun hg => absurd hg (by decide)) ?_
 refine zg rfl rfl (zU rfl rfl (fun _ => rfl) (fun h => absurd h (by decide))) ?_
 refine zg rfl rfl (zi rfl rfl) (zk rfl rfl rfl (fun hg => zZ rfl rfl wH (by exact zLb rfl)) ?_)
 refine zk (x := .pub (.tup [])) rfl rfl rfl (fun hg => absurd hg (by decide)) ?_
 refine zk (x := .pub (.tup [])) rfl rfl rfl (fun hg => absurd hg (by decide)) ?_
 refine zg rfl rfl (zU rfl rfl (fun _ => rfl) (fun h => absurd h (by decide))) ?_
 refine zg rfl rfl (zi rfl rfl) (zk rfl rfl rfl (fun hg => zq rfl rfl) ?_)
 refine zk (x := .pub (.tup [])) rfl rfl rfl (fun hg => absurd hg (by decide)) ?_
 refine zk (x := .pub (.tup [])) rfl rfl rfl (fun hg => absurd hg (by decide)) ?_
 refine zg rfl rfl (zU rfl rfl (fun _ => rfl) (fun h => absurd h (by decide))) ?_
 refine zg rfl rfl (zi rfl rfl) (zk rfl rfl rfl (fun hg => zZ rfl rfl wH (by exact zLb rfl)) (zk rfl rfl rfl (fun hg => zq rfl rfl) ?_))
 refine zk (x := .pub (.tup [])) rfl rfl rfl (fun hg => absurd hg (by decide)) ?_
 refine zk (x := .pub (.tup [])) rfl rfl rfl (fun hg => absurd hg (by decide)) ?_
 refine zg rfl rfl (zU rfl rfl (fun _ => rfl) (fun h => absurd h (by decide))) ?_
 refine zo (zf (zx rfl (fun h0 => ?_) (fun h0 => ?_)))
 ·
  refine zl (zh (zg rfl rfl (zy (av := []) rfl trivial hkn) (zg rfl rfl (zn rfl rfl) (zo (zf (zP (zQ ?_)))))))
  exact ⟨.inr rfl, AVle.refl _⟩
 ·
  exfalso; simp at h0
theorem zCA (hkn : KN G) (c : Cod) (bk : List Ent) (ms : List Int) (ts : LS) (hw : ∀ e ∈ bk, e.word.length <= 9223372036854775807) (hs : y7 c = true) (hb15 : bk.length <= 15) (hm6 : ms.length <= 6) (hb : zjc ts = false) : ACall Tryz.prog G 17 [.agg (qK c), eBk bk, zO ms, jD ts] (.v (.bool true)) := by
 have hcs := zvI hs
 refine zS Tryz.func17 rfl (by kernel_rfl) rfl ?_
 refine zl (zh (zg rfl rfl (jf rfl (zY rfl)) (zg rfl rfl (zn rfl rfl) (zo (zf (zl (zl (zh (zg rfl rfl (zZ rfl rfl wH (by exact zLb rfl)) (zg rfl rfl (zy (av := [_]) rfl ⟨rfl, trivial⟩ (zoc c hs)) (zg rfl rfl (je rfl rfl) ?_)))))))))))
 refine zg rfl rfl (zi rfl rfl) (zk rfl rfl rfl (fun hg => zq rfl rfl) (zk rfl rfl rfl (fun hg => zuz rfl rfl Tryz.underlying63) ?_))
 refine zk rfl rfl rfl (fun hg => zBY (y := false) (by simp; omega) (qR rfl rfl rfl)) ?_
 refine zg rfl rfl (qU rfl rfl rfl rfl) (zg rfl rfl (zi rfl rfl) (zk rfl rfl rfl (fun hg => zq rfl rfl) (zk rfl rfl rfl (fun hg => zuz rfl rfl Tryz.underlying23) ?_)))
 refine zk rfl rfl rfl (fun hg => zBY (y := false) (by simp; omega) (qR rfl rfl rfl)) ?_
 refine zg rfl rfl (qU rfl rfl rfl rfl) (zg rfl rfl (zi rfl rfl) (zk rfl rfl rfl (fun hg => zq rfl rfl) (zk rfl rfl rfl (fun hg => zy (av := [_]) rfl ⟨(rfl), trivial⟩ (zxv ts hb)) (zk rfl rfl rfl (fun hg => je rfl (rfl)) (zg rfl rfl (qU rfl rfl rfl rfl) (zg rfl rfl (zi rfl rfl) (zk rfl rfl rfl (fun hg => zq rfl rfl) ?_)))))))
 refine zk (x := .pub (.tup [])) rfl rfl rfl (fun hg => absurd hg (by decide)) ?_
 refine zk (x := .pub (.tup [])) rfl rfl rfl (fun hg => absurd hg (by decide)) ?_
 refine zg rfl rfl (zU rfl rfl (fun _ => rfl) (fun h => absurd h (by decide))) ?_
 refine zg rfl rfl (zi rfl rfl) (zk rfl rfl rfl (fun hg => zZ rfl rfl wH (by exact zLb rfl)) ?_)
 refine zk (x := .pub (.tup [])) rfl rfl rfl (fun hg => absurd hg (by decide)) ?_
 refine zk (x := .pub (.tup [])) rfl rfl rfl (fun hg => absurd hg (by decide)) ?_
 refine zg rfl rfl (zU rfl rfl (fun _ => rfl) (fun h => absurd h (by decide))) ?_
 refine zg rfl rfl (zi rfl rfl) (zk rfl rfl rfl (fun hg => zq rfl rfl) ?_)
 refine zk (x := .pub (.tup [])) rfl rfl rfl (fun hg => absurd hg (by decide)) ?_
 refine zk (x := .pub (.tup [])) rfl rfl rfl (fun hg => absurd hg (by decide)) ?_
 refine zg rfl rfl (zU rfl rfl (fun _ => rfl) (fun h => absurd h (by decide))) ?_
 refine zg rfl rfl (zi rfl rfl) (zk rfl rfl rfl (fun hg => zZ rfl rfl wH (by exact zLb rfl)) (zk rfl rfl rfl (fun hg => zq rfl rfl) ?_))
 refine zk (x := .pub (.tup [])) rfl rfl rfl (fun hg => absurd hg (by decide)) ?_
 refine zk (x := .pub (.tup [])) rfl rfl rfl (fun hg => absurd hg (by decide)) ?_
 refine zg rfl rfl (zU rfl rfl (fun _ => rfl) (fun h => absurd h (by decide))) ?_
 refine zo (zf (zx rfl (fun h0 => ?_) (fun h0 => ?_)))
 ·
  refine zl (zh (zg rfl rfl (zy (av := []) rfl trivial hkn) (zg rfl rfl (zn rfl rfl) (zo (zf (zP (zQ ?_)))))))
  exact ⟨.inr rfl, AVle.refl _⟩
 ·
  exfalso; simp at h0
theorem zCy (hkn : KN G) (c : Cod) (bk : List Ent) (ms : List Int) (ts : LS) (hw : ∀ e ∈ bk, e.word.length <= 9223372036854775807) (hs : y7 c = true) (hb15 : bk.length <= 15) (hm6 : ms.length <= 6) (hb : zjc ts = true) (hl8 : 8 < ts.length) : ACall Tryz.prog G 17 [.agg (qK c), eBk bk, zO ms, jD ts] (.v (.bool true)) := by
 have hcs := zvI hs
 refine zS Tryz.func17 rfl (by kernel_rfl) rfl ?_
 refine zl (zh (zg rfl rfl (jf rfl (zY rfl)) (zg rfl rfl (zn rfl rfl) (zo (zf (zl (zl (zh (zg rfl rfl (zZ rfl rfl wH (by exact zLb rfl)) (zg rfl rfl (zy (av := [_]) rfl ⟨rfl, trivial⟩ (zoc c hs)) (zg rfl rfl (je rfl rfl) ?_)))))))))))
 refine zg rfl rfl (zi rfl rfl) (zk rfl rfl rfl (fun hg => zq rfl rfl) (zk rfl rfl rfl (fun hg => zuz rfl rfl Tryz.underlying63) ?_))
 refine zk rfl rfl rfl (fun hg => zBY (y := false) (by simp; omega) (qR rfl rfl rfl)) ?_
 refine zg rfl rfl (qU rfl rfl rfl rfl) (zg rfl rfl (zi rfl rfl) (zk rfl rfl rfl (fun hg => zq rfl rfl) (zk rfl rfl rfl (fun hg => zuz rfl rfl Tryz.underlying23) ?_)))
 refine zk rfl rfl rfl (fun hg => zBY (y := false) (by simp; omega) (qR rfl rfl rfl)) ?_
 refine zg rfl rfl (qU rfl rfl rfl rfl) (zg rfl rfl (zi rfl rfl) (zk rfl rfl rfl (fun hg => zq rfl rfl) (zk rfl rfl rfl (fun hg => zy (av := [_]) rfl ⟨(rfl), trivial⟩ (zxv ts hb)) (zk rfl rfl rfl (fun hg => je rfl (rfl)) (zg rfl rfl (qU rfl rfl rfl rfl) (zg rfl rfl (zi rfl rfl) (zk rfl rfl rfl (fun hg => zq rfl rfl) (zk rfl rfl rfl (fun hg => zuz rfl rfl Tryz.underlying34) ?_))))))))
 refine zk rfl rfl rfl (fun hg => zBY (y := true) (by simp; omega) (qR rfl rfl rfl)) ?_
 refine zg rfl rfl (qU rfl rfl rfl rfl) (zg rfl rfl (zi rfl rfl) (zk rfl rfl rfl (fun hg => zZ rfl rfl wH (by exact zLb rfl)) ?_))
 refine zk (x := .pub (.tup [])) rfl rfl rfl (fun hg => absurd hg (by decide)) ?_
 refine zk (x := .pub (.tup [])) rfl rfl rfl (fun hg => absurd hg (by decide)) ?_
 refine zg rfl rfl (zU rfl rfl (fun _ => rfl) (fun h => absurd h (by decide))) ?_
 refine zg rfl rfl (zi rfl rfl) (zk rfl rfl rfl (fun hg => zq rfl rfl) ?_)
 refine zk (x := .pub (.tup [])) rfl rfl rfl (fun hg => absurd hg (by decide)) ?_
 refine zk (x := .pub (.tup [])) rfl rfl rfl (fun hg => absurd hg (by decide)) ?_
 refine zg rfl rfl (zU rfl rfl (fun _ => rfl) (fun h => absurd h (by decide))) ?_
 refine zg rfl rfl (zi rfl rfl) (zk rfl rfl rfl (fun hg => zZ rfl rfl wH (by exact zLb rfl)) (zk rfl rfl rfl (fun hg => zq rfl rfl) ?_))
 refine zk (x := .pub (.tup [])) rfl rfl rfl (fun hg => absurd hg (by decide)) ?_
 refine zk (x := .pub (.tup [])) rfl rfl rfl (fun hg => absurd hg (by decide)) ?_
 refine zg rfl rfl (zU rfl rfl (fun _ => rfl) (fun h => absurd h (by decide))) ?_
 refine zo (zf (zx rfl (fun h0 => ?_) (fun h0 => ?_)))
 ·
  refine zl (zh (zg rfl rfl (zy (av := []) rfl trivial hkn) (zg rfl rfl (zn rfl rfl) (zo (zf (zP (zQ ?_)))))))
  exact ⟨.inr rfl, AVle.refl _⟩
 ·
  exfalso; simp at h0
theorem zCB (hkn : KN G) (c : Cod) (bk : List Ent) (ms : List Int) (ts : LS) (hw : ∀ e ∈ bk, e.word.length <= 9223372036854775807) (hs : y7 c = true) (hb15 : bk.length <= 15) (hm6 : ms.length <= 6) (hb : zjc ts = true) (hl8 : ts.length <= 8) (hcd : jA c = false) : ACall Tryz.prog G 17 [.agg (qK c), eBk bk, zO ms, jD ts] (.v (.bool true)) := by
 have hcs := zvI hs
 refine zS Tryz.func17 rfl (by kernel_rfl) rfl ?_
 refine zl (zh (zg rfl rfl (jf rfl (zY rfl)) (zg rfl rfl (zn rfl rfl) (zo (zf (zl (zl (zh (zg rfl rfl (zZ rfl rfl wH (by exact zLb rfl)) (zg rfl rfl (zy (av := [_]) rfl ⟨rfl, trivial⟩ (zoc c hs)) (zg rfl rfl (je rfl rfl) ?_)))))))))))
 refine zg rfl rfl (zi rfl rfl) (zk rfl rfl rfl (fun hg => zq rfl rfl) (zk rfl rfl rfl (fun hg => zuz rfl rfl Tryz.underlying63) ?_))
 refine zk rfl rfl rfl (fun hg => zBY (y := false) (by simp; omega) (qR rfl rfl rfl)) ?_
 refine zg rfl rfl (qU rfl rfl rfl rfl) (zg rfl rfl (zi rfl rfl) (zk rfl rfl rfl (fun hg => zq rfl rfl) (zk rfl rfl rfl (fun hg => zuz rfl rfl Tryz.underlying23) ?_)))
 refine zk rfl rfl rfl (fun hg => zBY (y := false) (by simp; omega) (qR rfl rfl rfl)) ?_
 refine zg rfl rfl (qU rfl rfl rfl rfl) (zg rfl rfl (zi rfl rfl) (zk rfl rfl rfl (fun hg => zq rfl rfl) (zk rfl rfl rfl (fun hg => zy (av := [_]) rfl ⟨(rfl), trivial⟩ (zxv ts hb)) (zk rfl rfl rfl (fun hg => je rfl (rfl)) (zg rfl rfl (qU rfl rfl rfl rfl) (zg rfl rfl (zi rfl rfl) (zk rfl rfl rfl (fun hg => zq rfl rfl) (zk rfl rfl rfl (fun hg => zuz rfl rfl Tryz.underlying34) ?_))))))))
 refine zk rfl rfl rfl (fun hg => zBY (y := false) (by simp; omega) (qR rfl rfl rfl)) ?_
 refine zg rfl rfl (qU rfl rfl rfl rfl) (zg rfl rfl (zi rfl rfl) (zk rfl rfl rfl (fun hg => zZ rfl rfl wH (by exact zLb rfl)) (zk rfl rfl rfl (fun hg => zy (av := [_]) rfl ⟨(rfl), trivial⟩ (zCn c hcs hcd)) (zk rfl rfl rfl (fun hg => je rfl (rfl)) (zg rfl rfl (qU rfl rfl rfl rfl) (zg rfl rfl (zi rfl rfl) (zk rfl rfl rfl (fun hg => zq rfl rfl) ?_)))))))
 refine zk (x := .pub (.tup [])) rfl rfl rfl (fun hg => absurd hg (by decide)) ?_
 refine zk (x := .pub (.tup [])) rfl rfl rfl (fun hg => absurd hg (by decide)) ?_
 refine zg rfl rfl (zU rfl rfl (fun _ => rfl) (fun h => absurd h (by decide))) ?_
 refine zg rfl rfl (zi rfl rfl) (zk rfl rfl rfl (fun hg => zZ rfl rfl wH (by exact zLb rfl)) (zk rfl rfl rfl (fun hg => zq rfl rfl) ?_))
 refine zk (x := .pub (.tup [])) rfl rfl rfl (fun hg => absurd hg (by decide)) ?_
 refine zk (x := .pub (.tup [])) rfl rfl rfl (fun hg => absurd hg (by decide)) ?_
 refine zg rfl rfl (zU rfl rfl (fun _ => rfl) (fun h => absurd h (by decide))) ?_
 refine zo (zf (zx rfl (fun h0 => ?_) (fun h0 => ?_)))
 ·
  refine zl (zh (zg rfl rfl (zy (av := []) rfl trivial hkn) (zg rfl rfl (zn rfl rfl) (zo (zf (zP (zQ ?_)))))))
  exact ⟨.inr rfl, AVle.refl _⟩
 ·
  exfalso; simp at h0
theorem zCz (hkn : KN G) (c : Cod) (bk : List Ent) (ms : List Int) (ts : LS) (hw : ∀ e ∈ bk, e.word.length <= 9223372036854775807) (hs : y7 c = true) (hb15 : bk.length <= 15) (hm6 : ms.length <= 6) (hb : zjc ts = true) (hl8 : ts.length <= 8) (hcd : jA c = true) (hbk : zuB bk = false) : ACall Tryz.prog G 17 [.agg (qK c), eBk bk, zO ms, jD ts] (.v (.bool true)) := by
 have hcs := zvI hs
 refine zS Tryz.func17 rfl (by kernel_rfl) rfl ?_
 refine zl (zh (zg rfl rfl (jf rfl (zY rfl)) (zg rfl rfl (zn rfl rfl) (zo (zf (zl (zl (zh (zg rfl rfl (zZ rfl rfl wH (by exact zLb rfl)) (zg rfl rfl (zy (av := [_]) rfl ⟨rfl, trivial⟩ (zoc c hs)) (zg rfl rfl (je rfl rfl) ?_)))))))))))
 refine zg rfl rfl (zi rfl rfl) (zk rfl rfl rfl (fun hg => zq rfl rfl) (zk rfl rfl rfl (fun hg => zuz rfl rfl Tryz.underlying63) ?_))
 refine zk rfl rfl rfl (fun hg => zBY (y := false) (by simp; omega) (qR rfl rfl rfl)) ?_
 refine zg rfl rfl (qU rfl rfl rfl rfl) (zg rfl rfl (zi rfl rfl) (zk rfl rfl rfl (fun hg => zq rfl rfl) (zk rfl rfl rfl (fun hg => zuz rfl rfl Tryz.underlying23) ?_)))
 refine zk rfl rfl rfl (fun hg => zBY (y := false) (by simp; omega) (qR rfl rfl rfl)) ?_
 refine zg rfl rfl (qU rfl rfl rfl rfl) (zg rfl rfl (zi rfl rfl) (zk rfl rfl rfl (fun hg => zq rfl rfl) (zk rfl rfl rfl (fun hg => zy (av := [_]) rfl ⟨(rfl), trivial⟩ (zxv ts hb)) (zk rfl rfl rfl (fun hg => je rfl (rfl)) (zg rfl rfl (qU rfl rfl rfl rfl) (zg rfl rfl (zi rfl rfl) (zk rfl rfl rfl (fun hg => zq rfl rfl) (zk rfl rfl rfl (fun hg => zuz rfl rfl Tryz.underlying34) ?_))))))))
 refine zk rfl rfl rfl (fun hg => zBY (y := false) (by simp; omega) (qR rfl rfl rfl)) ?_
 refine zg rfl rfl (qU rfl rfl rfl rfl) (zg rfl rfl (zi rfl rfl) (zk rfl rfl rfl (fun hg => zZ rfl rfl wH (by exact zLb rfl)) (zk rfl rfl rfl (fun hg => zy (av := [_]) rfl ⟨(rfl), trivial⟩ (zCn c hcs hcd)) (zk rfl rfl rfl (fun hg => je rfl (rfl)) (zg rfl rfl (qU rfl rfl rfl rfl) (zg rfl rfl (zi rfl rfl) (zk rfl rfl rfl (fun hg => zq rfl rfl) (zk rfl rfl rfl (fun hg => zy (av := [_]) rfl ⟨(rfl), trivial⟩ (zCu bk (by omega) hw hbk)) (zk rfl rfl rfl (fun hg => je rfl (rfl)) (zg rfl rfl (qU rfl rfl rfl rfl) (zg rfl rfl (zi rfl rfl) ?_)))))))))))
 refine zk rfl rfl rfl (fun hg => zZ rfl rfl wH (by exact zLb rfl)) (zk rfl rfl rfl (fun hg => zq rfl rfl) ?_)
 refine zk (x := .pub (.tup [])) rfl rfl rfl (fun hg => absurd hg (by decide)) ?_
 refine zk (x := .pub (.tup [])) rfl rfl rfl (fun hg => absurd hg (by decide)) ?_
 refine zg rfl rfl (zU rfl rfl (fun _ => rfl) (fun h => absurd h (by decide))) ?_
 refine zo (zf (zx rfl (fun h0 => ?_) (fun h0 => ?_)))
 ·
  refine zl (zh (zg rfl rfl (zy (av := []) rfl trivial hkn) (zg rfl rfl (zn rfl rfl) (zo (zf (zP (zQ ?_)))))))
  exact ⟨.inr rfl, AVle.refl _⟩
 ·
  exfalso; simp at h0
theorem zCG (hkn : KN G) (c : Cod) (bk : List Ent) (ms : List Int) (ts : LS) (hw : ∀ e ∈ bk, e.word.length <= 9223372036854775807) (hs : y7 c = true) (hb15 : bk.length <= 15) (hm6 : ms.length <= 6) (hb : zjc ts = true) (hl8 : ts.length <= 8) (hcd : jA c = true) (hbk : zuB bk = true) (hmm : wS c ms = false) : ACall Tryz.prog G 17 [.agg (qK c), eBk bk, zO ms, jD ts] (.v (.bool true)) := by
 have hcs := zvI hs
 refine zS Tryz.func17 rfl (by kernel_rfl) rfl ?_
 refine zl (zh (zg rfl rfl (jf rfl (zY rfl)) (zg rfl rfl (zn rfl rfl) (zo (zf (zl (zl (zh (zg rfl rfl (zZ rfl rfl wH (by exact zLb rfl)) (zg rfl rfl (zy (av := [_]) rfl ⟨rfl, trivial⟩ (zoc c hs)) (zg rfl rfl (je rfl rfl) ?_)))))))))))
 refine zg rfl rfl (zi rfl rfl) (zk rfl rfl rfl (fun hg => zq rfl rfl) (zk rfl rfl rfl (fun hg => zuz rfl rfl Tryz.underlying63) ?_))
 refine zk rfl rfl rfl (fun hg => zBY (y := false) (by simp; omega) (qR rfl rfl rfl)) ?_
 refine zg rfl rfl (qU rfl rfl rfl rfl) (zg rfl rfl (zi rfl rfl) (zk rfl rfl rfl (fun hg => zq rfl rfl) (zk rfl rfl rfl (fun hg => zuz rfl rfl Tryz.underlying23) ?_)))
 refine zk rfl rfl rfl (fun hg => zBY (y := false) (by simp; omega) (qR rfl rfl rfl)) ?_
 refine zg rfl rfl (qU rfl rfl rfl rfl) (zg rfl rfl (zi rfl rfl) (zk rfl rfl rfl (fun hg => zq rfl rfl) (zk rfl rfl rfl (fun hg => zy (av := [_]) rfl ⟨(rfl), trivial⟩ (zxv ts hb)) (zk rfl rfl rfl (fun hg => je rfl (rfl)) (zg rfl rfl (qU rfl rfl rfl rfl) (zg rfl rfl (zi rfl rfl) (zk rfl rfl rfl (fun hg => zq rfl rfl) (zk rfl rfl rfl (fun hg => zuz rfl rfl Tryz.underlying34) ?_))))))))
 refine zk rfl rfl rfl (fun hg => zBY (y := false) (by simp; omega) (qR rfl rfl rfl)) ?_
 refine zg rfl rfl (qU rfl rfl rfl rfl) (zg rfl rfl (zi rfl rfl) (zk rfl rfl rfl (fun hg => zZ rfl rfl wH (by exact zLb rfl)) (zk rfl rfl rfl (fun hg => zy (av := [_]) rfl ⟨(rfl), trivial⟩ (zCn c hcs hcd)) (zk rfl rfl rfl (fun hg => je rfl (rfl)) (zg rfl rfl (qU rfl rfl rfl rfl) (zg rfl rfl (zi rfl rfl) (zk rfl rfl rfl (fun hg => zq rfl rfl) (zk rfl rfl rfl (fun hg => zy (av := [_]) rfl ⟨(rfl), trivial⟩ (zCu bk (by omega) hw hbk)) (zk rfl rfl rfl (fun hg => je rfl (rfl)) (zg rfl rfl (qU rfl rfl rfl rfl) (zg rfl rfl (zi rfl rfl) ?_)))))))))))
 refine zk rfl rfl rfl (fun hg => zZ rfl rfl wH (by exact zLb rfl)) (zk rfl rfl rfl (fun hg => zq rfl rfl) (zk rfl rfl rfl (fun hg => zy (av := [_, _]) rfl ⟨(rfl), (rfl), trivial⟩ (zCw c ms (by omega) hmm)) (zk rfl rfl rfl (fun hg => je rfl (rfl)) (zg rfl rfl (qU rfl rfl rfl rfl) (zo (zf (zx rfl (fun h0 => ?_) (fun h0 => ?_))))))))
 ·
  refine zl (zh (zg rfl rfl (zy (av := []) rfl trivial hkn) (zg rfl rfl (zn rfl rfl) (zo (zf (zP (zQ ?_)))))))
  exact ⟨.inr rfl, AVle.refl _⟩
 ·
  exfalso; simp at h0
theorem zCE (hkn : KN G) (c : Cod) (bk : List Ent) (ms : List Int) (ts : LS) (hw : ∀ e ∈ bk, e.word.length <= 9223372036854775807) (hs : y7 c = true) (hb15 : bk.length <= 15) (hm6 : ms.length <= 6) (hb : zjc ts = true) (hl8 : ts.length <= 8) (hcd : jA c = true) (hbk : zuB bk = true) (hmm : wS c ms = true) {P S : LS} {z : List UInt8} {qn : Nat} (hqn : P.length = qn + 1) (hq2 : 1 <= qn /\ qn <= 6) (hP : (P.map fun s => [eS s])[qn]? = some [eS z]) (hSl : S.length = ms.length + 1) (hS : (S.map fun s => [eS s])[ms.length]? = some [eS z]) (c70 : ACall Tryz.prog G 70 [.agg (qK c), eBk bk, zO ms] (.tup [jD P, ei 0])) (c71 : ACall Tryz.prog G 71 [.agg (qK c), eBk bk, jD P] (.tup [zO ms, ei 0])) (c64 : ACall Tryz.prog G 64 [.agg (qK c), zO ms] (.tup [jD S, ei 0])) (c71b : ACall Tryz.prog G 71 [.agg (qK c), eBk bk, jD S] (.tup [zO ms, ei 0])) (hmin : P.length <= ts.length) (c71t : ACall Tryz.prog G 71 [.agg (qK c), eBk bk, jD ts] (.tup [zO ms, ei 0])) : ACall Tryz.prog G 17 [.agg (qK c), eBk bk, zO ms, jD ts] (.v (.bool true)) := by
 have hcs := zvI hs
 have htl := zwh hb
 refine zS Tryz.func17 rfl (by kernel_rfl) rfl ?_
 refine zl (zh (zg rfl rfl (jf rfl (zY rfl)) (zg rfl rfl (zn rfl rfl) (zo (zf (zl (zl (zh (zg rfl rfl (zZ rfl rfl wH (by exact zLb rfl)) (zg rfl rfl (zy (av := [_]) rfl ⟨rfl, trivial⟩ (zoc c hs)) (zg rfl rfl (je rfl rfl) ?_)))))))))))
 refine zg rfl rfl (zi rfl rfl) (zk rfl rfl rfl (fun hg => zq rfl rfl) (zk rfl rfl rfl (fun hg => zuz rfl rfl Tryz.underlying63) ?_))
 refine zk rfl rfl rfl (fun hg => zBY (y := false) (by simp; omega) (qR rfl rfl rfl)) ?_
 refine zg rfl rfl (qU rfl rfl rfl rfl) (zg rfl rfl (zi rfl rfl) (zk rfl rfl rfl (fun hg => zq rfl rfl) (zk rfl rfl rfl (fun hg => zuz rfl rfl Tryz.underlying23) ?_)))
 refine zk rfl rfl rfl (fun hg => zBY (y := false) (by simp; omega) (qR rfl rfl rfl)) ?_
 refine zg rfl rfl (qU rfl rfl rfl rfl) (zg rfl rfl (zi rfl rfl) (zk rfl rfl rfl (fun hg => zq rfl rfl) (zk rfl rfl rfl (fun hg => zy (av := [_]) rfl ⟨(rfl), trivial⟩ (zxv ts hb)) (zk rfl rfl rfl (fun hg => je rfl (rfl)) (zg rfl rfl (qU rfl rfl rfl rfl) (zg rfl rfl (zi rfl rfl) (zk rfl rfl rfl (fun hg => zq rfl rfl) (zk rfl rfl rfl (fun hg => zuz rfl rfl Tryz.underlying34) ?_))))))))
 refine zk rfl rfl rfl (fun hg => zBY (y := false) (by simp; omega) (qR rfl rfl rfl)) ?_
 refine zg rfl rfl (qU rfl rfl rfl rfl) (zg rfl rfl (zi rfl rfl) (zk rfl rfl rfl (fun hg => zZ rfl rfl wH (by exact zLb rfl)) (zk rfl rfl rfl (fun hg => zy (av := [_]) rfl ⟨(rfl), trivial⟩ (zCn c hcs hcd)) (zk rfl rfl rfl (fun hg => je rfl (rfl)) (zg rfl rfl (qU rfl rfl rfl rfl) (zg rfl rfl (zi rfl rfl) (zk rfl rfl rfl (fun hg => zq rfl rfl) (zk rfl rfl rfl (fun hg => zy (av := [_]) rfl ⟨(rfl), trivial⟩ (zCu bk (by omega) hw hbk)) (zk rfl rfl rfl (fun hg => je rfl (rfl)) (zg rfl rfl (qU rfl rfl rfl rfl) (zg rfl rfl (zi rfl rfl) ?_)))))))))))
 refine zk rfl rfl rfl (fun hg => zZ rfl rfl wH (by exact zLb rfl)) (zk rfl rfl rfl (fun hg => zq rfl rfl) (zk rfl rfl rfl (fun hg => zy (av := [_, _]) rfl ⟨(rfl), (rfl), trivial⟩ (zCw c ms (by omega) hmm)) (zk rfl rfl rfl (fun hg => je rfl (rfl)) (zg rfl rfl (qU rfl rfl rfl rfl) (zo (zf (zx rfl (fun h0 => ?_) (fun h0 => ?_))))))))
 ·
  exfalso; simp at h0
 ·
  refine zC (zf (zl (zh (zg rfl rfl (zZ rfl rfl wH (by exact zLb rfl)) (zg rfl rfl (zq rfl rfl) (zg rfl rfl (zq rfl rfl) (zg rfl rfl (zy (av := [_, _, _]) rfl ⟨rfl, rfl, rfl, trivial⟩ c70) (zg rfl rfl (zq rfl rfl) (zg rfl rfl (zN rfl rfl rfl) (zg rfl rfl (zN rfl rfl rfl) (zg rfl rfl (zW rfl rfl) ?_)))))))))))
  refine zg rfl rfl (zn rfl rfl) (zo (zf (zl (zl (zh (zg rfl rfl (zi rfl rfl) (zg rfl rfl (vg rfl rfl rfl) (zg rfl rfl (zi rfl rfl) (zk rfl rfl rfl (fun hg => zq rfl rfl) (zk rfl rfl rfl (fun hg => zuz rfl rfl Tryz.underlying34) ?_))))))))))
  refine zk rfl rfl rfl (fun hg => zBY (y := false) (by simp; omega) (qR rfl rfl rfl)) ?_
  refine zg rfl rfl (qU rfl rfl rfl rfl) (zo (zf (zx rfl (fun h1 => ?_) (fun h1 => ?_))))
  ·
   exfalso; simp at h1
  ·
   refine zC (zf (zl (zh (zg rfl rfl (zZ rfl rfl wH (by exact zLb rfl)) (zg rfl rfl (zq rfl rfl) (zg rfl rfl (zq rfl rfl) (zg rfl rfl (zy (av := [_, _, _]) rfl ⟨rfl, rfl, rfl, trivial⟩ c71) (zg rfl rfl (zq rfl rfl) (zg rfl rfl (zN rfl rfl rfl) (zg rfl rfl (zN rfl rfl rfl) (zg rfl rfl (zW rfl rfl) ?_)))))))))))
   refine zg rfl rfl (zn rfl rfl) (zo (zf (zl (zh (zg rfl rfl (zZ rfl rfl wH (by exact zLb rfl)) (zg rfl rfl (zq rfl rfl) (zg rfl rfl (zy (av := [_, _]) rfl ⟨rfl, rfl, trivial⟩ c64) (zg rfl rfl (zq rfl rfl) (zg rfl rfl (zN rfl rfl rfl) (zg rfl rfl (zN rfl rfl rfl) (zg rfl rfl (zW rfl rfl) ?_)))))))))))
   refine zg rfl rfl (zn rfl rfl) (zo (zf (zl (zl ?_))))
   refine qY mixed (by kernel_rfl) rfl ?_
   refine zH rfl (zi rfl rfl) (zH rfl (vg rfl rfl rfl) (zH rfl (zi rfl rfl) (jm rfl (fun hg => zi rfl rfl) (jm rfl (fun hg => vg rfl (rfl) rfl) (zH rfl (qU rfl rfl rfl rfl) (zH rfl (zi rfl rfl) (jm rfl (fun hg => zq rfl rfl) (jm rfl (fun hg => zq rfl rfl) ?_))))))))
   refine jm rfl (fun hg => zy (av := [_, _]) rfl ⟨(rfl), (rfl), trivial⟩ (zxk (r := true) ms ms (by omega) (by simp))) ?_
   refine jm rfl (fun hg => je rfl (rfl)) (zH rfl (qU rfl rfl rfl rfl) (zH rfl (zi rfl rfl) (jm rfl (fun hg => zq rfl rfl) (jm rfl (fun hg => zuz rfl rfl Tryz.underlying34) ?_))))
   refine jm rfl (fun hg => zBY (y := false) (by simp; omega) (qi rfl rfl rfl)) ?_
   refine zH rfl (qU rfl rfl rfl rfl) (zH rfl (zi rfl rfl) (jm rfl (fun hg => zq rfl rfl) (jm rfl (fun hg => zuz rfl rfl Tryz.underlying34) (jm rfl (fun hg => zq rfl rfl) (jm rfl (fun hg => zuz rfl rfl Tryz.underlying23) ?_)))))
   refine jm rfl (fun hg => zV rfl (rfl) rfl ⟨(by first | omega | (simp at hg; omega)), (by first | omega | (simp at hg; omega))⟩) ?_
   refine jm rfl (fun hg => zBY (y := false) (by simp; omega) (vg rfl rfl rfl)) ?_
   refine zH rfl (qU rfl rfl rfl rfl) (zH rfl (zi rfl rfl) (jm rfl (fun hg => zq rfl rfl) (jm rfl (fun hg => zq rfl rfl) (jm rfl (fun hg => zuz rfl rfl Tryz.underlying34) ?_))))
   refine jm rfl (fun hg => zyI (y := .v (.int .i64 (qn : Int))) (congrArg (fun z : Int => AV.v (.int .i64 z)) (by omega)) (ze5 rfl rfl rfl ⟨by omega, by omega⟩)) ?_
   refine jm rfl (fun hg => zG rfl (rfl) (rfl) yJ (by omega) hP vZ) (jm rfl (fun hg => zA rfl (rfl) rfl ty9) (jm rfl (fun hg => zq rfl rfl) (jm rfl (fun hg => zq rfl rfl) (jm rfl (fun hg => zuz rfl rfl Tryz.underlying23) (jm rfl (fun hg => zG rfl (rfl) (rfl) yJ (by omega) hS vZ) (jm rfl (fun hg => zA rfl (rfl) rfl ty9) ?_))))))
   refine jm rfl (fun hg => zBY (y := false) (by simp) (zue rfl rfl rfl)) ?_
   refine zH rfl (qU rfl rfl rfl rfl) (jw (zf (zx rfl (fun h2 => ?_) (fun h2 => ?_))))
   ·
    exfalso; simp at h2
   ·
    refine zC (zf (zl (zh (zg rfl rfl (zZ rfl rfl wH (by exact zLb rfl)) (zg rfl rfl (zq rfl rfl) (zg rfl rfl (zq rfl rfl) (zg rfl rfl (zy (av := [_, _, _]) rfl ⟨rfl, rfl, rfl, trivial⟩ c71b) (zg rfl rfl (zq rfl rfl) (zg rfl rfl (zN rfl rfl rfl) (zg rfl rfl (zN rfl rfl rfl) (zg rfl rfl (zW rfl rfl) ?_)))))))))))
    refine zg rfl rfl (zn rfl rfl) (zo (zf (zl (zh (zg rfl rfl (zZ rfl rfl wH (by exact zLb rfl)) (zg rfl rfl (zq rfl rfl) (zg rfl rfl (zq rfl rfl) (zg rfl rfl (zy (av := [_, _, _]) rfl ⟨rfl, rfl, rfl, trivial⟩ c71t) (zg rfl rfl (zq rfl rfl) (zg rfl rfl (zN rfl rfl rfl) (zg rfl rfl (zN rfl rfl rfl) ?_)))))))))))
    refine zg rfl rfl (zW rfl rfl) (zg rfl rfl (zn rfl rfl) (zo (zf (zl (zl (zh (zg rfl rfl (zi rfl rfl) (zg rfl rfl (vg rfl rfl rfl) (zg rfl rfl (zi rfl rfl) (zk rfl rfl rfl (fun hg => zq rfl rfl) (zk rfl rfl rfl (fun hg => zq rfl rfl) ?_)))))))))))
    refine zk rfl rfl rfl (fun hg => zy (av := [_, _]) rfl ⟨(rfl), (rfl), trivial⟩ (zxk (r := true) ms ms (by omega) (by simp))) ?_
    refine zk rfl rfl rfl (fun hg => je rfl (rfl)) (zg rfl rfl (qU rfl rfl rfl rfl) (zg rfl rfl (zi rfl rfl) (zk rfl rfl rfl (fun hg => zi rfl rfl) (zk rfl rfl rfl (fun hg => vg rfl (rfl) rfl) (zk rfl rfl rfl (fun hg => zi rfl (rfl)) (zk rfl rfl rfl (fun hg => zi rfl rfl) ?_))))))
    refine zk (x := .pub (.tup [])) rfl rfl rfl (fun hg => absurd hg (by decide)) ?_
    refine zk rfl rfl rfl (fun hg => zU rfl rfl (fun h => absurd h (by decide)) (fun _ => rfl)) ?_
    refine zg rfl rfl (qU rfl rfl rfl rfl) (zo (zf (zx rfl (fun h3 => ?_) (fun h3 => ?_))))
    ·
     exfalso; simp at h3
    ·
     refine zC (zf (zl (zh (zg rfl rfl (zi rfl rfl) (zg rfl rfl (vg rfl rfl rfl) (zg rfl rfl (zi rfl rfl) (zk rfl rfl rfl (fun hg => zq rfl rfl) (zk rfl rfl rfl (fun hg => zq rfl rfl) ?_))))))))
     refine zk rfl rfl rfl (fun hg => zy (av := [_, _]) rfl ⟨(rfl), (rfl), trivial⟩ (zxk (r := true) ms ms (by omega) (by simp))) ?_
     refine zk rfl rfl rfl (fun hg => je rfl (rfl)) (zg rfl rfl (qU rfl rfl rfl rfl) (zg rfl rfl (zi rfl rfl) (zk rfl rfl rfl (fun hg => zq rfl rfl) (zk rfl rfl rfl (fun hg => zuz rfl rfl Tryz.underlying34) (zk rfl rfl rfl (fun hg => zq rfl rfl) (zk rfl rfl rfl (fun hg => zuz rfl rfl Tryz.underlying34) ?_))))))
     refine zk rfl rfl rfl (fun hg => zBY (y := true) (by simp; omega) (zbe rfl rfl rfl)) ?_
     refine zg rfl rfl (qU rfl rfl rfl rfl) (zg rfl rfl (zi rfl rfl) (zk rfl rfl rfl (fun hg => zy (av := []) rfl trivial hkn) (zg rfl rfl (qI rfl rfl rfl rfl) (zg rfl rfl (zn rfl rfl) (zo (zf (zP ?_)))))))
     exact ⟨.inr rfl, AVle.refl _⟩
theorem zCC (hkn : KN G) (c : Cod) (bk : List Ent) (ms : List Int) (ts : LS) (hw : ∀ e ∈ bk, e.word.length <= 9223372036854775807) (hs : y7 c = true) (hb15 : bk.length <= 15) (hm6 : ms.length <= 6) (hb : zjc ts = true) (hl8 : ts.length <= 8) (hcd : jA c = true) (hbk : zuB bk = true) (hmm : wS c ms = true) {P S : LS} {z : List UInt8} {qn : Nat} (hqn : P.length = qn + 1) (hq2 : 1 <= qn /\ qn <= 6) (hP : (P.map fun s => [eS s])[qn]? = some [eS z]) (hSl : S.length = ms.length + 1) (hS : (S.map fun s => [eS s])[ms.length]? = some [eS z]) (c70 : ACall Tryz.prog G 70 [.agg (qK c), eBk bk, zO ms] (.tup [jD P, ei 0])) (c71 : ACall Tryz.prog G 71 [.agg (qK c), eBk bk, jD P] (.tup [zO ms, ei 0])) (c64 : ACall Tryz.prog G 64 [.agg (qK c), zO ms] (.tup [jD S, ei 0])) (c71b : ACall Tryz.prog G 71 [.agg (qK c), eBk bk, jD S] (.tup [zO ms, ei 0])) {A : List Int} (hA : decide (A = ms) = false) (hAl : A.length <= 1000) (c71t : ACall Tryz.prog G 71 [.agg (qK c), eBk bk, jD ts] (.tup [zO A, ei 0])) : ACall Tryz.prog G 17 [.agg (qK c), eBk bk, zO ms, jD ts] (.v (.bool true)) := by
 have hcs := zvI hs
 have htl := zwh hb
 refine zS Tryz.func17 rfl (by kernel_rfl) rfl ?_
 refine zl (zh (zg rfl rfl (jf rfl (zY rfl)) (zg rfl rfl (zn rfl rfl) (zo (zf (zl (zl (zh (zg rfl rfl (zZ rfl rfl wH (by exact zLb rfl)) (zg rfl rfl (zy (av := [_]) rfl ⟨rfl, trivial⟩ (zoc c hs)) (zg rfl rfl (je rfl rfl) ?_)))))))))))
 refine zg rfl rfl (zi rfl rfl) (zk rfl rfl rfl (fun hg => zq rfl rfl) (zk rfl rfl rfl (fun hg => zuz rfl rfl Tryz.underlying63) ?_))
 refine zk rfl rfl rfl (fun hg => zBY (y := false) (by simp; omega) (qR rfl rfl rfl)) ?_
 refine zg rfl rfl (qU rfl rfl rfl rfl) (zg rfl rfl (zi rfl rfl) (zk rfl rfl rfl (fun hg => zq rfl rfl) (zk rfl rfl rfl (fun hg => zuz rfl rfl Tryz.underlying23) ?_)))
 refine zk rfl rfl rfl (fun hg => zBY (y := false) (by simp; omega) (qR rfl rfl rfl)) ?_
 refine zg rfl rfl (qU rfl rfl rfl rfl) (zg rfl rfl (zi rfl rfl) (zk rfl rfl rfl (fun hg => zq rfl rfl) (zk rfl rfl rfl (fun hg => zy (av := [_]) rfl ⟨(rfl), trivial⟩ (zxv ts hb)) (zk rfl rfl rfl (fun hg => je rfl (rfl)) (zg rfl rfl (qU rfl rfl rfl rfl) (zg rfl rfl (zi rfl rfl) (zk rfl rfl rfl (fun hg => zq rfl rfl) (zk rfl rfl rfl (fun hg => zuz rfl rfl Tryz.underlying34) ?_))))))))
 refine zk rfl rfl rfl (fun hg => zBY (y := false) (by simp; omega) (qR rfl rfl rfl)) ?_
 refine zg rfl rfl (qU rfl rfl rfl rfl) (zg rfl rfl (zi rfl rfl) (zk rfl rfl rfl (fun hg => zZ rfl rfl wH (by exact zLb rfl)) (zk rfl rfl rfl (fun hg => zy (av := [_]) rfl ⟨(rfl), trivial⟩ (zCn c hcs hcd)) (zk rfl rfl rfl (fun hg => je rfl (rfl)) (zg rfl rfl (qU rfl rfl rfl rfl) (zg rfl rfl (zi rfl rfl) (zk rfl rfl rfl (fun hg => zq rfl rfl) (zk rfl rfl rfl (fun hg => zy (av := [_]) rfl ⟨(rfl), trivial⟩ (zCu bk (by omega) hw hbk)) (zk rfl rfl rfl (fun hg => je rfl (rfl)) (zg rfl rfl (qU rfl rfl rfl rfl) (zg rfl rfl (zi rfl rfl) ?_)))))))))))
 refine zk rfl rfl rfl (fun hg => zZ rfl rfl wH (by exact zLb rfl)) (zk rfl rfl rfl (fun hg => zq rfl rfl) (zk rfl rfl rfl (fun hg => zy (av := [_, _]) rfl ⟨(rfl), (rfl), trivial⟩ (zCw c ms (by omega) hmm)) (zk rfl rfl rfl (fun hg => je rfl (rfl)) (zg rfl rfl (qU rfl rfl rfl rfl) (zo (zf (zx rfl (fun h0 => ?_) (fun h0 => ?_))))))))
 ·
  exfalso; simp at h0
 ·
  refine zC (zf (zl (zh (zg rfl rfl (zZ rfl rfl wH (by exact zLb rfl)) (zg rfl rfl (zq rfl rfl) (zg rfl rfl (zq rfl rfl) (zg rfl rfl (zy (av := [_, _, _]) rfl ⟨rfl, rfl, rfl, trivial⟩ c70) (zg rfl rfl (zq rfl rfl) (zg rfl rfl (zN rfl rfl rfl) (zg rfl rfl (zN rfl rfl rfl) (zg rfl rfl (zW rfl rfl) ?_)))))))))))
  refine zg rfl rfl (zn rfl rfl) (zo (zf (zl (zl (zh (zg rfl rfl (zi rfl rfl) (zg rfl rfl (vg rfl rfl rfl) (zg rfl rfl (zi rfl rfl) (zk rfl rfl rfl (fun hg => zq rfl rfl) (zk rfl rfl rfl (fun hg => zuz rfl rfl Tryz.underlying34) ?_))))))))))
  refine zk rfl rfl rfl (fun hg => zBY (y := false) (by simp; omega) (qR rfl rfl rfl)) ?_
  refine zg rfl rfl (qU rfl rfl rfl rfl) (zo (zf (zx rfl (fun h1 => ?_) (fun h1 => ?_))))
  ·
   exfalso; simp at h1
  ·
   refine zC (zf (zl (zh (zg rfl rfl (zZ rfl rfl wH (by exact zLb rfl)) (zg rfl rfl (zq rfl rfl) (zg rfl rfl (zq rfl rfl) (zg rfl rfl (zy (av := [_, _, _]) rfl ⟨rfl, rfl, rfl, trivial⟩ c71) (zg rfl rfl (zq rfl rfl) (zg rfl rfl (zN rfl rfl rfl) (zg rfl rfl (zN rfl rfl rfl) (zg rfl rfl (zW rfl rfl) ?_)))))))))))
   refine zg rfl rfl (zn rfl rfl) (zo (zf (zl (zh (zg rfl rfl (zZ rfl rfl wH (by exact zLb rfl)) (zg rfl rfl (zq rfl rfl) (zg rfl rfl (zy (av := [_, _]) rfl ⟨rfl, rfl, trivial⟩ c64) (zg rfl rfl (zq rfl rfl) (zg rfl rfl (zN rfl rfl rfl) (zg rfl rfl (zN rfl rfl rfl) (zg rfl rfl (zW rfl rfl) ?_)))))))))))
   refine zg rfl rfl (zn rfl rfl) (zo (zf (zl (zl ?_))))
   refine qY mixed (by kernel_rfl) rfl ?_
   refine zH rfl (zi rfl rfl) (zH rfl (vg rfl rfl rfl) (zH rfl (zi rfl rfl) (jm rfl (fun hg => zi rfl rfl) (jm rfl (fun hg => vg rfl (rfl) rfl) (zH rfl (qU rfl rfl rfl rfl) (zH rfl (zi rfl rfl) (jm rfl (fun hg => zq rfl rfl) (jm rfl (fun hg => zq rfl rfl) ?_))))))))
   refine jm rfl (fun hg => zy (av := [_, _]) rfl ⟨(rfl), (rfl), trivial⟩ (zxk (r := true) ms ms (by omega) (by simp))) ?_
   refine jm rfl (fun hg => je rfl (rfl)) (zH rfl (qU rfl rfl rfl rfl) (zH rfl (zi rfl rfl) (jm rfl (fun hg => zq rfl rfl) (jm rfl (fun hg => zuz rfl rfl Tryz.underlying34) ?_))))
   refine jm rfl (fun hg => zBY (y := false) (by simp; omega) (qi rfl rfl rfl)) ?_
   refine zH rfl (qU rfl rfl rfl rfl) (zH rfl (zi rfl rfl) (jm rfl (fun hg => zq rfl rfl) (jm rfl (fun hg => zuz rfl rfl Tryz.underlying34) (jm rfl (fun hg => zq rfl rfl) (jm rfl (fun hg => zuz rfl rfl Tryz.underlying23) ?_)))))
   refine jm rfl (fun hg => zV rfl (rfl) rfl ⟨(by first | omega | (simp at hg; omega)), (by first | omega | (simp at hg; omega))⟩) ?_
   refine jm rfl (fun hg => zBY (y := false) (by simp; omega) (vg rfl rfl rfl)) ?_
   refine zH rfl (qU rfl rfl rfl rfl) (zH rfl (zi rfl rfl) (jm rfl (fun hg => zq rfl rfl) (jm rfl (fun hg => zq rfl rfl) (jm rfl (fun hg => zuz rfl rfl Tryz.underlying34) ?_))))
   refine jm rfl (fun hg => zyI (y := .v (.int .i64 (qn : Int))) (congrArg (fun z : Int => AV.v (.int .i64 z)) (by omega)) (ze5 rfl rfl rfl ⟨by omega, by omega⟩)) ?_
   refine jm rfl (fun hg => zG rfl (rfl) (rfl) yJ (by omega) hP vZ) (jm rfl (fun hg => zA rfl (rfl) rfl ty9) (jm rfl (fun hg => zq rfl rfl) (jm rfl (fun hg => zq rfl rfl) (jm rfl (fun hg => zuz rfl rfl Tryz.underlying23) (jm rfl (fun hg => zG rfl (rfl) (rfl) yJ (by omega) hS vZ) (jm rfl (fun hg => zA rfl (rfl) rfl ty9) ?_))))))
   refine jm rfl (fun hg => zBY (y := false) (by simp) (zue rfl rfl rfl)) ?_
   refine zH rfl (qU rfl rfl rfl rfl) (jw (zf (zx rfl (fun h2 => ?_) (fun h2 => ?_))))
   ·
    exfalso; simp at h2
   ·
    refine zC (zf (zl (zh (zg rfl rfl (zZ rfl rfl wH (by exact zLb rfl)) (zg rfl rfl (zq rfl rfl) (zg rfl rfl (zq rfl rfl) (zg rfl rfl (zy (av := [_, _, _]) rfl ⟨rfl, rfl, rfl, trivial⟩ c71b) (zg rfl rfl (zq rfl rfl) (zg rfl rfl (zN rfl rfl rfl) (zg rfl rfl (zN rfl rfl rfl) (zg rfl rfl (zW rfl rfl) ?_)))))))))))
    refine zg rfl rfl (zn rfl rfl) (zo (zf (zl (zh (zg rfl rfl (zZ rfl rfl wH (by exact zLb rfl)) (zg rfl rfl (zq rfl rfl) (zg rfl rfl (zq rfl rfl) (zg rfl rfl (zy (av := [_, _, _]) rfl ⟨rfl, rfl, rfl, trivial⟩ c71t) (zg rfl rfl (zq rfl rfl) (zg rfl rfl (zN rfl rfl rfl) (zg rfl rfl (zN rfl rfl rfl) ?_)))))))))))
    refine zg rfl rfl (zW rfl rfl) (zg rfl rfl (zn rfl rfl) (zo (zf (zl (zl (zh (zg rfl rfl (zi rfl rfl) (zg rfl rfl (vg rfl rfl rfl) (zg rfl rfl (zi rfl rfl) (zk rfl rfl rfl (fun hg => zq rfl rfl) (zk rfl rfl rfl (fun hg => zq rfl rfl) ?_)))))))))))
    refine zk rfl rfl rfl (fun hg => zy (av := [_, _]) rfl ⟨(rfl), (rfl), trivial⟩ (zxk (r := true) ms ms (by omega) (by simp))) ?_
    refine zk rfl rfl rfl (fun hg => je rfl (rfl)) (zg rfl rfl (qU rfl rfl rfl rfl) (zg rfl rfl (zi rfl rfl) (zk rfl rfl rfl (fun hg => zi rfl rfl) (zk rfl rfl rfl (fun hg => vg rfl (rfl) rfl) (zk rfl rfl rfl (fun hg => zi rfl (rfl)) (zk rfl rfl rfl (fun hg => zi rfl rfl) ?_))))))
    refine zk (x := .pub (.tup [])) rfl rfl rfl (fun hg => absurd hg (by decide)) ?_
    refine zk rfl rfl rfl (fun hg => zU rfl rfl (fun h => absurd h (by decide)) (fun _ => rfl)) ?_
    refine zg rfl rfl (qU rfl rfl rfl rfl) (zo (zf (zx rfl (fun h3 => ?_) (fun h3 => ?_))))
    ·
     exfalso; simp at h3
    ·
     refine zC (zf (zl (zh (zg rfl rfl (zi rfl rfl) (zg rfl rfl (vg rfl rfl rfl) (zg rfl rfl (zi rfl rfl) (zk rfl rfl rfl (fun hg => zq rfl rfl) (zk rfl rfl rfl (fun hg => zq rfl rfl) (zk rfl rfl rfl (fun hg => zy (av := [_, _]) rfl ⟨(rfl), (rfl), trivial⟩ (zxk (r := false) A ms (by omega) hA)) (zk rfl rfl rfl (fun hg => je rfl (rfl)) (zg rfl rfl (qU rfl rfl rfl rfl) ?_)))))))))))
     refine zg rfl rfl (zi rfl rfl) (zk rfl rfl rfl (fun hg => zq rfl rfl) ?_)
     refine zk (x := .pub (.tup [])) rfl rfl rfl (fun hg => absurd hg (by decide)) ?_
     refine zk rfl rfl rfl (fun hg => zq rfl rfl) ?_
     refine zk (x := .pub (.tup [])) rfl rfl rfl (fun hg => absurd hg (by decide)) ?_
     refine zk (x := .pub (.tup [])) rfl rfl rfl (fun hg => absurd hg (by decide)) ?_
     refine zg rfl rfl (zU rfl rfl (fun _ => rfl) (fun h => absurd h (by decide))) ?_
     refine zg rfl rfl (zi rfl rfl) (zk rfl rfl rfl (fun hg => zy (av := []) rfl trivial hkn) (zg rfl rfl (qI rfl rfl rfl rfl) (zg rfl rfl (zn rfl rfl) (zo (zf (zP ?_))))))
     exact ⟨.inr rfl, AVle.refl _⟩
theorem zCh (hkn : KN G) (c : Cod) (bk : List Ent) (ms : List Int) (ts : LS) (hw : ∀ e ∈ bk, e.word.length <= 9223372036854775807) (hs : y7 c = true) (hb15 : bk.length <= 15) (hm6 : ms.length <= 6) (hb : zjc ts = true) (hl8 : ts.length <= 8) (hcd : jA c = true) (hbk : zuB bk = true) (hmm : wS c ms = true) {P S : LS} {z : List UInt8} {qn : Nat} (hqn : P.length = qn + 1) (hq2 : 1 <= qn /\ qn <= 6) (hP : (P.map fun s => [eS s])[qn]? = some [eS z]) (hSl : S.length = ms.length + 1) (hS : (S.map fun s => [eS s])[ms.length]? = some [eS z]) (c70 : ACall Tryz.prog G 70 [.agg (qK c), eBk bk, zO ms] (.tup [jD P, ei 0])) (c71 : ACall Tryz.prog G 71 [.agg (qK c), eBk bk, jD P] (.tup [zO ms, ei 0])) (c64 : ACall Tryz.prog G 64 [.agg (qK c), zO ms] (.tup [jD S, ei 0])) (c71b : ACall Tryz.prog G 71 [.agg (qK c), eBk bk, jD S] (.tup [zO ms, ei 0])) (c71t : ACall Tryz.prog G 71 [.agg (qK c), eBk bk, jD ts] (.tup [zO ([] : List Int), ei 4])) : ACall Tryz.prog G 17 [.agg (qK c), eBk bk, zO ms, jD ts] (.v (.bool true)) := by
 have hcs := zvI hs
 have htl := zwh hb
 refine zS Tryz.func17 rfl (by kernel_rfl) rfl ?_
 refine zl (zh (zg rfl rfl (jf rfl (zY rfl)) (zg rfl rfl (zn rfl rfl) (zo (zf (zl (zl (zh (zg rfl rfl (zZ rfl rfl wH (by exact zLb rfl)) (zg rfl rfl (zy (av := [_]) rfl ⟨rfl, trivial⟩ (zoc c hs)) (zg rfl rfl (je rfl rfl) ?_)))))))))))
 refine zg rfl rfl (zi rfl rfl) (zk rfl rfl rfl (fun hg => zq rfl rfl) (zk rfl rfl rfl (fun hg => zuz rfl rfl Tryz.underlying63) ?_))
 refine zk rfl rfl rfl (fun hg => zBY (y := false) (by simp; omega) (qR rfl rfl rfl)) ?_
 refine zg rfl rfl (qU rfl rfl rfl rfl) (zg rfl rfl (zi rfl rfl) (zk rfl rfl rfl (fun hg => zq rfl rfl) (zk rfl rfl rfl (fun hg => zuz rfl rfl Tryz.underlying23) ?_)))
 refine zk rfl rfl rfl (fun hg => zBY (y := false) (by simp; omega) (qR rfl rfl rfl)) ?_
 refine zg rfl rfl (qU rfl rfl rfl rfl) (zg rfl rfl (zi rfl rfl) (zk rfl rfl rfl (fun hg => zq rfl rfl) (zk rfl rfl rfl (fun hg => zy (av := [_]) rfl ⟨(rfl), trivial⟩ (zxv ts hb)) (zk rfl rfl rfl (fun hg => je rfl (rfl)) (zg rfl rfl (qU rfl rfl rfl rfl) (zg rfl rfl (zi rfl rfl) (zk rfl rfl rfl (fun hg => zq rfl rfl) (zk rfl rfl rfl (fun hg => zuz rfl rfl Tryz.underlying34) ?_))))))))
 refine zk rfl rfl rfl (fun hg => zBY (y := false) (by simp; omega) (qR rfl rfl rfl)) ?_
 refine zg rfl rfl (qU rfl rfl rfl rfl) (zg rfl rfl (zi rfl rfl) (zk rfl rfl rfl (fun hg => zZ rfl rfl wH (by exact zLb rfl)) (zk rfl rfl rfl (fun hg => zy (av := [_]) rfl ⟨(rfl), trivial⟩ (zCn c hcs hcd)) (zk rfl rfl rfl (fun hg => je rfl (rfl)) (zg rfl rfl (qU rfl rfl rfl rfl) (zg rfl rfl (zi rfl rfl) (zk rfl rfl rfl (fun hg => zq rfl rfl) (zk rfl rfl rfl (fun hg => zy (av := [_]) rfl ⟨(rfl), trivial⟩ (zCu bk (by omega) hw hbk)) (zk rfl rfl rfl (fun hg => je rfl (rfl)) (zg rfl rfl (qU rfl rfl rfl rfl) (zg rfl rfl (zi rfl rfl) ?_)))))))))))
 refine zk rfl rfl rfl (fun hg => zZ rfl rfl wH (by exact zLb rfl)) (zk rfl rfl rfl (fun hg => zq rfl rfl) (zk rfl rfl rfl (fun hg => zy (av := [_, _]) rfl ⟨(rfl), (rfl), trivial⟩ (zCw c ms (by omega) hmm)) (zk rfl rfl rfl (fun hg => je rfl (rfl)) (zg rfl rfl (qU rfl rfl rfl rfl) (zo (zf (zx rfl (fun h0 => ?_) (fun h0 => ?_))))))))
 ·
  exfalso; simp at h0
 ·
  refine zC (zf (zl (zh (zg rfl rfl (zZ rfl rfl wH (by exact zLb rfl)) (zg rfl rfl (zq rfl rfl) (zg rfl rfl (zq rfl rfl) (zg rfl rfl (zy (av := [_, _, _]) rfl ⟨rfl, rfl, rfl, trivial⟩ c70) (zg rfl rfl (zq rfl rfl) (zg rfl rfl (zN rfl rfl rfl) (zg rfl rfl (zN rfl rfl rfl) (zg rfl rfl (zW rfl rfl) ?_)))))))))))
  refine zg rfl rfl (zn rfl rfl) (zo (zf (zl (zl (zh (zg rfl rfl (zi rfl rfl) (zg rfl rfl (vg rfl rfl rfl) (zg rfl rfl (zi rfl rfl) (zk rfl rfl rfl (fun hg => zq rfl rfl) (zk rfl rfl rfl (fun hg => zuz rfl rfl Tryz.underlying34) ?_))))))))))
  refine zk rfl rfl rfl (fun hg => zBY (y := false) (by simp; omega) (qR rfl rfl rfl)) ?_
  refine zg rfl rfl (qU rfl rfl rfl rfl) (zo (zf (zx rfl (fun h1 => ?_) (fun h1 => ?_))))
  ·
   exfalso; simp at h1
  ·
   refine zC (zf (zl (zh (zg rfl rfl (zZ rfl rfl wH (by exact zLb rfl)) (zg rfl rfl (zq rfl rfl) (zg rfl rfl (zq rfl rfl) (zg rfl rfl (zy (av := [_, _, _]) rfl ⟨rfl, rfl, rfl, trivial⟩ c71) (zg rfl rfl (zq rfl rfl) (zg rfl rfl (zN rfl rfl rfl) (zg rfl rfl (zN rfl rfl rfl) (zg rfl rfl (zW rfl rfl) ?_)))))))))))
   refine zg rfl rfl (zn rfl rfl) (zo (zf (zl (zh (zg rfl rfl (zZ rfl rfl wH (by exact zLb rfl)) (zg rfl rfl (zq rfl rfl) (zg rfl rfl (zy (av := [_, _]) rfl ⟨rfl, rfl, trivial⟩ c64) (zg rfl rfl (zq rfl rfl) (zg rfl rfl (zN rfl rfl rfl) (zg rfl rfl (zN rfl rfl rfl) (zg rfl rfl (zW rfl rfl) ?_)))))))))))
   refine zg rfl rfl (zn rfl rfl) (zo (zf (zl (zl ?_))))
   refine qY mixed (by kernel_rfl) rfl ?_
   refine zH rfl (zi rfl rfl) (zH rfl (vg rfl rfl rfl) (zH rfl (zi rfl rfl) (jm rfl (fun hg => zi rfl rfl) (jm rfl (fun hg => vg rfl (rfl) rfl) (zH rfl (qU rfl rfl rfl rfl) (zH rfl (zi rfl rfl) (jm rfl (fun hg => zq rfl rfl) (jm rfl (fun hg => zq rfl rfl) ?_))))))))
   refine jm rfl (fun hg => zy (av := [_, _]) rfl ⟨(rfl), (rfl), trivial⟩ (zxk (r := true) ms ms (by omega) (by simp))) ?_
   refine jm rfl (fun hg => je rfl (rfl)) (zH rfl (qU rfl rfl rfl rfl) (zH rfl (zi rfl rfl) (jm rfl (fun hg => zq rfl rfl) (jm rfl (fun hg => zuz rfl rfl Tryz.underlying34) ?_))))
   refine jm rfl (fun hg => zBY (y := false) (by simp; omega) (qi rfl rfl rfl)) ?_
   refine zH rfl (qU rfl rfl rfl rfl) (zH rfl (zi rfl rfl) (jm rfl (fun hg => zq rfl rfl) (jm rfl (fun hg => zuz rfl rfl Tryz.underlying34) (jm rfl (fun hg => zq rfl rfl) (jm rfl (fun hg => zuz rfl rfl Tryz.underlying23) ?_)))))
   refine jm rfl (fun hg => zV rfl (rfl) rfl ⟨(by first | omega | (simp at hg; omega)), (by first | omega | (simp at hg; omega))⟩) ?_
   refine jm rfl (fun hg => zBY (y := false) (by simp; omega) (vg rfl rfl rfl)) ?_
   refine zH rfl (qU rfl rfl rfl rfl) (zH rfl (zi rfl rfl) (jm rfl (fun hg => zq rfl rfl) (jm rfl (fun hg => zq rfl rfl) (jm rfl (fun hg => zuz rfl rfl Tryz.underlying34) ?_))))
   refine jm rfl (fun hg => zyI (y := .v (.int .i64 (qn : Int))) (congrArg (fun z : Int => AV.v (.int .i64 z)) (by omega)) (ze5 rfl rfl rfl ⟨by omega, by omega⟩)) ?_
   refine jm rfl (fun hg => zG rfl (rfl) (rfl) yJ (by omega) hP vZ) (jm rfl (fun hg => zA rfl (rfl) rfl ty9) (jm rfl (fun hg => zq rfl rfl) (jm rfl (fun hg => zq rfl rfl) (jm rfl (fun hg => zuz rfl rfl Tryz.underlying23) (jm rfl (fun hg => zG rfl (rfl) (rfl) yJ (by omega) hS vZ) (jm rfl (fun hg => zA rfl (rfl) rfl ty9) ?_))))))
   refine jm rfl (fun hg => zBY (y := false) (by simp) (zue rfl rfl rfl)) ?_
   refine zH rfl (qU rfl rfl rfl rfl) (jw (zf (zx rfl (fun h2 => ?_) (fun h2 => ?_))))
   ·
    exfalso; simp at h2
   ·
    refine zC (zf (zl (zh (zg rfl rfl (zZ rfl rfl wH (by exact zLb rfl)) (zg rfl rfl (zq rfl rfl) (zg rfl rfl (zq rfl rfl) (zg rfl rfl (zy (av := [_, _, _]) rfl ⟨rfl, rfl, rfl, trivial⟩ c71b) (zg rfl rfl (zq rfl rfl) (zg rfl rfl (zN rfl rfl rfl) (zg rfl rfl (zN rfl rfl rfl) (zg rfl rfl (zW rfl rfl) ?_)))))))))))
    refine zg rfl rfl (zn rfl rfl) (zo (zf (zl (zh (zg rfl rfl (zZ rfl rfl wH (by exact zLb rfl)) (zg rfl rfl (zq rfl rfl) (zg rfl rfl (zq rfl rfl) (zg rfl rfl (zy (av := [_, _, _]) rfl ⟨rfl, rfl, rfl, trivial⟩ c71t) (zg rfl rfl (zq rfl rfl) (zg rfl rfl (zN rfl rfl rfl) (zg rfl rfl (zN rfl rfl rfl) ?_)))))))))))
    refine zg rfl rfl (zW rfl rfl) (zg rfl rfl (zn rfl rfl) (zo (zf (zl (zl (zh (zg rfl rfl (zi rfl rfl) (zg rfl rfl (vg rfl rfl rfl) (zg rfl rfl (zi rfl rfl) (zk rfl rfl rfl (fun hg => zq rfl rfl) (zk rfl rfl rfl (fun hg => zq rfl rfl) ?_)))))))))))
    refine zk rfl rfl rfl (fun hg => zy (av := [_, _]) rfl ⟨(rfl), (rfl), trivial⟩ (zxk (r := true) ms ms (by omega) (by simp))) ?_
    refine zk rfl rfl rfl (fun hg => je rfl (rfl)) (zg rfl rfl (qU rfl rfl rfl rfl) (zg rfl rfl (zi rfl rfl) (zk rfl rfl rfl (fun hg => zi rfl rfl) (zk rfl rfl rfl (fun hg => vg rfl (rfl) rfl) (zk rfl rfl rfl (fun hg => zi rfl (rfl)) (zk rfl rfl rfl (fun hg => zi rfl rfl) (zk rfl rfl rfl (fun hg => vg rfl rfl rfl) (zk rfl rfl rfl (fun hg => qI rfl rfl rfl rfl) (zg rfl rfl (qU rfl rfl rfl rfl) (zo (zf (zx rfl (fun h3 => ?_) (fun h3 => ?_)))))))))))))
    ·
     exfalso; simp at h3
    ·
     refine zC (zf (zl (zh (zg rfl rfl (zi rfl rfl) (zg rfl rfl (vg rfl rfl rfl) (zg rfl rfl (zi rfl rfl) (zk rfl rfl rfl (fun hg => zq rfl rfl) (zk rfl rfl rfl (fun hg => zq rfl rfl) ?_))))))))
     refine zk rfl rfl rfl (fun hg => zy (av := [_, _]) rfl ⟨((if_pos hg)), ((if_pos hg)), trivial⟩ (zxk (r := decide ([] = ms)) [] ms (by simp) rfl)) ?_
     refine zk (x := .pub (.tup [])) rfl rfl rfl (fun hg => absurd hg (by decide)) ?_
     refine zg rfl rfl (zU rfl rfl (fun _ => rfl) (fun h => absurd h (by decide))) ?_
     refine zg rfl rfl (zi rfl rfl) (zk rfl rfl rfl (fun hg => zq rfl rfl) ?_)
     refine zk (x := .pub (.tup [])) rfl rfl rfl (fun hg => absurd hg (by decide)) ?_
     refine zk rfl rfl rfl (fun hg => zq rfl rfl) ?_
     refine zk (x := .pub (.tup [])) rfl rfl rfl (fun hg => absurd hg (by decide)) ?_
     refine zk (x := .pub (.tup [])) rfl rfl rfl (fun hg => absurd hg (by decide)) ?_
     refine zg rfl rfl (zU rfl rfl (fun _ => rfl) (fun h => absurd h (by decide))) ?_
     refine zg rfl rfl (zi rfl rfl) (zk rfl rfl rfl (fun hg => zy (av := []) rfl trivial hkn) (zg rfl rfl (qI rfl rfl rfl rfl) (zg rfl rfl (zn rfl rfl) (zo (zf (zP ?_))))))
     exact ⟨.inr rfl, AVle.refl _⟩
end Go.Av
end
section
namespace Go.Av
open Go.Proofs
set_option maxRecDepth 100000
variable {G : Glob}
theorem f17 (hkn : KN G) (c : Cod) (bk : List Ent) (ms : List Int) (ts : LS) (hw : ∀ e ∈ bk, e.word.length <= 9223372036854775807) : ACall Tryz.prog G 17 [.agg (qK c), eBk bk, zO ms, jD ts] (.v (.bool true)) := by
 cases hs : y7 c with
 | false => exact zCx hkn c bk ms ts hw hs
 | true =>
 by_cases hb15 : 15 < bk.length
 ·
  exact zCF hkn c bk ms ts hw hs hb15
 have hb15 : bk.length <= 15 := by omega
 by_cases hm6 : 6 < ms.length
 ·
  exact zCD hkn c bk ms ts hw hs hb15 hm6
 have hm6 : ms.length <= 6 := by omega
 cases hb : zjc ts with
 | false => exact zCA hkn c bk ms ts hw hs hb15 hm6 hb
 | true =>
 by_cases hl8 : 8 < ts.length
 ·
  exact zCy hkn c bk ms ts hw hs hb15 hm6 hb hl8
 have hl8 : ts.length <= 8 := by omega
 cases hcd : jA c with
 | false => exact zCB hkn c bk ms ts hw hs hb15 hm6 hb hl8 hcd
 | true =>
 cases hbk : zuB bk with
 | false => exact zCz hkn c bk ms ts hw hs hb15 hm6 hb hl8 hcd hbk
 | true =>
 cases hmm : wS c ms with
 | false => exact zCG hkn c bk ms ts hw hs hb15 hm6 hb hl8 hcd hbk hmm
 | true =>
 have hcs := zvI hs
 have hmb := zjV hcd hmm
 have hmb' := zlx hcd hmm
 have hne : ms ≠ [] := by
  intro h; subst h
  simp only [jA, Bool.and_eq_true, zdh] at hcd
  have h1 := hcd.1.1.1.1.1
  have h2 : c.fields = [] := by
   cases hf : c.fields with
   | nil => rfl
   | cons x l => rw [wS, hf] at hmm; simp [eqF] at hmm
  rw [h2] at h1
  simp at h1
 have hqp : 1 <= (zuE bk ms).length := by
  cases hms : ms with
  | nil => exact absurd hms hne
  | cons x m =>
   cases hp : zuE bk (x :: m) with
   | cons y l => simp
   | nil =>
    have h1 := zB0 hbk (m := ms) hmb
    rw [hms, hp] at h1
    simp at h1
 have hql := zvA bk ms
 obtain ⟨hp1, hp2⟩ := zCq (c := c) hbk hmb hmm
 obtain ⟨hq1, hq2⟩ := zCi (c := c) hbk hmb hmm
 have hPl : (zu0 bk ms).length = (zuE bk ms).length + 1 := by simp [zu0]
 have hSl := zCk ms
 have c71 := zAn (G := G) c bk (zu0 bk ms) hcs (by omega) hbk hcd (by omega) (fun h => by rw [h] at hPl; simp at hPl) hp2
 rw [if_pos rfl, if_pos rfl, hp1] at c71
 have c71b := zAn (G := G) c bk (jQ ms) hcs (by omega) hbk hcd (by omega) (fun h => by rw [h] at hSl; simp at hSl) hq2
 rw [if_pos rfl, if_pos rfl, hq1] at c71b
 have c70 := zBt (G := G) c bk ms hcs (by omega) (by omega) hmb' (by rw [hcd, hbk, hmm]; rfl)
 have c64 := zCH (G := G) c ms hcs (by omega) (by rw [hcd, hmm]; rfl) hmb'
 have hP : ((zu0 bk ms).map fun s => [eS s])[(zuE bk ms).length]? = some [eS (chk ms).chs] := by simp [zu0]
 have hS : ((jQ ms).map fun s => [eS s])[ms.length]? = some [eS (chk ms).chs] := by rw [zxA]; simp
 by_cases hts : ts = []
 ·
  subst hts
  exact zCh hkn c bk ms [] hw hs hb15 hm6 hb hl8 hcd hbk hmm hPl ⟨hqp, by omega⟩ hP hSl hS c70 c71 c64 c71b (zAO c bk [] hcs (by omega) (by rw [hcd, hbk]; rfl) rfl)
 ·
  cases hu : zwN c bk ts with
  | false =>
   have c71t := zAn (G := G) c bk ts hcs (by omega) hbk hcd hl8 hts hu
   rw [if_neg (by decide), if_neg (by decide)] at c71t
   exact zCh hkn c bk ms ts hw hs hb15 hm6 hb hl8 hcd hbk hmm hPl ⟨hqp, by omega⟩ hP hSl hS c70 c71 c64 c71b c71t
  | true =>
   have c71t := zAn (G := G) c bk ts hcs (by omega) hbk hcd hl8 hts hu
   rw [if_pos rfl, if_pos rfl] at c71t
   by_cases hA : zvx bk ts = ms
   ·
    rw [hA] at c71t
    exact zCE hkn c bk ms ts hw hs hb15 hm6 hb hl8 hcd hbk hmm hPl ⟨hqp, by omega⟩ hP hSl hS c70 c71 c64 c71b (zCo hu hA) c71t
   ·
    have hAl : (zvx bk ts).length <= 1000 := by
     have h9 := zuZ bk ts.dropLast
     rw [List.length_dropLast] at h9
     unfold zvx; omega
    exact zCC hkn c bk ms ts hw hs hb15 hm6 hb hl8 hcd hbk hmm hPl ⟨hqp, by omega⟩ hP hSl hS c70 c71 c64 c71b (decide_eq_false hA) hAl c71t
end Go.Av
end
