/- Copies. · isCopy. · Copy; how a figure is received. -/
import Derived.Test.YtaphehlgijlfeaaGreatDoorWiD
import Derived.Test.YtaphehlgijlfeaaGreatDoorPlatF
import Derived.Test.YtaphehlgijlfeaaGreatDoorPlatI
set_option linter.unusedVariables false
set_option linter.unusedSimpArgs false
section
namespace Go.Av
open Go.Proofs
set_option maxRecDepth 100000
set_option maxHeartbeats 1000000
set_option linter.unusedSimpArgs false
variable {G : Glob}

theorem dec_small {s : ByteArray} {k : Nat} (h : (s.get! k).toNat < 128) : Utf8.decode s k = ((s.get! k).toNat, 1) := by
  unfold Utf8.decode
  simp only [Nat.add_zero]
  rw [if_pos h]
theorem dec_big {s : ByteArray} {k : Nat} (h : ¬ (s.get! k).toNat < 128) : 128 ≤ (Utf8.decode s k).1 := by
  unfold Utf8.decode
  simp only [Nat.add_zero]
  rw [if_neg h]
  split
  · split
    · assumption
    · decide
  · split
    · split
      · rename_i hh; simp only [Bool.and_eq_true, decide_eq_true_eq] at hh; omega
      · decide
    · split
      · split
        · rename_i hh; simp only [Bool.and_eq_true, decide_eq_true_eq] at hh; omega
        · decide
      · decide
theorem get_at {w : List UInt8} {k : Nat} (h : k < w.length) : (⟨w.toArray⟩ : ByteArray).get! k = w[k] := by
  show (w.toArray)[k]! = w[k]
  simp [h]

theorem weak_drop {a : Nat} {b : List Tmp} {c : List (EV × Value)} {d : Bool} {p : Nat × Obj} {hs : List (Nat × Obj)} {fr : Nat → EV} {mem : List PO} : Weak ⟨⟨a, b, c, d, p :: hs⟩, fr, mem⟩ ⟨⟨a, b, c, d, hs⟩, fr, mem⟩ := by
  intro w0 ok0 a w ⟨h0, h1, h2, ok, bs, h3, h4, h5, h6⟩
  exact ⟨h0, ⟨h1.1, fun p hp => h1.2 p (List.mem_cons_of_mem _ hp)⟩, h2, ok, bs, h3, h4, h5, h6⟩
/-- A kind of runes in which there are bytes below 128 alone. -/
theorem dec_kind {h : Int → Bool} (hb : ∀ r : Int, 128 ≤ r → h r = false) {w : List UInt8} {k : Nat} (hk : k < w.length) : h ((Utf8.decode ⟨w.toArray⟩ k).1 : Int) = h (w[k].toNat : Int) := by
  by_cases hs : w[k].toNat < 128
  · rw [dec_small (by rw [get_at hk]; exact hs), get_at hk]
  · have := dec_big (s := ⟨w.toArray⟩) (k := k) (by rw [get_at hk]; exact hs)
    rw [hb _ (by omega), hb _ (by omega)]
theorem dec_low {w : List UInt8} {k : Nat} (hk : k < w.length) (h : w[k].toNat < 128) : Utf8.decode ⟨w.toArray⟩ k = (w[k].toNat, 1) := by
  rw [dec_small (by rw [get_at hk]; exact h), get_at hk]
theorem nxK_low {w : List UInt8} {k : Nat} (hk : k < w.length) (h : w[k].toNat < 128) : nxK ⟨w.toArray⟩ k = k + 1 := by
  unfold nxK; rw [if_pos (by simpa [ByteArray.size] using hk), dec_low hk h]
theorem kind_low {h : Int → Bool} (hb : ∀ r : Int, 128 ≤ r → h r = false) {b : UInt8} (hh : h (b.toNat : Int) = true) : b.toNat < 128 := by
  by_cases hs : b.toNat < 128
  · exact hs
  · rw [hb _ (by omega)] at hh; cases hh
/-- Five characters of a kind. -/
def ofB (h : Int → Bool) (w : List UInt8) : Bool := (w.all fun b => h (b.toNat : Int)) && decide (w.length = 5)
def figR (r : Int) : Bool := decide (48 ≤ r) && decide (r ≤ 57)
def letR (r : Int) : Bool := decide (97 ≤ r) && decide (r ≤ 122)
def holR (r : Int) : Bool := decide (r = 63)
def copR (r : Int) : Bool := figR r || holR r
def lokR (r : Int) : Bool := letR r || holR r
theorem letR_hi : ∀ r : Int, 128 ≤ r → letR r = false := fun r h => by simp [letR]; omega
theorem holR_hi : ∀ r : Int, 128 ≤ r → holR r = false := fun r h => by simp [holR]; omega
theorem lokR_hi : ∀ r : Int, 128 ≤ r → lokR r = false := fun r h => by simp [lokR, letR_hi r h, holR_hi r h]
theorem all_takeB {w : List UInt8} {p : UInt8 → Bool} {k : Nat} (h : (w.take k).all p = true) (hk : k < w.length) (hp : p w[k] = true) : (w.take (k + 1)).all p = true := all_take h hk hp

/-- wire.letter -/
theorem f105 (r : Int) : ACall Tryz.prog G 105 [.v (.int .i32 r)] (.v (.bool (letR r))) := by
  refine acall_of Tryz.func105 rfl (by kernel_rfl) rfl ?_
  refine ac_seq ?_
  refine ac_region ?_
  refine al_y rfl rfl (y_assignV rfl rfl) ?_
  refine al_nil ?_
  refine qt_normal ?_
  refine ac_seq ?_
  refine ac_region ?_
  refine al_y rfl rfl (y_moveV rfl rfl) ?_
  refine al_y rfl rfl (y_geq rfl rfl rfl) ?_
  refine al_y rfl rfl (y_moveV rfl rfl) ?_
  refine al_maybe rfl rfl rfl (fun hg => y_moveV rfl rfl) ?_
  refine al_maybe rfl rfl rfl (fun hg => y_leq rfl (if_pos hg) rfl) ?_
  refine al_y rfl rfl (y_and rfl rfl rfl rfl) ?_
  refine al_y rfl rfl (y_assignV rfl rfl) ?_
  refine al_nil ?_
  refine qt_normal ?_
  refine ac_ret ?_
  exact ⟨.inr rfl, AVle.refl _⟩

/-- wire.hole -/
theorem f106 (r : Int) : ACall Tryz.prog G 106 [.v (.int .i32 r)] (.v (.bool (holR r))) := by
  refine acall_of Tryz.func106 rfl (by kernel_rfl) rfl ?_
  refine ac_seq ?_
  refine ac_region ?_
  refine al_y rfl rfl (y_assignV rfl rfl) ?_
  refine al_nil ?_
  refine qt_normal ?_
  refine ac_seq ?_
  refine ac_region ?_
  refine al_y rfl rfl (y_moveV rfl rfl) ?_
  refine al_y rfl rfl (y_eql rfl rfl rfl) ?_
  refine al_y rfl rfl (y_assignV rfl rfl) ?_
  refine al_nil ?_
  refine qt_normal ?_
  refine ac_ret ?_
  exact ⟨.inr rfl, AVle.of (by simp [holR]; rfl)⟩

/-- wire.Look$1 -/
theorem f104 (r : Int) : ACall Tryz.prog G 104 [.v (.int .i32 r)] (.v (.bool (lokR r))) := by
  refine acall_of Tryz.func104 rfl (by kernel_rfl) rfl ?_
  refine ac_seq ?_
  refine ac_region ?_
  refine al_y rfl rfl (y_assignV rfl rfl) ?_
  refine al_nil ?_
  refine qt_normal ?_
  refine ac_seq ?_
  refine ac_region ?_
  refine al_y rfl rfl (y_moveV rfl rfl) ?_
  refine al_y rfl rfl (y_callF (av := [_]) rfl ⟨rfl, trivial⟩ (f105 r)) ?_
  refine al_y rfl rfl (y_moveV rfl rfl) ?_
  refine al_maybe rfl rfl rfl (fun hg => y_moveV rfl rfl) ?_
  refine al_maybe rfl rfl rfl (fun hg => y_callF (av := [_]) rfl ⟨((if_pos hg)), trivial⟩ (f106 r)) ?_
  refine al_y rfl rfl (y_or rfl rfl rfl rfl) ?_
  refine al_y rfl rfl (y_assignV rfl rfl) ?_
  refine al_nil ?_
  refine qt_normal ?_
  refine ac_ret ?_
  exact ⟨.inr rfl, AVle.refl _⟩

/-- wire.of -/
theorem f103 (w : List UInt8) (h : Int → Bool) (f : FuncId) (fs cs : List AV) (hb : ∀ r : Int, 128 ≤ r → h r = false) (hf : ∀ r : Int, ACall Tryz.prog G f (fs ++ [.v (.int .i32 r)] ++ cs) (.v (.bool (h r)))) : ACall Tryz.prog G 103 [eS w, .fn f fs cs] (.v (.bool (ofB h w))) := by
  have hF := Lib.hid hf
  clear hf
  refine acall_of Tryz.func103 rfl (by kernel_rfl) rfl ?_
  refine ac_seq ?_
  refine ac_region ?_
  refine al_y rfl rfl (y_assignV rfl rfl) ?_
  refine al_nil ?_
  refine qt_normal ?_
  refine ac_seq ?_
  refine ac_seq ?_
  refine ac_region ?_
  refine al_y rfl rfl (y_moveV rfl rfl) ?_
  refine al_range rfl rfl rfl rfl Tryz.underlying9 (fun itb => ?_)
  refine al_nil ?_
  refine qt_normal ?_
  refine ac_block ?_
  refine ac_loop (ι := { k : Nat // k ≤ w.length ∧ (w.take k).all (fun b => h (b.toNat : Int)) = true }) (fun k => ⟨⟨Tryz.f103.ntmps, [], [], false, [(itb, .stringIter ⟨w.toArray⟩ k.1)]⟩, frL [(0, SL w), (1, .pub (.fn f fs cs)), (8, itP itb)], []⟩) (fun k => w.length - k.1) (⟨0, by simp⟩) ?_ ?_
  · exact weak_frM _ ⟨rfl, rfl, rfl, trivial⟩ (rfl)
  · rintro ⟨k, hk⟩
    dsimp only
    refine ac_seq ?_
    refine ac_region ?_
    refine al_next rfl rfl rfl rfl rfl rfl ?_
    refine al_y rfl rfl (y_extract rfl rfl (nxT0 _ _)) ?_
    refine al_nil ?_
    refine qt_normal ?_
    refine ac_seq ?_
    refine ac_cond rfl (fun h0 => ?_) (fun h0 => ?_)
    · skip
      have hlt0 : k < (⟨w.toArray⟩ : ByteArray).size := by simpa using h0
      have hlt : k < w.length := by simpa [ByteArray.size] using hlt0
      have hdk := dec_kind hb hlt
      refine ac_skip ?_
      refine qt_normal ?_
      refine ac_block ?_
      refine ac_seq ?_
      refine ac_region ?_
      refine al_y rfl rfl (y_extract rfl rfl (nxT2 hlt0)) ?_
      refine al_y rfl rfl (y_assignV rfl rfl) ?_
      refine al_nil ?_
      refine qt_normal ?_
      refine ac_seq ?_
      refine ac_region ?_
      refine al_y rfl rfl (y_moveP rfl rfl) ?_
      refine al_y rfl rfl (y_moveV rfl rfl) ?_
      refine al_y rfl rfl (y_callV (av := [_]) rfl rfl ⟨rfl, trivial⟩ (hF.out _)) ?_
      refine al_y rfl rfl (y_not rfl rfl) ?_
      refine al_nil ?_
      refine qt_normal ?_
      refine ac_cond rfl (fun h1 => ?_) (fun h1 => ?_)
      · skip
        have hno : h (w[k].toNat : Int) = false := by rw [← hdk]; simpa using h1
        refine ac_seq ?_
        refine ac_region ?_
        refine al_y rfl rfl (y_assignV rfl rfl) ?_
        refine al_nil ?_
        refine qt_normal ?_
        refine ac_ret ?_
        refine qb_ret ?_
        refine qt_ret ?_
        refine qb_ret ?_
        refine qt_ret ?_
        exact ⟨.inr rfl, AVle.of (by rw [ofB, all_no (p := fun b : UInt8 => h (b.toNat : Int)) hlt hno]; rfl)⟩
      · skip
        have hyes : h (w[k].toNat : Int) = true := by rw [← hdk]; simpa using h1
        have hlow := kind_low hb hyes
        have hnx := nxK_low hlt hlow
        refine ac_skip ?_
        refine qb_normal ?_
        exact ⟨⟨k + 1, by omega, all_takeB hk.2 hlt hyes⟩, by dsimp only; omega, weak_frN (congrArg (fun z => (⟨Tryz.f103.ntmps, [], [], false, [(itb, Obj.stringIter ⟨w.toArray⟩ z)]⟩ : NS)) hnx) _ ⟨rfl, rfl, rfl, trivial⟩ rfl⟩
    · skip
      have hge : w.length ≤ k := by simpa [ByteArray.size] using h0
      refine ac_exit ?_
      refine qt_exit ?_
      refine qt_exit ?_
      refine qb_exit ?_
      refine qt_normal ?_
      refine ac_seq ?_
      refine ac_region ?_
      refine al_y rfl rfl (y_moveV rfl rfl) ?_
      refine al_y rfl rfl (y_len_SL rfl rfl Tryz.underlying9) ?_
      refine al_y rfl rfl (y_eql rfl rfl rfl) ?_
      refine al_y rfl rfl (y_assignV rfl rfl) ?_
      refine al_nil ?_
      refine qt_normal ?_
      refine ac_ret ?_
      exact ⟨.inr rfl, AVle.of (by rw [List.take_of_length_le hge] at hk; rw [ofB, hk.2, Bool.true_and]; exact congrArg (fun x : Bool => AV.v (Value.bool x)) (by rw [Bool.eq_iff_iff]; simp; omega))⟩
end Go.Av
end

section
namespace Go.Av
open Go.Proofs
set_option maxRecDepth 100000
set_option maxHeartbeats 1000000
set_option linter.unusedSimpArgs false
variable {G : Glob}

/-- How many figures cannot be read. -/
def hl1 (w : List UInt8) : Int := w.foldl (fun s b => s + if b.toNat = 63 then 1 else 0) 0
def hlN (l : List (List UInt8)) : Int := l.foldl (fun s w => s + hl1 w) 0
def copB (c : Cod) (l : List (List UInt8)) : Bool := (l.all fun w => ofB copR w) && (((l.length : Int) == (c.fields.length : Int) + 1) && decide (hlN l ≤ 2))
theorem ofB_len {h : Int → Bool} {w : List UInt8} (hh : ofB h w = true) : w.length = 5 := by simp [ofB] at hh; exact hh.2
theorem ofB_at {h : Int → Bool} {w : List UInt8} (hh : ofB h w = true) {k : Nat} (hk : k < w.length) : h (w[k].toNat : Int) = true := by
  simp only [ofB, Bool.and_eq_true, List.all_eq_true] at hh
  exact hh.1 _ (List.getElem_mem hk)
end Go.Av
end

section
namespace Go.Av
open Go.Proofs
set_option maxRecDepth 100000
set_option maxHeartbeats 1000000
set_option linter.unusedSimpArgs false
variable {G : Glob}

theorem ofB_noc {h : Int → Bool} {w : List UInt8} {k : Nat} (hk : k < w.length) (hc : h (w[k].toNat : Int) = false) : ofB h w = false := by
  rw [ofB, all_no (p := fun b : UInt8 => h (b.toNat : Int)) hk hc]; rfl
def dv2 (n : Int) : Nat → Int
  | 0 => n
  | k + 1 => dv2 n k / 2
/-- Is a figure in a set? -/
def bitT (t : Int) (k : Nat) : Bool := dv2 t k % 2 == 1
def turnOf (c : Cod) (f : Int) : Int := c.turns.getD f.toNat 0
/-- Is a character read as the figure that was sent? -/
def rgt (ch f : Int) : Bool := decide (ch = 63) || (ch - 48 == f)
def wrg (c : Cod) (ch f : Int) : Bool := bitT (turnOf c f) (ch - 48).toNat
def howI (c : Cod) (ch f : Int) : Int := if rgt ch f then 1 else if wrg c ch f then 2 else 0
end Go.Av
end
