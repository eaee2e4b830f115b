/- Copies. · isCopy. · Copy; how a figure is received. -/
import Derived.Test.YtaphehlgijlfeaaGreatDoorWiD
import Derived.Test.YtaphehlgijlfeaaGreatDoorPlatF
import Derived.Test.YtaphehlgijlfeaaGreatDoorPlatI
set_option linter.unusedVariables false
set_option linter.unusedSimpArgs false
section
namespace Go.Av
open Go.Proofs
set_option maxRecDepth 100000
set_option maxHeartbeats 1000000
set_option linter.unusedSimpArgs false
variable {G : Glob}

theorem dec_small {s : ByteArray} {k : Nat} (h : (s.get! k).toNat < 128) : Utf8.decode s k = ((s.get! k).toNat, 1) := by
  unfold Utf8.decode
  simp only [Nat.add_zero]
  rw [if_pos h]
theorem dec_big {s : ByteArray} {k : Nat} (h : ¬ (s.get! k).toNat < 128) : 128 ≤ (Utf8.decode s k).1 := by
  unfold Utf8.decode
  simp only [Nat.add_zero]
  rw [if_neg h]
  split
  · split
    · assumption
    · decide
  · split
    · split
      · rename_i hh; simp only [Bool.and_eq_true, decide_eq_true_eq] at hh; omega
      · decide
    · split
      · split
        · rename_i hh; simp only [Bool.and_eq_true, decide_eq_true_eq] at hh; omega
        · decide
      · decide
theorem get_at {w : List UInt8} {k : Nat} (h : k < w.length) : (⟨w.toArray⟩ : ByteArray).get! k = w[k] := by
  show (w.toArray)[k]! = w[k]
  simp [h]

theorem weak_drop {a : Nat} {b : List Tmp} {c : List (EV × Value)} {d : Bool} {p : Nat × Obj} {hs : List (Nat × Obj)} {fr : Nat → EV} {mem : List PO} : Weak ⟨⟨a, b, c, d, p :: hs⟩, fr, mem⟩ ⟨⟨a, b, c, d, hs⟩, fr, mem⟩ := by
  intro w0 ok0 a w ⟨h0, h1, h2, ok, bs, h3, h4, h5, h6⟩
  exact ⟨h0, ⟨h1.1, fun p hp => h1.2 p (List.mem_cons_of_mem _ hp)⟩, h2, ok, bs, h3, h4, h5, h6⟩
theorem dec_kind {h : Int → Bool} (hb : ∀ r : Int, 128 ≤ r → h r = false) {w : List UInt8} {k : Nat} (hk : k < w.length) : h ((Utf8.decode ⟨w.toArray⟩ k).1 : Int) = h (w[k].toNat : Int) := by
  by_cases hs : w[k].toNat < 128
  · rw [dec_small (by rw [get_at hk]; exact hs), get_at hk]
  · have := dec_big (s := ⟨w.toArray⟩) (k := k) (by rw [get_at hk]; exact hs)
    rw [hb _ (by omega), hb _ (by omega)]
theorem dec_low {w : List UInt8} {k : Nat} (hk : k < w.length) (h : w[k].toNat < 128) : Utf8.decode ⟨w.toArray⟩ k = (w[k].toNat, 1) := by
  rw [dec_small (by rw [get_at hk]; exact h), get_at hk]
theorem nxK_low {w : List UInt8} {k : Nat} (hk : k < w.length) (h : w[k].toNat < 128) : nxK ⟨w.toArray⟩ k = k + 1 := by
  unfold nxK; rw [if_pos (by simpa [ByteArray.size] using hk), dec_low hk h]
theorem kind_low {h : Int → Bool} (hb : ∀ r : Int, 128 ≤ r → h r = false) {b : UInt8} (hh : h (b.toNat : Int) = true) : b.toNat < 128 := by
  by_cases hs : b.toNat < 128
  · exact hs
  · rw [hb _ (by omega)] at hh; cases hh
def ofB (h : Int → Bool) (w : List UInt8) : Bool := (w.all fun b => h (b.toNat : Int)) && decide (w.length = 5)
def figR (r : Int) : Bool := decide (48 ≤ r) && decide (r ≤ 57)
def holR (r : Int) : Bool := decide (r = 63)
def copR (r : Int) : Bool := figR r || holR r
theorem figR_hi : ∀ r : Int, 128 ≤ r → figR r = false := fun r h => by simp [figR]; omega
theorem holR_hi : ∀ r : Int, 128 ≤ r → holR r = false := fun r h => by simp [holR]; omega
theorem copR_hi : ∀ r : Int, 128 ≤ r → copR r = false := fun r h => by simp [copR, figR_hi r h, holR_hi r h]
theorem all_takeB {w : List UInt8} {p : UInt8 → Bool} {k : Nat} (h : (w.take k).all p = true) (hk : k < w.length) (hp : p w[k] = true) : (w.take (k + 1)).all p = true := all_take h hk hp

theorem f124 (r : Int) : ACall Tryz.prog G 124 [.v (.int .i32 r)] (.v (.bool (figR r))) := by
 refine acall_of Tryz.func124 rfl (by kernel_rfl) rfl ?_
 refine ac_seq ?_
 refine ac_region ?_
 refine al_y rfl rfl (y_assignV rfl rfl) ?_
 refine al_nil ?_
 refine qt_normal ?_
 refine ac_seq ?_
 refine ac_region ?_
 refine al_y rfl rfl (y_moveV rfl rfl) ?_
 refine al_y rfl rfl (y_geq rfl rfl rfl) ?_
 refine al_y rfl rfl (y_moveV rfl rfl) ?_
 refine al_maybe rfl rfl rfl (fun hg => y_moveV rfl rfl) ?_
 refine al_maybe rfl rfl rfl (fun hg => y_leq rfl (if_pos hg) rfl) ?_
 refine al_y rfl rfl (y_and rfl rfl rfl rfl) ?_
 refine al_y rfl rfl (y_assignV rfl rfl) ?_
 refine al_nil ?_
 refine qt_normal ?_
 refine ac_ret ?_
 exact ⟨.inr rfl, AVle.refl _⟩

theorem f106 (r : Int) : ACall Tryz.prog G 106 [.v (.int .i32 r)] (.v (.bool (holR r))) := by
 refine acall_of Tryz.func106 rfl (by kernel_rfl) rfl ?_
 refine ac_seq ?_
 refine ac_region ?_
 refine al_y rfl rfl (y_assignV rfl rfl) ?_
 refine al_nil ?_
 refine qt_normal ?_
 refine ac_seq ?_
 refine ac_region ?_
 refine al_y rfl rfl (y_moveV rfl rfl) ?_
 refine al_y rfl rfl (y_eql rfl rfl rfl) ?_
 refine al_y rfl rfl (y_assignV rfl rfl) ?_
 refine al_nil ?_
 refine qt_normal ?_
 refine ac_ret ?_
 exact ⟨.inr rfl, AVle.of (by simp [holR]; rfl)⟩

theorem f151 (r : Int) : ACall Tryz.prog G 151 [.v (.int .i32 r)] (.v (.bool (copR r))) := by
 refine acall_of Tryz.func151 rfl (by kernel_rfl) rfl ?_
 refine ac_seq ?_
 refine ac_region ?_
 refine al_y rfl rfl (y_assignV rfl rfl) ?_
 refine al_nil ?_
 refine qt_normal ?_
 refine ac_seq ?_
 refine ac_region ?_
 refine al_y rfl rfl (y_moveV rfl rfl) ?_
 refine al_y rfl rfl (y_callF (av := [_]) rfl ⟨rfl, trivial⟩ (f124 r)) ?_
 refine al_y rfl rfl (y_moveV rfl rfl) ?_
 refine al_maybe rfl rfl rfl (fun hg => y_moveV rfl rfl) ?_
 refine al_maybe rfl rfl rfl (fun hg => y_callF (av := [_]) rfl ⟨((if_pos hg)), trivial⟩ (f106 r)) ?_
 refine al_y rfl rfl (y_or rfl rfl rfl rfl) ?_
 refine al_y rfl rfl (y_assignV rfl rfl) ?_
 refine al_nil ?_
 refine qt_normal ?_
 refine ac_ret ?_
 exact ⟨.inr rfl, AVle.refl _⟩

theorem f103 (w : List UInt8) (h : Int → Bool) (f : FuncId) (fs cs : List AV) (hb : ∀ r : Int, 128 ≤ r → h r = false) (hf : ∀ r : Int, ACall Tryz.prog G f (fs ++ [.v (.int .i32 r)] ++ cs) (.v (.bool (h r)))) : ACall Tryz.prog G 103 [eS w, .fn f fs cs] (.v (.bool (ofB h w))) := by
 have hF := Lib.hid hf
 clear hf
 refine acall_of Tryz.func103 rfl (by kernel_rfl) rfl ?_
 refine ac_seq ?_
 refine ac_region ?_
 refine al_y rfl rfl (y_assignV rfl rfl) ?_
 refine al_nil ?_
 refine qt_normal ?_
 refine ac_seq ?_
 refine ac_seq ?_
 refine ac_region ?_
 refine al_y rfl rfl (y_moveV rfl rfl) ?_
 refine al_range rfl rfl rfl rfl Tryz.underlying9 (fun itb => ?_)
 refine al_nil ?_
 refine qt_normal ?_
 refine ac_block ?_
 refine ac_loop (ι := { k : Nat // k ≤ w.length ∧ (w.take k).all (fun b => h (b.toNat : Int)) = true }) (fun k => ⟨⟨Tryz.f103.ntmps, [], [], false, [(itb, .stringIter ⟨w.toArray⟩ k.1)]⟩, frL [(0, SL w), (1, .pub (.fn f fs cs)), (8, itP itb)], []⟩) (fun k => w.length - k.1) (⟨0, by simp⟩) ?_ ?_
 ·
  exact weak_frM _ ⟨rfl, rfl, rfl, trivial⟩ (rfl)
 ·
  rintro ⟨k, hk⟩
  dsimp only
  refine ac_seq ?_
  refine ac_region ?_
  refine al_next rfl rfl rfl rfl rfl rfl ?_
  refine al_y rfl rfl (y_extract rfl rfl (nxT0 _ _)) ?_
  refine al_nil ?_
  refine qt_normal ?_
  refine ac_seq ?_
  refine ac_cond rfl (fun h0 => ?_) (fun h0 => ?_)
  ·
   have hlt0 : k < (⟨w.toArray⟩ : ByteArray).size := by simpa using h0
   have hlt : k < w.length := by simpa [ByteArray.size] using hlt0
   have hdk := dec_kind hb hlt
   refine ac_skip ?_
   refine qt_normal ?_
   refine ac_block ?_
   refine ac_seq ?_
   refine ac_region ?_
   refine al_y rfl rfl (y_extract rfl rfl (nxT2 hlt0)) ?_
   refine al_y rfl rfl (y_assignV rfl rfl) ?_
   refine al_nil ?_
   refine qt_normal ?_
   refine ac_seq ?_
   refine ac_region ?_
   refine al_y rfl rfl (y_moveP rfl rfl) ?_
   refine al_y rfl rfl (y_moveV rfl rfl) ?_
   refine al_y rfl rfl (y_callV (av := [_]) rfl rfl ⟨rfl, trivial⟩ (hF.out _)) ?_
   refine al_y rfl rfl (y_not rfl rfl) ?_
   refine al_nil ?_
   refine qt_normal ?_
   refine ac_cond rfl (fun h1 => ?_) (fun h1 => ?_)
   ·
    have hno : h (w[k].toNat : Int) = false := by rw [← hdk]; simpa using h1
    refine ac_seq ?_
    refine ac_region ?_
    refine al_y rfl rfl (y_assignV rfl rfl) ?_
    refine al_nil ?_
    refine qt_normal ?_
    refine ac_ret ?_
    refine qb_ret ?_
    refine qt_ret ?_
    refine qb_ret ?_
    refine qt_ret ?_
    exact ⟨.inr rfl, AVle.of (by rw [ofB, all_no (p := fun b : UInt8 => h (b.toNat : Int)) hlt hno]; rfl)⟩
   ·
    have hyes : h (w[k].toNat : Int) = true := by rw [← hdk]; simpa using h1
    have hlow := kind_low hb hyes
    have hnx := nxK_low hlt hlow
    refine ac_skip ?_
    refine qb_normal ?_
    exact ⟨⟨k + 1, by omega, all_takeB hk.2 hlt hyes⟩, by dsimp only; omega, weak_frN (congrArg (fun z => (⟨Tryz.f103.ntmps, [], [], false, [(itb, Obj.stringIter ⟨w.toArray⟩ z)]⟩ : NS)) hnx) _ ⟨rfl, rfl, rfl, trivial⟩ rfl⟩
  ·
   have hge : w.length ≤ k := by simpa [ByteArray.size] using h0
   refine ac_exit ?_
   refine qt_exit ?_
   refine qt_exit ?_
   refine qb_exit ?_
   refine qt_normal ?_
   refine ac_seq ?_
   refine ac_region ?_
   refine al_y rfl rfl (y_moveV rfl rfl) ?_
   refine al_y rfl rfl (y_len_SL rfl rfl Tryz.underlying9) ?_
   refine al_y rfl rfl (y_eql rfl rfl rfl) ?_
   refine al_y rfl rfl (y_assignV rfl rfl) ?_
   refine al_nil ?_
   refine qt_normal ?_
   refine ac_ret ?_
   exact ⟨.inr rfl, AVle.of (by rw [List.take_of_length_le hge] at hk; rw [ofB, hk.2, Bool.true_and]; exact congrArg (fun x : Bool => AV.v (Value.bool x)) (by rw [Bool.eq_iff_iff]; simp; omega))⟩
end Go.Av
end

section
namespace Go.Av
open Go.Proofs
set_option maxRecDepth 100000
set_option maxHeartbeats 1000000
set_option linter.unusedSimpArgs false
variable {G : Glob}

def hl1 (w : List UInt8) : Int := w.foldl (fun s b => s + if b.toNat = 63 then 1 else 0) 0
def hlN (l : List (List UInt8)) : Int := l.foldl (fun s w => s + hl1 w) 0
theorem hl1_step {w : List UInt8} {k : Nat} (h : k < w.length) : hl1 (w.take (k + 1)) = hl1 (w.take k) + if w[k].toNat = 63 then 1 else 0 := by
  unfold hl1; rw [List.take_succ_eq_append_getElem h, List.foldl_append]; rfl
theorem hlN_step {l : List (List UInt8)} {k : Nat} (h : k < l.length) : hlN (l.take (k + 1)) = hlN (l.take k) + hl1 l[k] := by
  unfold hlN; rw [List.take_succ_eq_append_getElem h, List.foldl_append]; rfl
theorem hl1_bd (w : List UInt8) : 0 ≤ hl1 w ∧ hl1 w ≤ w.length := by
  have key : ∀ (w : List UInt8) (t : Int), t ≤ w.foldl (fun s b => s + if b.toNat = 63 then 1 else 0) t ∧ w.foldl (fun s b => s + if b.toNat = 63 then 1 else 0) t ≤ t + w.length := by
    intro w
    induction w with
    | nil => intro t; simp
    | cons b w ih =>
      intro t
      have h1 := ih (t + if b.toNat = 63 then 1 else 0)
      simp only [List.foldl_cons, List.length_cons]
      obtain ⟨x, hx⟩ : ∃ x : Int, (if b.toNat = 63 then (1 : Int) else 0) = x := ⟨_, rfl⟩
      have h2 : 0 ≤ x ∧ x ≤ 1 := by rw [← hx]; split <;> omega
      rw [hx] at h1 ⊢
      omega
  have := key w 0
  unfold hl1; omega
theorem hlN_bd (l : List (List UInt8)) (h : ∀ w ∈ l, w.length ≤ 5) : 0 ≤ hlN l ∧ hlN l ≤ 5 * l.length := by
  have key : ∀ (l : List (List UInt8)), (∀ w ∈ l, w.length ≤ 5) → ∀ t : Int, t ≤ l.foldl (fun s w => s + hl1 w) t ∧ l.foldl (fun s w => s + hl1 w) t ≤ t + 5 * l.length := by
    intro l
    induction l with
    | nil => intro _ t; simp
    | cons w l ih =>
      intro hl t
      have h1 := ih (fun v hv => hl v (List.mem_cons_of_mem _ hv)) (t + hl1 w)
      have h2 := hl1_bd w
      have h3 := hl w (List.mem_cons_self ..)
      simp only [List.foldl_cons, List.length_cons]
      omega
  have := key l h 0
  unfold hlN; omega
def copB (c : Cod) (l : List (List UInt8)) : Bool := (l.all fun w => ofB copR w) && (((l.length : Int) == (c.fields.length : Int) + 1) && decide (hlN l ≤ 2))
theorem ofB_len {h : Int → Bool} {w : List UInt8} (hh : ofB h w = true) : w.length = 5 := by simp [ofB] at hh; exact hh.2
theorem ofB_at {h : Int → Bool} {w : List UInt8} (hh : ofB h w = true) {k : Nat} (hk : k < w.length) : h (w[k].toNat : Int) = true := by
  simp only [ofB, Bool.and_eq_true, List.all_eq_true] at hh
  exact hh.1 _ (List.getElem_mem hk)
theorem take_len5 {l : List (List UInt8)} {q : Nat} (h : (l.take q).all (fun w => ofB copR w) = true) : ∀ w ∈ l.take q, w.length ≤ 5 := fun w hw => by
  rw [List.all_eq_true] at h; have := ofB_len (h w hw); omega
theorem f118 (c : Cod) (l : List (List UInt8)) (hl : l.length ≤ 1000) (hc : c.fields.length ≤ 1000) : ACall Tryz.prog G 118 [.agg (eCod c), eStrs l] (.v (.bool (copB c l))) := by
 have hcl : (c.fields.map eSpn).length ≤ 1000 := by simpa using hc
 refine acall_of Tryz.func118 rfl (by kernel_rfl) rfl ?_
 refine ac_seq ?_
 refine ac_region ?_
 refine al_y rfl rfl (y_box rfl (cE_agg rfl)) ?_
 refine al_y rfl rfl (y_assignV rfl rfl) ?_
 refine al_nil ?_
 refine qt_normal ?_
 refine ac_seq ?_
 refine ac_region ?_
 refine al_y rfl rfl (y_assignV rfl rfl) ?_
 refine al_nil ?_
 refine qt_normal ?_
 refine ac_seq ?_
 refine ac_seq ?_
 refine ac_region ?_
 refine al_y rfl rfl (y_moveP rfl rfl) ?_
 refine al_y rfl rfl (y_len rfl rfl rfl Tryz.underlying34) ?_
 refine al_y rfl rfl (y_moveV rfl rfl) ?_
 refine al_nil ?_
 refine qt_normal ?_
 refine ac_block ?_
 refine ac_loop (ι := { q : Nat // q ≤ l.length ∧ (l.take q).all (fun w => ofB copR w) = true }) (fun q => ⟨Tryz.f118.ntmps, frL [(2, .pub (.ptr (eCod c))), (1, .pub (eStrs l)), (5, I (hlN (l.take q.1))), (10, .pub (eStrs l)), (11, I (l.length : Int)), (12, I (q.1 : Int))], []⟩) (fun q => l.length - q.1) (⟨0, by simp⟩) ?_ ?_
 ·
  exact weak_frM _ ⟨rfl, rfl, rfl, rfl, (congrArg (fun x : Nat => I (x : Int)) (List.length_map _)), rfl, trivial⟩ (rfl)
 ·
  rintro ⟨q, hq⟩
  dsimp only
  refine ac_seq ?_
  refine ac_region ?_
  refine al_y rfl rfl (y_lss rfl rfl rfl) ?_
  refine al_nil ?_
  refine qt_normal ?_
  refine ac_seq ?_
  refine ac_cond rfl (fun h0 => ?_) (fun h0 => ?_)
  ·
   have hlt : q < l.length := by simpa using h0
   have hln := hlN_bd _ (take_len5 hq.2)
   have htl : (l.take q).length = q := by simp; omega
   refine ac_skip ?_
   refine qt_normal ?_
   refine ac_seq ?_
   refine ac_block ?_
   refine ac_seq ?_
   refine ac_region ?_
   refine al_y rfl rfl (y_indexAddr rfl rfl rfl slc34 (by omega) (str_at hlt) str_len) ?_
   refine al_y rfl rfl (y_load1 rfl rfl rfl ty9) ?_
   refine al_y rfl rfl (y_assignV rfl rfl) ?_
   refine al_nil ?_
   refine qt_normal ?_
   refine ac_seq ?_
   refine ac_seq ?_
   refine ac_region ?_
   refine al_y rfl rfl (y_moveV rfl rfl) ?_
   refine al_y rfl rfl (y_callF (av := [_, _]) rfl ⟨rfl, rfl, trivial⟩ (f103 l[q] copR 151 [] [] copR_hi (fun r => f151 r))) ?_
   refine al_y rfl rfl (y_not rfl rfl) ?_
   refine al_nil ?_
   refine qt_normal ?_
   refine ac_cond rfl (fun h1 => ?_) (fun h1 => ?_)
   ·
    have hno : ofB copR l[q] = false := by simpa using h1
    refine ac_seq ?_
    refine ac_region ?_
    refine al_y rfl rfl (y_assignV rfl rfl) ?_
    refine al_nil ?_
    refine qt_normal ?_
    refine ac_ret ?_
    refine qt_ret ?_
    refine qb_ret ?_
    refine qt_ret ?_
    refine qt_ret ?_
    refine qb_ret ?_
    refine qt_ret ?_
    exact ⟨.inr rfl, AVle.of (by rw [copB, all_no (p := fun w => ofB copR w) hlt hno]; rfl)⟩
   ·
    have hyes : ofB copR l[q] = true := by simpa using h1
    have hw5 := ofB_len hyes
    refine ac_skip ?_
    refine qt_normal ?_
    refine ac_seq ?_
    refine ac_region ?_
    refine al_y rfl rfl (y_moveV rfl rfl) ?_
    refine al_range rfl rfl rfl rfl Tryz.underlying9 (fun itb => ?_)
    refine al_nil ?_
    refine qt_normal ?_
    refine ac_block ?_
    refine ac_loop (ι := { k : Nat // k ≤ l[q].length }) (fun k => ⟨⟨Tryz.f118.ntmps, [], [], false, [(itb, .stringIter ⟨l[q].toArray⟩ k.1)]⟩, frL [(2, .pub (.ptr (eCod c))), (1, .pub (eStrs l)), (5, I (hlN (l.take q) + hl1 (l[q].take k.1))), (10, .pub (eStrs l)), (11, I (l.length : Int)), (12, I (q : Int)), (20, itP itb)], []⟩) (fun k => l[q].length - k.1) (⟨0, by omega⟩) ?_ ?_
    ·
     exact weak_frM _ ⟨rfl, rfl, (congrArg (fun x : Int => I x) (by simp [hl1])), rfl, rfl, rfl, rfl, trivial⟩ (rfl)
    ·
     rintro ⟨k, hk⟩
     dsimp only
     refine ac_seq ?_
     refine ac_region ?_
     refine al_next rfl rfl rfl rfl rfl rfl ?_
     refine al_y rfl rfl (y_extract rfl rfl (nxT0 _ _)) ?_
     refine al_nil ?_
     refine qt_normal ?_
     refine ac_seq ?_
     refine ac_cond rfl (fun h2 => ?_) (fun h2 => ?_)
     ·
      have hlt0 : k < (⟨l[q].toArray⟩ : ByteArray).size := by simpa using h2
      have hkl : k < l[q].length := by simpa [ByteArray.size] using hlt0
      have hat := ofB_at hyes hkl
      have hlow := kind_low copR_hi hat
      have hnx := nxK_low hkl hlow
      have hdec := dec_low hkl hlow
      have hst := hl1_step hkl
      have hb1 := hl1_bd (l[q].take k)
      have hb2 : (l[q].take k).length ≤ 5 := by simp; omega
      refine ac_skip ?_
      refine qt_normal ?_
      refine ac_block ?_
      refine ac_seq ?_
      refine ac_region ?_
      refine al_y rfl rfl (y_extract rfl rfl (nxT2 hlt0)) ?_
      refine al_y rfl rfl (y_assignV rfl rfl) ?_
      refine al_nil ?_
      refine qt_normal ?_
      refine ac_seq ?_
      refine ac_region ?_
      refine al_y rfl rfl (y_moveV rfl rfl) ?_
      refine al_y rfl rfl (y_callF (av := [_]) rfl ⟨rfl, trivial⟩ (f106 _)) ?_
      refine al_nil ?_
      refine qt_normal ?_
      refine ac_cond rfl (fun h3 => ?_) (fun h3 => ?_)
      ·
       have h63 : l[q][k].toNat = 63 := by have h := h3; simp only [hdec, holR] at h; simp at h; omega
       rw [if_pos h63] at hst
       refine ac_region ?_
       refine al_y rfl rfl (y_moveV rfl rfl) ?_
       refine al_y rfl rfl (y_add rfl rfl rfl ⟨(by omega), (by omega)⟩) ?_
       refine al_y rfl rfl (y_assignV rfl rfl) ?_
       refine al_nil ?_
       refine qb_normal ?_
       exact ⟨⟨k + 1, by omega⟩, by dsimp only; omega, weak_frN (congrArg (fun z => (⟨Tryz.f118.ntmps, [], [], false, [(itb, Obj.stringIter ⟨l[q].toArray⟩ z)]⟩ : NS)) hnx) _ ⟨rfl, rfl, (congrArg (fun x : Int => I x) (by dsimp only; omega)), rfl, rfl, rfl, rfl, trivial⟩ rfl⟩
      ·
       have h63 : ¬ l[q][k].toNat = 63 := by have h := h3; simp only [hdec, holR] at h; simp at h; omega
       rw [if_neg h63] at hst
       refine ac_skip ?_
       refine qb_normal ?_
       exact ⟨⟨k + 1, by omega⟩, by dsimp only; omega, weak_frN (congrArg (fun z => (⟨Tryz.f118.ntmps, [], [], false, [(itb, Obj.stringIter ⟨l[q].toArray⟩ z)]⟩ : NS)) hnx) _ ⟨rfl, rfl, (congrArg (fun x : Int => I x) (by dsimp only; omega)), rfl, rfl, rfl, rfl, trivial⟩ rfl⟩
     ·
      have hge : l[q].length ≤ k := by simpa [ByteArray.size] using h2
      have hkk : l[q].take k = l[q] := List.take_of_length_le hge
      refine ac_exit ?_
      refine qt_exit ?_
      refine qt_exit ?_
      refine qb_exit ?_
      refine qb_normal ?_
      refine qt_normal ?_
      refine ac_weak weak_drop ?_
      refine ac_region ?_
      refine al_y rfl rfl (y_add rfl rfl rfl ⟨(by omega), (by omega)⟩) ?_
      refine al_y rfl rfl (y_moveV rfl rfl) ?_
      refine al_nil ?_
      exact ⟨⟨q + 1, by omega, all_take hq.2 hlt hyes⟩, by dsimp only; omega, (by refine weak_frM (mem' := []) _ ?_ ?_; exact ⟨rfl, rfl, (congrArg (fun x : Int => I x) (by rw [hkk, hlN_step hlt])), rfl, rfl, rfl, trivial⟩; exact rfl)⟩
  ·
   have hge : l.length ≤ q := by simpa using h0
   have hq2 := hq.2
   have hk2 : q = l.length := by omega
   subst hk2
   have hln := hlN_bd _ (take_len5 hq2)
   rw [List.take_length] at hq2 hln
   refine ac_exit ?_
   refine qt_exit ?_
   refine qt_exit ?_
   refine qb_exit ?_
   refine qt_normal ?_
   refine ac_seq ?_
   refine ac_region ?_
   refine al_y rfl rfl (y_moveP rfl rfl) ?_
   refine al_y rfl rfl (y_len rfl rfl rfl Tryz.underlying34) ?_
   refine al_y rfl rfl (y_fieldAddr rfl rfl fld25_0) ?_
   refine al_y rfl rfl (y_load1 rfl rfl rfl ty22) ?_
   refine al_y rfl rfl (y_len rfl rfl rfl Tryz.underlying22) ?_
   refine al_y rfl rfl (y_add rfl rfl rfl ⟨(by omega), (by omega)⟩) ?_
   refine al_y rfl rfl (y_eql rfl rfl rfl) ?_
   refine al_y rfl rfl (y_moveV rfl rfl) ?_
   refine al_maybe rfl rfl rfl (fun hg => y_moveV rfl rfl) ?_
   refine al_maybe rfl rfl rfl (fun hg => y_leq rfl (if_pos hg) rfl) ?_
   refine al_y rfl rfl (y_and rfl rfl rfl rfl) ?_
   refine al_y rfl rfl (y_assignV rfl rfl) ?_
   refine al_nil ?_
   refine qt_normal ?_
   refine ac_ret ?_
   exact ⟨.inr rfl, AVle.of (by rw [copB, hq2, Bool.true_and]; simp [eStrs])⟩
end Go.Av
end

section
namespace Go.Av
open Go.Proofs
set_option maxRecDepth 100000
set_option maxHeartbeats 1000000
set_option linter.unusedSimpArgs false
variable {G : Glob}

theorem ofB_of {h : Int → Bool} {w : List UInt8} (h5 : w.length = 5) (ha : w.all (fun b => h (b.toNat : Int)) = true) : ofB h w = true := by simp [ofB, h5, ha]
theorem ofB_no5 {h : Int → Bool} {w : List UInt8} (h5 : w.length ≠ 5) : ofB h w = false := by simp [ofB, h5]
theorem ofB_noc {h : Int → Bool} {w : List UInt8} {k : Nat} (hk : k < w.length) (hc : h (w[k].toNat : Int) = false) : ofB h w = false := by
  rw [ofB, all_no (p := fun b : UInt8 => h (b.toNat : Int)) hk hc]; rfl
theorem f120 (r : Int) : ACall Tryz.prog G 120 [.v (.int .u8 r)] (.v (.bool (figR r))) := by
 refine acall_of Tryz.func120 rfl (by kernel_rfl) rfl ?_
 refine ac_seq ?_
 refine ac_region ?_
 refine al_y rfl rfl (y_assignV rfl rfl) ?_
 refine al_nil ?_
 refine qt_normal ?_
 refine ac_seq ?_
 refine ac_region ?_
 refine al_y rfl rfl (y_moveV rfl rfl) ?_
 refine al_y rfl rfl (y_geq rfl rfl rfl) ?_
 refine al_y rfl rfl (y_moveV rfl rfl) ?_
 refine al_maybe rfl rfl rfl (fun hg => y_moveV rfl rfl) ?_
 refine al_maybe rfl rfl rfl (fun hg => y_leq rfl (if_pos hg) rfl) ?_
 refine al_y rfl rfl (y_and rfl rfl rfl rfl) ?_
 refine al_y rfl rfl (y_assignV rfl rfl) ?_
 refine al_nil ?_
 refine qt_normal ?_
 refine ac_ret ?_
 exact ⟨.inr rfl, AVle.refl _⟩

theorem f67 (c : Cod) (l : List (List UInt8)) (hl : l.length ≤ 1000) (hc : c.fields.length ≤ 1000) : ACall Tryz.prog G 67 [.agg (eCod c), eStrs l] (.v (.bool (copB c l))) := by
 have hcl : (c.fields.map eSpn).length ≤ 1000 := by simpa using hc
 refine acall_of Tryz.func67 rfl (by kernel_rfl) rfl ?_
 refine ac_seq ?_
 refine ac_region ?_
 refine al_y rfl rfl (y_box rfl (cE_agg rfl)) ?_
 refine al_y rfl rfl (y_assignV rfl rfl) ?_
 refine al_nil ?_
 refine qt_normal ?_
 refine ac_seq ?_
 refine ac_region ?_
 refine al_y rfl rfl (y_assignV rfl rfl) ?_
 refine al_nil ?_
 refine qt_normal ?_
 refine ac_seq ?_
 refine ac_seq ?_
 refine ac_region ?_
 refine al_y rfl rfl (y_assignV rfl rfl) ?_
 refine al_nil ?_
 refine qt_normal ?_
 refine ac_block ?_
 refine ac_loop (ι := { q : Nat // q ≤ l.length ∧ (l.take q).all (fun w => ofB copR w) = true }) (fun q => ⟨Tryz.f67.ntmps, frL [(2, .pub (.ptr (eCod c))), (1, .pub (eStrs l)), (5, I (hlN (l.take q.1))), (6, I (q.1 : Int))], []⟩) (fun q => l.length - q.1) (⟨0, by simp⟩) ?_ ?_
 ·
  exact weak_frM _ ⟨rfl, rfl, rfl, rfl, trivial⟩ (rfl)
 ·
  rintro ⟨q, hq⟩
  dsimp only
  refine ac_seq ?_
  refine ac_seq ?_
  refine ac_region ?_
  refine al_y rfl rfl (y_moveV rfl rfl) ?_
  refine al_y rfl rfl (y_moveP rfl rfl) ?_
  refine al_y rfl rfl (y_len rfl rfl rfl Tryz.underlying34) ?_
  refine al_y rfl rfl (y_lss rfl rfl rfl) ?_
  refine al_nil ?_
  refine qt_normal ?_
  refine ac_cond rfl (fun h0 => ?_) (fun h0 => ?_)
  ·
   have hlt : q < l.length := by simpa [eStrs] using h0
   have hln := hlN_bd _ (take_len5 hq.2)
   have htl : (l.take q).length = q := by simp; omega
   refine ac_skip ?_
   refine qt_normal ?_
   refine ac_seq ?_
   refine ac_block ?_
   refine ac_seq ?_
   refine ac_seq ?_
   refine ac_region ?_
   refine al_y rfl rfl (y_moveP rfl rfl) ?_
   refine al_y rfl rfl (y_moveV rfl rfl) ?_
   refine al_y rfl rfl (y_indexAddr rfl rfl rfl slc34 (by omega) (str_at hlt) str_len) ?_
   refine al_y rfl rfl (y_load1 rfl rfl rfl ty9) ?_
   refine al_y rfl rfl (y_len_SL rfl rfl Tryz.underlying9) ?_
   refine al_y rfl rfl (y_neq rfl rfl rfl) ?_
   refine al_nil ?_
   refine qt_normal ?_
   refine ac_cond rfl (fun h1 => ?_) (fun h1 => ?_)
   ·
    have h5 : l[q].length ≠ 5 := by simp at h1; omega
    refine ac_seq ?_
    refine ac_region ?_
    refine al_y rfl rfl (y_assignV rfl rfl) ?_
    refine al_nil ?_
    refine qt_normal ?_
    refine ac_ret ?_
    refine qt_ret ?_
    refine qb_ret ?_
    refine qt_ret ?_
    refine qt_ret ?_
    refine qb_ret ?_
    refine qt_ret ?_
    exact ⟨.inr rfl, AVle.of (by rw [copB, all_no (p := fun w => ofB copR w) hlt (ofB_no5 h5)]; rfl)⟩
   ·
    have h5 : l[q].length = 5 := by simp at h1; omega
    refine ac_skip ?_
    refine qt_normal ?_
    refine ac_seq ?_
    refine ac_region ?_
    refine al_y rfl rfl (y_assignV rfl rfl) ?_
    refine al_nil ?_
    refine qt_normal ?_
    refine ac_block ?_
    refine ac_loop (ι := { k : Nat // k ≤ 5 ∧ (l[q].take k).all (fun b => copR (b.toNat : Int)) = true }) (fun k => ⟨Tryz.f67.ntmps, frL [(2, .pub (.ptr (eCod c))), (1, .pub (eStrs l)), (5, I (hlN (l.take q) + hl1 (l[q].take k.1))), (6, I (q : Int)), (7, I (k.1 : Int))], []⟩) (fun k => 5 - k.1) (⟨0, by simp⟩) ?_ ?_
    ·
     exact weak_frM _ ⟨rfl, rfl, (congrArg (fun x : Int => I x) (by simp [hl1])), rfl, rfl, trivial⟩ (rfl)
    ·
     rintro ⟨k, hk⟩
     dsimp only
     refine ac_seq ?_
     refine ac_seq ?_
     refine ac_region ?_
     refine al_y rfl rfl (y_moveV rfl rfl) ?_
     refine al_y rfl rfl (y_lss rfl rfl rfl) ?_
     refine al_nil ?_
     refine qt_normal ?_
     refine ac_cond rfl (fun h2 => ?_) (fun h2 => ?_)
     ·
      have hk5 : k < 5 := by simp at h2; omega
      have hkl : k < l[q].length := by omega
      have hst := hl1_step hkl
      have hb1 := hl1_bd (l[q].take k)
      have hb2 : (l[q].take k).length ≤ 5 := by simp; omega
      refine ac_skip ?_
      refine qt_normal ?_
      refine ac_seq ?_
      refine ac_block ?_
      refine ac_seq ?_
      refine ac_region ?_
      refine al_y rfl rfl (y_moveP rfl rfl) ?_
      refine al_y rfl rfl (y_moveV rfl rfl) ?_
      refine al_y rfl rfl (y_indexAddr rfl rfl rfl slc34 (by omega) (str_at hlt) str_len) ?_
      refine al_y rfl rfl (y_load1 rfl rfl rfl ty9) ?_
      refine al_y rfl rfl (y_moveV rfl rfl) ?_
      refine al_y rfl rfl (y_index_SL rfl rfl rfl Tryz.underlying9 (by omega) (by rw [Int.toNat_natCast]; exact List.getElem?_eq_getElem hkl)) ?_
      refine al_y rfl rfl (y_eql rfl rfl rfl) ?_
      refine al_nil ?_
      refine qt_normal ?_
      refine ac_cond rfl (fun h3 => ?_) (fun h3 => ?_)
      ·
       have h63 : l[q][k].toNat = 63 := by simp at h3; omega
       rw [if_pos h63] at hst
       have hcc : copR (l[q][k].toNat : Int) = true := by simp [copR, holR, h63]
       refine ac_region ?_
       refine al_y rfl rfl (y_moveV rfl rfl) ?_
       refine al_y rfl rfl (y_add rfl rfl rfl ⟨(by omega), (by omega)⟩) ?_
       refine al_y rfl rfl (y_assignV rfl rfl) ?_
       refine al_nil ?_
       refine qb_normal ?_
       refine qt_normal ?_
       refine ac_region ?_
       refine al_y rfl rfl (y_moveV rfl rfl) ?_
       refine al_y rfl rfl (y_add rfl rfl rfl ⟨(by omega), (by omega)⟩) ?_
       refine al_y rfl rfl (y_assignV rfl rfl) ?_
       refine al_nil ?_
       exact ⟨⟨k + 1, by omega, all_takeB hk.2 hkl hcc⟩, by dsimp only; omega, (by refine weak_frM (mem' := []) _ ?_ ?_; exact ⟨rfl, rfl, (congrArg (fun x : Int => I x) (by dsimp only; omega)), rfl, rfl, trivial⟩; exact rfl)⟩
      ·
       have h63 : ¬ l[q][k].toNat = 63 := by simp at h3; omega
       rw [if_neg h63] at hst
       refine ac_seq ?_
       refine ac_region ?_
       refine al_y rfl rfl (y_moveP rfl rfl) ?_
       refine al_y rfl rfl (y_moveV rfl rfl) ?_
       refine al_y rfl rfl (y_indexAddr rfl rfl rfl slc34 (by omega) (str_at hlt) str_len) ?_
       refine al_y rfl rfl (y_load1 rfl rfl rfl ty9) ?_
       refine al_y rfl rfl (y_moveV rfl rfl) ?_
       refine al_y rfl rfl (y_index_SL rfl rfl rfl Tryz.underlying9 (by omega) (by rw [Int.toNat_natCast]; exact List.getElem?_eq_getElem hkl)) ?_
       refine al_y rfl rfl (y_callF (av := [_]) rfl ⟨rfl, trivial⟩ (f120 _)) ?_
       refine al_y rfl rfl (y_not rfl rfl) ?_
       refine al_nil ?_
       refine qt_normal ?_
       refine ac_cond rfl (fun h4 => ?_) (fun h4 => ?_)
       ·
        have hno : copR (l[q][k].toNat : Int) = false := by simp only [copR, Bool.or_eq_false_iff]; exact ⟨by simpa using h4, by simp [holR]; omega⟩
        refine ac_seq ?_
        refine ac_region ?_
        refine al_y rfl rfl (y_assignV rfl rfl) ?_
        refine al_nil ?_
        refine qt_normal ?_
        refine ac_ret ?_
        refine qb_ret ?_
        refine qt_ret ?_
        refine qt_ret ?_
        refine qb_ret ?_
        refine qb_ret ?_
        refine qt_ret ?_
        refine qt_ret ?_
        refine qb_ret ?_
        refine qt_ret ?_
        exact ⟨.inr rfl, AVle.of (by rw [copB, all_no (p := fun w => ofB copR w) hlt (ofB_noc hkl hno)]; rfl)⟩
       ·
        have hcc : copR (l[q][k].toNat : Int) = true := by simp only [copR, Bool.or_eq_true]; exact .inl (by simpa using h4)
        refine ac_skip ?_
        refine qb_normal ?_
        refine qt_normal ?_
        refine ac_region ?_
        refine al_y rfl rfl (y_moveV rfl rfl) ?_
        refine al_y rfl rfl (y_add rfl rfl rfl ⟨(by omega), (by omega)⟩) ?_
        refine al_y rfl rfl (y_assignV rfl rfl) ?_
        refine al_nil ?_
        exact ⟨⟨k + 1, by omega, all_takeB hk.2 hkl hcc⟩, by dsimp only; omega, (by refine weak_frM (mem' := []) _ ?_ ?_; exact ⟨rfl, rfl, (congrArg (fun x : Int => I x) (by dsimp only; omega)), rfl, rfl, trivial⟩; exact rfl)⟩
     ·
      have hge : l[q].length ≤ k := by simp at h2; omega
      have hkk : l[q].take k = l[q] := List.take_of_length_le hge
      have hyes : ofB copR l[q] = true := ofB_of h5 (by rw [hkk] at hk; exact hk.2)
      refine ac_exit ?_
      refine qt_exit ?_
      refine qt_exit ?_
      refine qb_exit ?_
      refine qb_normal ?_
      refine qt_normal ?_
      refine ac_region ?_
      refine al_y rfl rfl (y_moveV rfl rfl) ?_
      refine al_y rfl rfl (y_add rfl rfl rfl ⟨(by omega), (by omega)⟩) ?_
      refine al_y rfl rfl (y_assignV rfl rfl) ?_
      refine al_nil ?_
      exact ⟨⟨q + 1, by omega, all_take hq.2 hlt hyes⟩, by dsimp only; omega, (by refine weak_frM (mem' := []) _ ?_ ?_; exact ⟨rfl, rfl, (congrArg (fun x : Int => I x) (by rw [hkk, hlN_step hlt])), rfl, trivial⟩; exact rfl)⟩
  ·
   have hge : l.length ≤ q := by simpa [eStrs] using h0
   have hq2 := hq.2
   have hk2 : q = l.length := by omega
   subst hk2
   have hln := hlN_bd _ (take_len5 hq2)
   rw [List.take_length] at hq2 hln
   refine ac_exit ?_
   refine qt_exit ?_
   refine qt_exit ?_
   refine qb_exit ?_
   refine qt_normal ?_
   refine ac_seq ?_
   refine ac_region ?_
   refine al_y rfl rfl (y_moveP rfl rfl) ?_
   refine al_y rfl rfl (y_len rfl rfl rfl Tryz.underlying34) ?_
   refine al_y rfl rfl (y_fieldAddr rfl rfl fld25_0) ?_
   refine al_y rfl rfl (y_load1 rfl rfl rfl ty22) ?_
   refine al_y rfl rfl (y_len rfl rfl rfl Tryz.underlying22) ?_
   refine al_y rfl rfl (y_add rfl rfl rfl ⟨(by omega), (by omega)⟩) ?_
   refine al_y rfl rfl (y_eql rfl rfl rfl) ?_
   refine al_y rfl rfl (y_moveV rfl rfl) ?_
   refine al_maybe rfl rfl rfl (fun hg => y_moveV rfl rfl) ?_
   refine al_maybe rfl rfl rfl (fun hg => y_leq rfl (if_pos hg) rfl) ?_
   refine al_y rfl rfl (y_and rfl rfl rfl rfl) ?_
   refine al_y rfl rfl (y_assignV rfl rfl) ?_
   refine al_nil ?_
   refine qt_normal ?_
   refine ac_ret ?_
   exact ⟨.inr rfl, AVle.of (by rw [copB, hq2, Bool.true_and]; simp [eStrs])⟩

def dv2 (n : Int) : Nat → Int
  | 0 => n
  | k + 1 => dv2 n k / 2
theorem dv2_pow (n : Int) : ∀ k : Nat, dv2 n k = n / 2 ^ k
  | 0 => by simp [dv2]
  | k + 1 => by
    show dv2 n k / 2 = _
    rw [dv2_pow n k, Int.ediv_ediv_of_nonneg (by exact Int.le_of_lt (Int.pow_pos (by decide))), Int.pow_succ]
def bitT (t : Int) (k : Nat) : Bool := dv2 t k % 2 == 1
def turnOf (c : Cod) (f : Int) : Int := c.turns.getD f.toNat 0
def rgt (ch f : Int) : Bool := decide (ch = 63) || (ch - 48 == f)
def wrg (c : Cod) (ch f : Int) : Bool := bitT (turnOf c f) (ch - 48).toNat
def howI (c : Cod) (ch f : Int) : Int := if rgt ch f then 1 else if wrg c ch f then 2 else 0
theorem cod_turns {c : Cod} (h : codB c = true) : c.turns.length = 10 ∧ ∀ t ∈ c.turns, 0 ≤ t ∧ t ≤ 1023 := by
  simp only [codB, Bool.and_eq_true, Bool.not_eq_true', beq_iff_eq] at h
  refine ⟨by omega, fun t ht => ?_⟩
  have h4 := h.2
  rw [List.any_eq_false] at h4
  have h5 := h4 t ht
  simp only [badT, Bool.not_eq_true, Bool.not_eq_false', inB_iff] at h5
  exact h5
theorem turn_at {c : Cod} (h : codB c = true) {f : Int} (hf : 0 ≤ f ∧ f ≤ 9) : ∃ h' : f.toNat < c.turns.length, c.turns[f.toNat] = turnOf c f ∧ 0 ≤ turnOf c f ∧ turnOf c f ≤ 1023 := by
  obtain ⟨h1, h2⟩ := cod_turns h
  have hl : f.toNat < c.turns.length := by omega
  have e : c.turns[f.toNat] = turnOf c f := by simp [turnOf, List.getD_eq_getElem?_getD, List.getElem?_eq_getElem hl]
  have := h2 _ (List.getElem_mem hl)
  rw [e] at this
  exact ⟨hl, e, this⟩

theorem f119 (c : Cod) (ch f : Int) (hk : codB c = true) (hch : 48 ≤ ch ∧ ch ≤ 63) (hf : 0 ≤ f ∧ f ≤ 9) : ACall Tryz.prog G 119 [.agg (eCod c), .v (.int .u8 ch), .v (.int .i64 f)] (.v (.int .i64 (howI c ch f))) := by
 obtain ⟨htl, hte, htb⟩ := turn_at hk hf
 refine acall_of Tryz.func119 rfl (by kernel_rfl) rfl ?_
 refine ac_seq ?_
 refine ac_region ?_
 refine al_y rfl rfl (y_box rfl (cE_agg rfl)) ?_
 refine al_y rfl rfl (y_assignV rfl rfl) ?_
 refine al_nil ?_
 refine qt_normal ?_
 refine ac_seq ?_
 refine ac_region ?_
 refine al_y rfl rfl (y_moveV rfl rfl) ?_
 refine al_y rfl rfl (y_subK rfl rfl rfl (wrap_u8 (by omega))) ?_
 refine al_y rfl rfl (y_convI rfl rfl Tryz.underlying5 Tryz.underlying3 (wrap_64 (by omega))) ?_
 refine al_y rfl rfl (y_assignV rfl rfl) ?_
 refine al_nil ?_
 refine qt_normal ?_
 refine ac_seq ?_
 refine ac_block ?_
 refine ac_seq ?_
 refine ac_region ?_
 refine al_y rfl rfl (y_moveV rfl rfl) ?_
 refine al_y rfl rfl (y_eql rfl rfl rfl) ?_
 refine al_y rfl rfl (y_moveV rfl rfl) ?_
 refine al_maybe rfl rfl rfl (fun hg => y_moveV rfl rfl) ?_
 refine al_maybe rfl rfl rfl (fun hg => y_moveV rfl rfl) ?_
 refine al_maybe rfl rfl rfl (fun hg => y_eql rfl (if_pos hg) (if_pos hg)) ?_
 refine al_y rfl rfl (y_or rfl rfl rfl rfl) ?_
 refine al_y rfl rfl (y_assignV rfl rfl) ?_
 refine al_nil ?_
 refine qt_normal ?_
 refine ac_cond rfl (fun h0 => ?_) (fun h0 => ?_)
 ·
  have hr : rgt ch f = true := by simpa [rgt] using h0
  refine ac_seq ?_
  refine ac_region ?_
  refine al_y rfl rfl (y_assignV rfl rfl) ?_
  refine al_nil ?_
  refine qt_normal ?_
  refine ac_ret ?_
  refine qb_ret ?_
  refine qt_ret ?_
  exact ⟨.inr rfl, AVle.of (by simp [howI, hr])⟩
 ·
  have hr : rgt ch f = false := by simpa [rgt] using h0
  have hne : ch ≠ 63 := by simp [rgt] at hr; exact hr.1
  refine ac_seq ?_
  refine ac_region ?_
  refine al_y rfl rfl (y_fieldAddr rfl rfl fld25_1) ?_
  refine al_y rfl rfl (y_load1 rfl rfl rfl ty23) ?_
  refine al_y rfl rfl (y_moveV rfl rfl) ?_
  refine al_y rfl rfl (y_indexAddr rfl rfl rfl slc23 (by omega) (by rw [List.getElem?_map, List.getElem?_eq_getElem htl, hte]; rfl) int_len) ?_
  refine al_y rfl rfl (y_load1 rfl rfl rfl ty3) ?_
  refine al_y rfl rfl (y_moveV rfl rfl) ?_
  refine al_y rfl rfl (y_shr rfl rfl rfl (by omega) (by omega)) ?_
  refine al_y rfl rfl (y_and1 rfl rfl rfl) ?_
  refine al_y rfl rfl (y_eql rfl rfl rfl) ?_
  refine al_y rfl rfl (y_assignV rfl rfl) ?_
  refine al_nil ?_
  refine qt_normal ?_
  refine ac_cond rfl (fun h1 => ?_) (fun h1 => ?_)
  ·
   have hw : wrg c ch f = true := by simpa [wrg, bitT, dv2_pow] using h1
   refine ac_seq ?_
   refine ac_region ?_
   refine al_y rfl rfl (y_assignV rfl rfl) ?_
   refine al_nil ?_
   refine qt_normal ?_
   refine ac_ret ?_
   refine qb_ret ?_
   refine qt_ret ?_
   exact ⟨.inr rfl, AVle.of (by simp [howI, hr, hw])⟩
  ·
   have hw : wrg c ch f = false := by simpa [wrg, bitT, dv2_pow] using h1
   refine ac_skip ?_
   refine qb_normal ?_
   refine qt_normal ?_
   refine ac_seq ?_
   refine ac_region ?_
   refine al_y rfl rfl (y_assignV rfl rfl) ?_
   refine al_nil ?_
   refine qt_normal ?_
   refine ac_ret ?_
   exact ⟨.inr rfl, AVle.of (by simp [howI, hr, hw])⟩

end Go.Av
end
