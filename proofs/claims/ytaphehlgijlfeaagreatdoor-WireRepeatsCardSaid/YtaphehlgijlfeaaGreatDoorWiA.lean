/- The data of the wire's program, as cells. · Codes and messages. -/
import Derived.Test.YtaphehlgijlfeaaGreatDoorPlatF
import Derived.Test.YtaphehlgijlfeaaGreatDoorPlatE
import Derived.Lib.Hide
import Derived.Test.YtaphehlgijlfeaaGreatDoorChecked
set_option linter.unusedVariables false
set_option linter.unusedSimpArgs false
section
namespace Go.Av
structure Cod where
  fields : List (Int × Int)
  turns : List Int
  most : Int
structure Ent where
  word : List UInt8
  first : Int
  second : Int
structure Lin where
  src : Int
  dst : Int
  price : Int
  wrong : Int
structure Nt where
  offices : Int
  lines : List Lin
structure Trf where
  opn : Int
  free : Int
  more : Int
def ei (n : Int) : AV := .v (.int .i64 n)
def eSpn (p : Int × Int) : List AV := [.v (.int .i64 p.1), .v (.int .i64 p.2)]
def eInts (l : List Int) : AV := .sl (l.map fun n => [.v (.int .i64 n)])
def eIntss (l : List (List Int)) : AV := .sl (l.map fun m => [eInts m])
def eStrs (l : List (List UInt8)) : AV := .sl (l.map fun s => [eS s])
def eCps (l : List (List (List UInt8))) : AV := .sl (l.map fun g => [eStrs g])
def eCod (c : Cod) : List AV := [.sl (c.fields.map eSpn), eInts c.turns, .v (.int .i64 c.most)]
def eEnt (e : Ent) : List AV := [eS e.word, .v (.int .i64 e.first), .v (.int .i64 e.second)]
def eBk (l : List Ent) : AV := .sl (l.map eEnt)
def eLin (x : Lin) : List AV := [.v (.int .i64 x.src), .v (.int .i64 x.dst), .v (.int .i64 x.price), .v (.int .i64 x.wrong)]
def eNt (n : Nt) : List AV := [.v (.int .i64 n.offices), .sl (n.lines.map eLin)]
def eTrf (t : Trf) : List AV := [.v (.int .i64 t.opn), .v (.int .i64 t.free), .v (.int .i64 t.more)]
end Go.Av
end

section
namespace Go.Av
open Go.Proofs
set_option maxRecDepth 100000
set_option maxHeartbeats 1000000
set_option linter.unusedSimpArgs false
variable {G : Glob}
theorem mixed : Tryz.prog.follows .mixedOrders = true := by kernel_rfl
theorem slc22 : slcIs Tryz.prog 22 2 = true := by kernel_rfl
theorem ty130 : tyIs Tryz.prog 130 true 2 = true := by kernel_rfl
theorem slc23 : slcIs Tryz.prog 23 1 = true := by kernel_rfl
theorem ty3 : tyIs Tryz.prog 3 false 1 = true := by kernel_rfl
theorem fld130_0 : fldIs Tryz.prog 130 0 0 = true := by kernel_rfl
theorem fld130_1 : fldIs Tryz.prog 130 1 1 = true := by kernel_rfl
theorem fld25_0 : fldIs Tryz.prog 25 0 0 = true := by kernel_rfl
theorem ty22 : tyIs Tryz.prog 22 false 1 = true := by kernel_rfl
theorem fld25_1 : fldIs Tryz.prog 25 1 1 = true := by kernel_rfl
theorem ty23 : tyIs Tryz.prog 23 false 1 = true := by kernel_rfl
theorem fld25_2 : fldIs Tryz.prog 25 2 2 = true := by kernel_rfl
theorem ty25 : tyIs Tryz.prog 25 true 3 = true := by kernel_rfl
theorem zv130 : (Tryz.prog.info? 130).bind (·.zero) = some (.agg #[.int .i64 0, .int .i64 0]) := by kernel_rfl

def inB (x lo hi : Int) : Bool := decide (lo ≤ x) && decide (x ≤ hi)
theorem inB_iff {x lo hi : Int} : inB x lo hi = true ↔ lo ≤ x ∧ x ≤ hi := by simp [inB]
theorem spn_at {l : List (Int × Int)} {k : Nat} (h : k < l.length) : (l.map eSpn)[k]? = some (eSpn l[k]) := by simp [h]
theorem spn_len {l : List (Int × Int)} : ∀ q ∈ l.map eSpn, q.length = 2 := fun q hq => by obtain ⟨p, _, rfl⟩ := List.mem_map.1 hq; rfl
theorem int_at {l : List Int} {k : Nat} (h : k < l.length) : (l.map fun n => [AV.v (.int .i64 n)])[k]? = some [.v (.int .i64 l[k])] := by simp [h]
theorem int_len {l : List Int} : ∀ q ∈ l.map (fun n => [AV.v (.int .i64 n)]), q.length = 1 := by simp
def ixF {α : Type} (h : α → Bool) (l : List α) : Int := match l.findIdx? h with
  | some k => (k : Int)
  | none => -1
theorem ixF_at {α : Type} {h : α → Bool} {l : List α} {k : Nat} (hk : k < l.length) (h0 : (l.take k).any h = false) (h1 : h l[k] = true) : ixF h l = (k : Int) := by
  have : l.findIdx? h = some k := by
    rw [List.findIdx?_eq_some_iff_getElem]
    refine ⟨hk, h1, fun j hj => ?_⟩
    rw [List.any_eq_false] at h0
    have := h0 l[j] (by rw [List.mem_take_iff_getElem]; exact ⟨j, by omega, rfl⟩)
    simpa using this
  simp [ixF, this]
theorem ixF_no {α : Type} {h : α → Bool} {l : List α} (h0 : l.any h = false) : ixF h l = -1 := by
  have : l.findIdx? h = none := by
    rw [List.findIdx?_eq_none_iff]
    intro x hx
    rw [List.any_eq_false] at h0
    simpa using h0 x hx
  simp [ixF, this]
theorem ixF_any {α : Type} (h : α → Bool) (l : List α) : decide (0 ≤ ixF h l) = l.any h := by
  cases ha : l.any h with
  | false => rw [ixF_no ha]; rfl
  | true =>
    cases hf : l.findIdx? h with
    | some k => simp only [ixF, hf]; simp
    | none =>
      rw [List.findIdx?_eq_none_iff] at hf
      rw [List.any_eq_true] at ha
      obtain ⟨x, hx, hh⟩ := ha
      rw [hf x hx] at hh; cases hh
theorem any_takeG {α : Type} {l : List α} {h : α → Bool} {k : Nat} (h0 : (l.take k).any h = false) (hk : k < l.length) (h1 : h l[k] = false) : (l.take (k + 1)).any h = false := by
  rw [List.take_succ_eq_append_getElem hk, List.any_append, h0]; simp [h1]
theorem all_take {α : Type} {p : α → Bool} {l : List α} {k : Nat} (h : (l.take k).all p = true) (hk : k < l.length) (hp : p l[k] = true) : (l.take (k + 1)).all p = true := by
  rw [List.take_succ_eq_append_getElem hk, List.all_append, h]; simp [hp]
theorem all_no {α : Type} {p : α → Bool} {l : List α} {k : Nat} (hk : k < l.length) (hp : p l[k] = false) : l.all p = false := by
  rw [List.all_eq_false]; exact ⟨l[k], List.getElem_mem hk, by simp [hp]⟩
def badS (p : Int × Int) : Bool := decide (p.1 < 0) || decide (p.2 < p.1) || decide (99999 < p.2)
def badT (n : Int) : Bool := !inB n 0 1023
def codB (c : Cod) : Bool := inB (c.fields.length : Int) 1 3 && ((c.turns.length : Int) == 10) && inB c.most 0 2 && !(c.fields.any badS) && !(c.turns.any badT)
def eqF {α β : Type} (h : α → β → Bool) (l : List α) (s : List β) : Bool := decide (l.length = s.length) && (l.zip s).all fun p => h p.1 p.2
def msgB (c : Cod) (m : List Int) : Bool := eqF (fun n p => inB n p.1 p.2) m c.fields

theorem f107 (x lo hi : Int) : ACall Tryz.prog G 107 [.v (.int .i64 x), .v (.int .i64 lo), .v (.int .i64 hi)] (.v (.bool (inB x lo hi))) := by
 refine acall_of Tryz.func107 rfl (by kernel_rfl) rfl ?_
 refine ac_seq ?_
 refine ac_region ?_
 refine al_y rfl rfl (y_assignV rfl rfl) ?_
 refine al_nil ?_
 refine qt_normal ?_
 refine ac_seq ?_
 refine ac_region ?_
 refine al_y rfl rfl (y_moveV rfl rfl) ?_
 refine al_y rfl rfl (y_moveV rfl rfl) ?_
 refine al_y rfl rfl (y_geq rfl rfl rfl) ?_
 refine al_y rfl rfl (y_moveV rfl rfl) ?_
 refine al_maybe rfl rfl rfl (fun hg => y_moveV rfl rfl) ?_
 refine al_maybe rfl rfl rfl (fun hg => y_moveV rfl rfl) ?_
 refine al_maybe rfl rfl rfl (fun hg => y_leq rfl (if_pos hg) (if_pos hg)) ?_
 refine al_y rfl rfl (y_and rfl rfl rfl rfl) ?_
 refine al_y rfl rfl (y_assignV rfl rfl) ?_
 refine al_nil ?_
 refine qt_normal ?_
 refine ac_ret ?_
 exact ⟨.inr rfl, AVle.refl _⟩

theorem f93 (x lo hi : Int) : ACall Tryz.prog G 93 [.v (.int .i64 x), .v (.int .i64 lo), .v (.int .i64 hi)] (.v (.bool (inB x lo hi))) := by
 refine acall_of Tryz.func93 rfl (by kernel_rfl) rfl ?_
 refine ac_seq ?_
 refine ac_region ?_
 refine al_y rfl rfl (y_assignV rfl rfl) ?_
 refine al_nil ?_
 refine qt_normal ?_
 refine ac_seq ?_
 refine ac_region ?_
 refine al_y rfl rfl (y_moveV rfl rfl) ?_
 refine al_y rfl rfl (y_moveV rfl rfl) ?_
 refine al_y rfl rfl (y_geq rfl rfl rfl) ?_
 refine al_y rfl rfl (y_moveV rfl rfl) ?_
 refine al_maybe rfl rfl rfl (fun hg => y_moveV rfl rfl) ?_
 refine al_maybe rfl rfl rfl (fun hg => y_moveV rfl rfl) ?_
 refine al_maybe rfl rfl rfl (fun hg => y_leq rfl (if_pos hg) (if_pos hg)) ?_
 refine al_y rfl rfl (y_and rfl rfl rfl rfl) ?_
 refine al_y rfl rfl (y_assignV rfl rfl) ?_
 refine al_nil ?_
 refine qt_normal ?_
 refine ac_ret ?_
 exact ⟨.inr rfl, AVle.refl _⟩

theorem f171 (l : List (Int × Int)) (h : (Int × Int) → Bool) (f : FuncId) (fs cs : List AV) (hl : l.length ≤ 1000) (hf : ∀ n ∈ l, ACall Tryz.prog G f (fs ++ [.agg (eSpn n)] ++ cs) (.v (.bool (h n)))) : ACall Tryz.prog G 171 [.sl (l.map eSpn), .fn f fs cs] (.v (.int .i64 (ixF h l))) := by
 have hF := Lib.hid hf
 clear hf
 refine acall_of Tryz.func171 rfl (by kernel_rfl) rfl ?_
 refine ac_seq ?_
 refine ac_region ?_
 refine al_y rfl rfl (y_assignV rfl rfl) ?_
 refine al_nil ?_
 refine qt_normal ?_
 refine ac_seq ?_
 refine ac_seq ?_
 refine ac_region ?_
 refine al_y rfl rfl (y_moveP rfl rfl) ?_
 refine al_y rfl rfl (y_len rfl rfl rfl Tryz.underlying22) ?_
 refine al_y rfl rfl (y_moveV rfl rfl) ?_
 refine al_nil ?_
 refine qt_normal ?_
 refine ac_block ?_
 refine ac_loop (ι := { k : Nat // k ≤ l.length ∧ (l.take k).any h = false }) (fun k => ⟨Tryz.f171.ntmps, frL [(0, .pub (.sl (l.map eSpn))), (1, .pub (.fn f fs cs)), (7, I (l.length : Int)), (8, I (k.1 : Int))], []⟩) (fun k => l.length - k.1) (⟨0, by simp⟩) ?_ ?_
 ·
  exact weak_frM _ ⟨rfl, rfl, (congrArg (fun x : Nat => I (x : Int)) (List.length_map _)), rfl, trivial⟩ (rfl)
 ·
  rintro ⟨k, hk⟩
  dsimp only
  refine ac_seq ?_
  refine ac_region ?_
  refine al_y rfl rfl (y_lss rfl rfl rfl) ?_
  refine al_nil ?_
  refine qt_normal ?_
  refine ac_seq ?_
  refine ac_cond rfl (fun h0 => ?_) (fun h0 => ?_)
  ·
   have hlt : k < l.length := by simpa using h0
   refine ac_skip ?_
   refine qt_normal ?_
   refine ac_seq ?_
   refine ac_block ?_
   refine ac_seq ?_
   refine ac_region ?_
   refine al_y rfl rfl (y_moveV rfl rfl) ?_
   refine al_y rfl rfl (y_assignV rfl rfl) ?_
   refine al_nil ?_
   refine qt_normal ?_
   refine ac_seq ?_
   refine ac_region ?_
   refine al_y rfl rfl (y_moveP rfl rfl) ?_
   refine al_y rfl rfl (y_moveP rfl rfl) ?_
   refine al_y rfl rfl (y_moveV rfl rfl) ?_
   refine al_y rfl rfl (y_indexAddr rfl rfl rfl slc22 (by omega) (spn_at hlt) spn_len) ?_
   refine al_y rfl rfl (y_loadN rfl rfl ty130 (by exact Nat.le_of_ble_eq_true rfl)) ?_
   refine al_y rfl rfl (y_callV (av := [_]) rfl rfl ⟨rfl, trivial⟩ (hF.out _ (List.getElem_mem hlt))) ?_
   refine al_nil ?_
   refine qt_normal ?_
   refine ac_cond rfl (fun h1 => ?_) (fun h1 => ?_)
   ·
    refine ac_seq ?_
    refine ac_region ?_
    refine al_y rfl rfl (y_moveV rfl rfl) ?_
    refine al_y rfl rfl (y_assignV rfl rfl) ?_
    refine al_nil ?_
    refine qt_normal ?_
    refine ac_ret ?_
    refine qb_ret ?_
    refine qt_ret ?_
    refine qt_ret ?_
    refine qb_ret ?_
    refine qt_ret ?_
    exact ⟨.inr rfl, AVle.of (by rw [ixF_at hlt hk.2 h1])⟩
   ·
    refine ac_skip ?_
    refine qb_normal ?_
    refine qt_normal ?_
    refine ac_region ?_
    refine al_y rfl rfl (y_add rfl rfl rfl ⟨(by omega), (by omega)⟩) ?_
    refine al_y rfl rfl (y_moveV rfl rfl) ?_
    refine al_nil ?_
    exact ⟨⟨k + 1, by omega, any_takeG hk.2 hlt h1⟩, by dsimp only; omega, weak_frM _ ⟨rfl, rfl, rfl, rfl, trivial⟩ (rfl)⟩
  ·
   have hge : l.length ≤ k := by simpa using h0
   refine ac_exit ?_
   refine qt_exit ?_
   refine qt_exit ?_
   refine qb_exit ?_
   refine qt_normal ?_
   refine ac_seq ?_
   refine ac_region ?_
   refine al_y rfl rfl (y_assignV rfl rfl) ?_
   refine al_nil ?_
   refine qt_normal ?_
   refine ac_ret ?_
   exact ⟨.inr rfl, AVle.of (by rw [List.take_of_length_le hge] at hk; rw [ixF_no hk.2])⟩

theorem f145 (l : List (Int × Int)) (h : (Int × Int) → Bool) (f : FuncId) (fs cs : List AV) (hl : l.length ≤ 1000) (hf : ∀ n ∈ l, ACall Tryz.prog G f (fs ++ [.agg (eSpn n)] ++ cs) (.v (.bool (h n)))) : ACall Tryz.prog G 145 [.sl (l.map eSpn), .fn f fs cs] (.v (.bool (l.any h))) := by
 refine acall_of Tryz.func145 rfl (by kernel_rfl) rfl ?_
 refine ac_seq ?_
 refine ac_region ?_
 refine al_y rfl rfl (y_assignV rfl rfl) ?_
 refine al_nil ?_
 refine qt_normal ?_
 refine ac_seq ?_
 refine ac_region ?_
 refine al_y rfl rfl (y_moveP rfl rfl) ?_
 refine al_y rfl rfl (y_moveP rfl rfl) ?_
 refine al_y rfl rfl (y_callF (av := [_, _]) rfl ⟨rfl, rfl, trivial⟩ (f171 l h f fs cs hl hf)) ?_
 refine al_y rfl rfl (y_geq rfl rfl rfl) ?_
 refine al_y rfl rfl (y_assignV rfl rfl) ?_
 refine al_nil ?_
 refine qt_normal ?_
 refine ac_ret ?_
 exact ⟨.inr rfl, AVle.of (by rw [← ixF_any h l])⟩

theorem f172 (l : List Int) (h : Int → Bool) (f : FuncId) (fs cs : List AV) (hl : l.length ≤ 1000) (hf : ∀ n ∈ l, ACall Tryz.prog G f (fs ++ [.v (.int .i64 n)] ++ cs) (.v (.bool (h n)))) : ACall Tryz.prog G 172 [eInts l, .fn f fs cs] (.v (.int .i64 (ixF h l))) := by
 have hF := Lib.hid hf
 clear hf
 refine acall_of Tryz.func172 rfl (by kernel_rfl) rfl ?_
 refine ac_seq ?_
 refine ac_region ?_
 refine al_y rfl rfl (y_assignV rfl rfl) ?_
 refine al_nil ?_
 refine qt_normal ?_
 refine ac_seq ?_
 refine ac_seq ?_
 refine ac_region ?_
 refine al_y rfl rfl (y_moveP rfl rfl) ?_
 refine al_y rfl rfl (y_len rfl rfl rfl Tryz.underlying23) ?_
 refine al_y rfl rfl (y_moveV rfl rfl) ?_
 refine al_nil ?_
 refine qt_normal ?_
 refine ac_block ?_
 refine ac_loop (ι := { k : Nat // k ≤ l.length ∧ (l.take k).any h = false }) (fun k => ⟨Tryz.f172.ntmps, frL [(0, .pub (eInts l)), (1, .pub (.fn f fs cs)), (7, I (l.length : Int)), (8, I (k.1 : Int))], []⟩) (fun k => l.length - k.1) (⟨0, by simp⟩) ?_ ?_
 ·
  exact weak_frM _ ⟨rfl, rfl, (congrArg (fun x : Nat => I (x : Int)) (List.length_map _)), rfl, trivial⟩ (rfl)
 ·
  rintro ⟨k, hk⟩
  dsimp only
  refine ac_seq ?_
  refine ac_region ?_
  refine al_y rfl rfl (y_lss rfl rfl rfl) ?_
  refine al_nil ?_
  refine qt_normal ?_
  refine ac_seq ?_
  refine ac_cond rfl (fun h0 => ?_) (fun h0 => ?_)
  ·
   have hlt : k < l.length := by simpa using h0
   refine ac_skip ?_
   refine qt_normal ?_
   refine ac_seq ?_
   refine ac_block ?_
   refine ac_seq ?_
   refine ac_region ?_
   refine al_y rfl rfl (y_moveV rfl rfl) ?_
   refine al_y rfl rfl (y_assignV rfl rfl) ?_
   refine al_nil ?_
   refine qt_normal ?_
   refine ac_seq ?_
   refine ac_region ?_
   refine al_y rfl rfl (y_moveP rfl rfl) ?_
   refine al_y rfl rfl (y_moveP rfl rfl) ?_
   refine al_y rfl rfl (y_moveV rfl rfl) ?_
   refine al_y rfl rfl (y_indexAddr rfl rfl rfl slc23 (by omega) (int_at hlt) int_len) ?_
   refine al_y rfl rfl (y_load1 rfl rfl rfl ty3) ?_
   refine al_y rfl rfl (y_callV (av := [_]) rfl rfl ⟨rfl, trivial⟩ (hF.out _ (List.getElem_mem hlt))) ?_
   refine al_nil ?_
   refine qt_normal ?_
   refine ac_cond rfl (fun h1 => ?_) (fun h1 => ?_)
   ·
    refine ac_seq ?_
    refine ac_region ?_
    refine al_y rfl rfl (y_moveV rfl rfl) ?_
    refine al_y rfl rfl (y_assignV rfl rfl) ?_
    refine al_nil ?_
    refine qt_normal ?_
    refine ac_ret ?_
    refine qb_ret ?_
    refine qt_ret ?_
    refine qt_ret ?_
    refine qb_ret ?_
    refine qt_ret ?_
    exact ⟨.inr rfl, AVle.of (by rw [ixF_at hlt hk.2 h1])⟩
   ·
    refine ac_skip ?_
    refine qb_normal ?_
    refine qt_normal ?_
    refine ac_region ?_
    refine al_y rfl rfl (y_add rfl rfl rfl ⟨(by omega), (by omega)⟩) ?_
    refine al_y rfl rfl (y_moveV rfl rfl) ?_
    refine al_nil ?_
    exact ⟨⟨k + 1, by omega, any_takeG hk.2 hlt h1⟩, by dsimp only; omega, weak_frM _ ⟨rfl, rfl, rfl, rfl, trivial⟩ (rfl)⟩
  ·
   have hge : l.length ≤ k := by simpa using h0
   refine ac_exit ?_
   refine qt_exit ?_
   refine qt_exit ?_
   refine qb_exit ?_
   refine qt_normal ?_
   refine ac_seq ?_
   refine ac_region ?_
   refine al_y rfl rfl (y_assignV rfl rfl) ?_
   refine al_nil ?_
   refine qt_normal ?_
   refine ac_ret ?_
   exact ⟨.inr rfl, AVle.of (by rw [List.take_of_length_le hge] at hk; rw [ixF_no hk.2])⟩

theorem f147 (l : List Int) (h : Int → Bool) (f : FuncId) (fs cs : List AV) (hl : l.length ≤ 1000) (hf : ∀ n ∈ l, ACall Tryz.prog G f (fs ++ [.v (.int .i64 n)] ++ cs) (.v (.bool (h n)))) : ACall Tryz.prog G 147 [eInts l, .fn f fs cs] (.v (.bool (l.any h))) := by
 refine acall_of Tryz.func147 rfl (by kernel_rfl) rfl ?_
 refine ac_seq ?_
 refine ac_region ?_
 refine al_y rfl rfl (y_assignV rfl rfl) ?_
 refine al_nil ?_
 refine qt_normal ?_
 refine ac_seq ?_
 refine ac_region ?_
 refine al_y rfl rfl (y_moveP rfl rfl) ?_
 refine al_y rfl rfl (y_moveP rfl rfl) ?_
 refine al_y rfl rfl (y_callF (av := [_, _]) rfl ⟨rfl, rfl, trivial⟩ (f172 l h f fs cs hl hf)) ?_
 refine al_y rfl rfl (y_geq rfl rfl rfl) ?_
 refine al_y rfl rfl (y_assignV rfl rfl) ?_
 refine al_nil ?_
 refine qt_normal ?_
 refine ac_ret ?_
 exact ⟨.inr rfl, AVle.of (by rw [← ixF_any h l])⟩

theorem f146 (p : Int × Int) : ACall Tryz.prog G 146 [.agg (eSpn p)] (.v (.bool (badS p))) := by
 refine acall_of Tryz.func146 rfl (by kernel_rfl) rfl ?_
 refine ac_seq ?_
 refine ac_region ?_
 refine al_y rfl rfl (y_box rfl (cE_agg rfl)) ?_
 refine al_y rfl rfl (y_assignV rfl rfl) ?_
 refine al_nil ?_
 refine qt_normal ?_
 refine ac_seq ?_
 refine ac_region ?_
 refine al_y rfl rfl (y_fieldAddr rfl rfl fld130_0) ?_
 refine al_y rfl rfl (y_load1 rfl rfl rfl ty3) ?_
 refine al_y rfl rfl (y_lss rfl rfl rfl) ?_
 refine al_y rfl rfl (y_moveV rfl rfl) ?_
 refine al_maybe rfl rfl rfl (fun hg => y_fieldAddr rfl rfl fld130_0) ?_
 refine al_maybe rfl rfl rfl (fun hg => y_load1 rfl (if_pos hg) rfl ty3) ?_
 refine al_maybe rfl rfl rfl (fun hg => y_fieldAddr rfl rfl fld130_1) ?_
 refine al_maybe rfl rfl rfl (fun hg => y_load1 rfl (if_pos hg) rfl ty3) ?_
 refine al_maybe rfl rfl rfl (fun hg => y_gtr rfl (if_pos hg) (if_pos hg)) ?_
 refine al_y rfl rfl (y_or rfl rfl rfl rfl) ?_
 refine al_y rfl rfl (y_moveV rfl rfl) ?_
 refine al_maybe rfl rfl rfl (fun hg => y_fieldAddr rfl rfl fld130_1) ?_
 refine al_maybe rfl rfl rfl (fun hg => y_load1 rfl (if_pos hg) rfl ty3) ?_
 refine al_maybe rfl rfl rfl (fun hg => y_gtr rfl (if_pos hg) rfl) ?_
 refine al_y rfl rfl (y_or rfl rfl rfl rfl) ?_
 refine al_y rfl rfl (y_assignV rfl rfl) ?_
 refine al_nil ?_
 refine qt_normal ?_
 refine ac_ret ?_
 exact ⟨.inr rfl, AVle.refl _⟩

theorem f148 (n : Int) : ACall Tryz.prog G 148 [.v (.int .i64 n)] (.v (.bool (badT n))) := by
 refine acall_of Tryz.func148 rfl (by kernel_rfl) rfl ?_
 refine ac_seq ?_
 refine ac_region ?_
 refine al_y rfl rfl (y_assignV rfl rfl) ?_
 refine al_nil ?_
 refine qt_normal ?_
 refine ac_seq ?_
 refine ac_region ?_
 refine al_y rfl rfl (y_moveV rfl rfl) ?_
 refine al_y rfl rfl (y_callF (av := [_, _, _]) rfl ⟨rfl, rfl, rfl, trivial⟩ (f107 _ _ _)) ?_
 refine al_y rfl rfl (y_not rfl rfl) ?_
 refine al_y rfl rfl (y_assignV rfl rfl) ?_
 refine al_nil ?_
 refine qt_normal ?_
 refine ac_ret ?_
 exact ⟨.inr rfl, AVle.refl _⟩

theorem f116 (c : Cod) (hc : c.fields.length ≤ 1000 ∧ c.turns.length ≤ 1000) : ACall Tryz.prog G 116 [.agg (eCod c)] (.v (.bool (codB c))) := by
 refine acall_of Tryz.func116 rfl (by kernel_rfl) rfl ?_
 refine ac_seq ?_
 refine ac_region ?_
 refine al_y rfl rfl (y_box rfl (cE_agg rfl)) ?_
 refine al_y rfl rfl (y_assignV rfl rfl) ?_
 refine al_nil ?_
 refine qt_normal ?_
 refine ac_seq ?_
 refine ac_region ?_
 refine al_y rfl rfl (y_fieldAddr rfl rfl fld25_0) ?_
 refine al_y rfl rfl (y_load1 rfl rfl rfl ty22) ?_
 refine al_y rfl rfl (y_len rfl rfl rfl Tryz.underlying22) ?_
 refine al_y rfl rfl (y_callF (av := [_, _, _]) rfl ⟨rfl, rfl, rfl, trivial⟩ (f107 _ _ _)) ?_
 refine al_y rfl rfl (y_moveV rfl rfl) ?_
 refine al_maybe rfl rfl rfl (fun hg => y_fieldAddr rfl rfl fld25_1) ?_
 refine al_maybe rfl rfl rfl (fun hg => y_load1 rfl (if_pos hg) rfl ty23) ?_
 refine al_maybe rfl rfl rfl (fun hg => y_len rfl rfl (if_pos hg) Tryz.underlying23) ?_
 refine al_maybe rfl rfl rfl (fun hg => y_eql rfl (if_pos hg) rfl) ?_
 refine al_y rfl rfl (y_and rfl rfl rfl rfl) ?_
 refine al_y rfl rfl (y_moveV rfl rfl) ?_
 refine al_maybe rfl rfl rfl (fun hg => y_fieldAddr rfl rfl fld25_2) ?_
 refine al_maybe rfl rfl rfl (fun hg => y_load1 rfl (if_pos hg) rfl ty3) ?_
 refine al_maybe rfl rfl rfl (fun hg => y_callF (av := [_, _, _]) rfl ⟨((if_pos hg)), rfl, rfl, trivial⟩ (f107 _ _ _)) ?_
 refine al_y rfl rfl (y_and rfl rfl rfl rfl) ?_
 refine al_y rfl rfl (y_moveV rfl rfl) ?_
 refine al_maybe rfl rfl rfl (fun hg => y_fieldAddr rfl rfl fld25_0) ?_
 refine al_maybe rfl rfl rfl (fun hg => y_load1 rfl (if_pos hg) rfl ty22) ?_
 refine al_maybe rfl rfl rfl (fun hg => y_callF (av := [_, _]) rfl ⟨((if_pos hg)), rfl, trivial⟩ (f145 c.fields badS 146 [] [] hc.1 (fun p _ => f146 p))) ?_
 refine al_maybe rfl rfl rfl (fun hg => y_not rfl (if_pos hg)) ?_
 refine al_y rfl rfl (y_and rfl rfl rfl rfl) ?_
 refine al_y rfl rfl (y_moveV rfl rfl) ?_
 refine al_maybe rfl rfl rfl (fun hg => y_fieldAddr rfl rfl fld25_1) ?_
 refine al_maybe rfl rfl rfl (fun hg => y_load1 rfl (if_pos hg) rfl ty23) ?_
 refine al_maybe rfl rfl rfl (fun hg => y_callF (av := [_, _]) rfl ⟨((if_pos hg)), rfl, trivial⟩ (f147 c.turns badT 148 [] [] hc.2 (fun n _ => f148 n))) ?_
 refine al_maybe rfl rfl rfl (fun hg => y_not rfl (if_pos hg)) ?_
 refine al_y rfl rfl (y_and rfl rfl rfl rfl) ?_
 refine al_y rfl rfl (y_assignV rfl rfl) ?_
 refine al_nil ?_
 refine qt_normal ?_
 refine ac_ret ?_
 exact ⟨.inr rfl, AVle.of (by simp [codB, eInts])⟩

theorem f150 (n : Int) (p : Int × Int) : ACall Tryz.prog G 150 [.v (.int .i64 n), .agg (eSpn p)] (.v (.bool (inB n p.1 p.2))) := by
 refine acall_of Tryz.func150 rfl (by kernel_rfl) rfl ?_
 refine ac_seq ?_
 refine ac_region ?_
 refine al_y rfl rfl (y_box rfl (cE_agg rfl)) ?_
 refine al_y rfl rfl (y_assignV rfl rfl) ?_
 refine al_nil ?_
 refine qt_normal ?_
 refine ac_seq ?_
 refine ac_region ?_
 refine al_y rfl rfl (y_moveV rfl rfl) ?_
 refine al_y rfl rfl (y_fieldAddr rfl rfl fld130_0) ?_
 refine al_y rfl rfl (y_load1 rfl rfl rfl ty3) ?_
 refine al_y rfl rfl (y_fieldAddr rfl rfl fld130_1) ?_
 refine al_y rfl rfl (y_load1 rfl rfl rfl ty3) ?_
 refine al_y rfl rfl (y_callF (av := [_, _, _]) rfl ⟨rfl, rfl, rfl, trivial⟩ (f107 _ _ _)) ?_
 refine al_y rfl rfl (y_assignV rfl rfl) ?_
 refine al_nil ?_
 refine qt_normal ?_
 refine ac_ret ?_
 exact ⟨.inr rfl, AVle.refl _⟩

theorem zip_all_take {l : List Int} {s : List (Int × Int)} {h : Int → Int × Int → Bool} {k : Nat} (h0 : ((l.zip s).take k).all (fun p => h p.1 p.2) = true) (hk : k < l.length) (hs : k < s.length) (h1 : h l[k] s[k] = true) : ((l.zip s).take (k + 1)).all (fun p => h p.1 p.2) = true :=
  all_take h0 (by simp; omega) (by simp [h1])
theorem zip_all_no {l : List Int} {s : List (Int × Int)} {h : Int → Int × Int → Bool} {k : Nat} (hk : k < l.length) (hs : k < s.length) (h1 : h l[k] s[k] = false) : (l.zip s).all (fun p => h p.1 p.2) = false :=
  all_no (k := k) (by simp; omega) (by simp [h1])

theorem f149 (l : List Int) (s : List (Int × Int)) (h : Int → Int × Int → Bool) (f : FuncId) (fs cs : List AV) (hl : l.length ≤ 1000) (hf : ∀ n p, ACall Tryz.prog G f (fs ++ [.v (.int .i64 n), .agg (eSpn p)] ++ cs) (.v (.bool (h n p)))) : ACall Tryz.prog G 149 [eInts l, .sl (s.map eSpn), .fn f fs cs] (.v (.bool (eqF h l s))) := by
 have hF := Lib.hid hf
 clear hf
 refine acall_of Tryz.func149 rfl (by kernel_rfl) rfl ?_
 refine ac_seq ?_
 refine ac_region ?_
 refine al_y rfl rfl (y_assignV rfl rfl) ?_
 refine al_nil ?_
 refine qt_normal ?_
 refine ac_seq ?_
 refine ac_seq ?_
 refine ac_region ?_
 refine al_y rfl rfl (y_moveP rfl rfl) ?_
 refine al_y rfl rfl (y_len rfl rfl rfl Tryz.underlying23) ?_
 refine al_y rfl rfl (y_moveP rfl rfl) ?_
 refine al_y rfl rfl (y_len rfl rfl rfl Tryz.underlying22) ?_
 refine al_y rfl rfl (y_neq rfl rfl rfl) ?_
 refine al_nil ?_
 refine qt_normal ?_
 refine ac_cond rfl (fun h0 => ?_) (fun h0 => ?_)
 ·
  have hne : l.length ≠ s.length := by simp [eInts] at h0; omega
  refine ac_seq ?_
  refine ac_region ?_
  refine al_y rfl rfl (y_assignV rfl rfl) ?_
  refine al_nil ?_
  refine qt_normal ?_
  refine ac_ret ?_
  refine qt_ret ?_
  exact ⟨.inr rfl, AVle.of (by simp [eqF, hne])⟩
 ·
  have hle : l.length = s.length := by simp [eInts] at h0; omega
  refine ac_skip ?_
  refine qt_normal ?_
  refine ac_seq ?_
  refine ac_seq ?_
  refine ac_region ?_
  refine al_y rfl rfl (y_moveP rfl rfl) ?_
  refine al_y rfl rfl (y_len rfl rfl rfl Tryz.underlying23) ?_
  refine al_y rfl rfl (y_moveV rfl rfl) ?_
  refine al_nil ?_
  refine qt_normal ?_
  refine ac_block ?_
  refine ac_loop (ι := { k : Nat // k ≤ l.length ∧ ((l.zip s).take k).all (fun p => h p.1 p.2) = true }) (fun k => ⟨Tryz.f149.ntmps, frL [(1, .pub (.sl (s.map eSpn))), (2, .pub (.fn f fs cs)), (15, .pub (eInts l)), (16, I (l.length : Int)), (17, I (k.1 : Int))], []⟩) (fun k => l.length - k.1) (⟨0, by simp⟩) ?_ ?_
  ·
   exact weak_frM _ ⟨rfl, rfl, rfl, (congrArg (fun x : Nat => I (x : Int)) (List.length_map _)), rfl, trivial⟩ (rfl)
  ·
   rintro ⟨k, hk⟩
   dsimp only
   refine ac_seq ?_
   refine ac_region ?_
   refine al_y rfl rfl (y_lss rfl rfl rfl) ?_
   refine al_nil ?_
   refine qt_normal ?_
   refine ac_seq ?_
   refine ac_cond rfl (fun h1 => ?_) (fun h1 => ?_)
   ·
    have hlt : k < l.length := by simpa using h1
    have hls : k < s.length := by omega
    refine ac_skip ?_
    refine qt_normal ?_
    refine ac_seq ?_
    refine ac_block ?_
    refine ac_seq ?_
    refine ac_region ?_
    refine al_y rfl rfl (y_moveV rfl rfl) ?_
    refine al_y rfl rfl (y_indexAddr rfl rfl rfl slc23 (by omega) (int_at hlt) int_len) ?_
    refine al_y rfl rfl (y_load1 rfl rfl rfl ty3) ?_
    refine al_y rfl rfl (y_assignV rfl rfl) ?_
    refine al_y rfl rfl (y_assignV rfl rfl) ?_
    refine al_nil ?_
    refine qt_normal ?_
    refine ac_seq ?_
    refine ac_region ?_
    refine al_y rfl rfl (y_moveP rfl rfl) ?_
    refine al_y rfl rfl (y_moveV rfl rfl) ?_
    refine al_y rfl rfl (y_indexAddr rfl rfl rfl slc22 (by omega) (spn_at hls) spn_len) ?_
    refine al_y rfl rfl (y_loadN rfl rfl ty130 (by exact Nat.le_of_ble_eq_true rfl)) ?_
    refine al_pair  rfl rfl rfl rfl rfl rfl rfl zv130 ty130 rfl (by rfl) (cE_agg rfl) rfl ?_
    refine al_nil ?_
    refine qt_normal ?_
    refine ac_seq ?_
    refine ac_region ?_
    refine al_y rfl rfl (y_moveP rfl rfl) ?_
    refine al_y rfl rfl (y_moveV rfl rfl) ?_
    refine al_y rfl rfl (y_loadN rfl rfl ty130 (by exact Nat.le_of_ble_eq_true rfl)) ?_
    refine al_y rfl rfl (y_callV (av := [_, _]) rfl rfl ⟨rfl, rfl, trivial⟩ (hF.out _ _)) ?_
    refine al_y rfl rfl (y_not rfl rfl) ?_
    refine al_nil ?_
    refine qt_normal ?_
    refine ac_cond rfl (fun h2 => ?_) (fun h2 => ?_)
    ·
     have hb : h l[k] s[k] = false := by simpa using h2
     refine ac_seq ?_
     refine ac_region ?_
     refine al_y rfl rfl (y_assignV rfl rfl) ?_
     refine al_nil ?_
     refine qt_normal ?_
     refine ac_ret ?_
     refine qb_ret ?_
     refine qt_ret ?_
     refine qt_ret ?_
     refine qb_ret ?_
     refine qt_ret ?_
     exact ⟨.inr rfl, AVle.of (by simp only [eqF, hle, decide_true, Bool.true_and, zip_all_no hlt hls hb])⟩
    ·
     have hb : h l[k] s[k] = true := by simpa using h2
     refine ac_skip ?_
     refine qb_normal ?_
     refine qt_normal ?_
     refine ac_region ?_
     refine al_y rfl rfl (y_add rfl rfl rfl ⟨(by omega), (by omega)⟩) ?_
     refine al_y rfl rfl (y_moveV rfl rfl) ?_
     refine al_nil ?_
     exact ⟨⟨k + 1, by omega, zip_all_take hk.2 hlt hls hb⟩, by dsimp only; omega, weak_frM _ ⟨rfl, rfl, rfl, rfl, rfl, trivial⟩ (rfl)⟩
   ·
    have hge : l.length ≤ k := by simpa using h1
    refine ac_exit ?_
    refine qt_exit ?_
    refine qt_exit ?_
    refine qb_exit ?_
    refine qt_normal ?_
    refine ac_seq ?_
    refine ac_region ?_
    refine al_y rfl rfl (y_assignV rfl rfl) ?_
    refine al_nil ?_
    refine qt_normal ?_
    refine ac_ret ?_
    exact ⟨.inr rfl, AVle.of (by rw [List.take_of_length_le (by simp; omega)] at hk; simp only [eqF, hle, decide_true, Bool.true_and, hk.2])⟩

theorem f117 (c : Cod) (m : List Int) (hm : m.length ≤ 1000) : ACall Tryz.prog G 117 [.agg (eCod c), eInts m] (.v (.bool (msgB c m))) := by
 refine acall_of Tryz.func117 rfl (by kernel_rfl) rfl ?_
 refine ac_seq ?_
 refine ac_region ?_
 refine al_y rfl rfl (y_box rfl (cE_agg rfl)) ?_
 refine al_y rfl rfl (y_assignV rfl rfl) ?_
 refine al_nil ?_
 refine qt_normal ?_
 refine ac_seq ?_
 refine ac_region ?_
 refine al_y rfl rfl (y_moveP rfl rfl) ?_
 refine al_y rfl rfl (y_fieldAddr rfl rfl fld25_0) ?_
 refine al_y rfl rfl (y_load1 rfl rfl rfl ty22) ?_
 refine al_y rfl rfl (y_callF (av := [_, _, _]) rfl ⟨rfl, rfl, rfl, trivial⟩ (f149 m c.fields (fun n p => inB n p.1 p.2) 150 [] [] hm (fun n p => f150 n p))) ?_
 refine al_y rfl rfl (y_assignV rfl rfl) ?_
 refine al_nil ?_
 refine qt_normal ?_
 refine ac_ret ?_
 exact ⟨.inr rfl, AVle.refl _⟩

theorem f31 (c : Cod) (hc : c.fields.length ≤ 1000 ∧ c.turns.length ≤ 1000) : ACall Tryz.prog G 31 [.agg (eCod c)] (.v (.bool (codB c))) := by
 refine acall_of Tryz.func31 rfl (by kernel_rfl) rfl ?_
 refine ac_seq ?_
 refine ac_region ?_
 refine al_y rfl rfl (y_box rfl (cE_agg rfl)) ?_
 refine al_y rfl rfl (y_assignV rfl rfl) ?_
 refine al_nil ?_
 refine qt_normal ?_
 refine ac_seq ?_
 refine ac_seq ?_
 refine ac_region ?_
 refine al_y rfl rfl (y_assignV rfl rfl) ?_
 refine al_nil ?_
 refine qt_normal ?_
 refine ac_block ?_
 refine ac_loop (ι := { k : Nat // k ≤ c.fields.length ∧ (c.fields.take k).any badS = false }) (fun k => ⟨Tryz.f31.ntmps, frL [(1, .pub (.ptr (eCod c))), (3, I (k.1 : Int))], []⟩) (fun k => c.fields.length - k.1) (⟨0, by simp⟩) ?_ ?_
 ·
  exact weak_frM _ ⟨rfl, rfl, trivial⟩ (rfl)
 ·
  rintro ⟨k, hk⟩
  dsimp only
  refine ac_seq ?_
  refine ac_seq ?_
  refine ac_region ?_
  refine al_y rfl rfl (y_moveV rfl rfl) ?_
  refine al_y rfl rfl (y_fieldAddr rfl rfl fld25_0) ?_
  refine al_y rfl rfl (y_load1 rfl rfl rfl ty22) ?_
  refine al_y rfl rfl (y_len rfl rfl rfl Tryz.underlying22) ?_
  refine al_y rfl rfl (y_lss rfl rfl rfl) ?_
  refine al_nil ?_
  refine qt_normal ?_
  refine ac_cond rfl (fun h0 => ?_) (fun h0 => ?_)
  ·
   have hlt : k < c.fields.length := by simpa using h0
   refine ac_skip ?_
   refine qt_normal ?_
   refine ac_seq ?_
   refine ac_block ?_
   refine ac_seq ?_
   refine ac_region ?_
   refine al_y rfl rfl (y_fieldAddr rfl rfl fld25_0) ?_
   refine al_y rfl rfl (y_load1 rfl rfl rfl ty22) ?_
   refine al_y rfl rfl (y_moveV rfl rfl) ?_
   refine al_y rfl rfl (y_indexAddr rfl rfl rfl slc22 (by omega) (spn_at hlt) spn_len) ?_
   refine al_y rfl rfl (y_loadN rfl rfl ty130 (by exact Nat.le_of_ble_eq_true rfl)) ?_
   refine al_pair  rfl rfl rfl rfl rfl rfl rfl zv130 ty130 rfl (by rfl) (cE_agg rfl) rfl ?_
   refine al_nil ?_
   refine qt_normal ?_
   refine ac_seq ?_
   refine ac_region ?_
   refine al_y rfl rfl (y_fieldAddr rfl rfl fld130_0) ?_
   refine al_y rfl rfl (y_load1 rfl rfl rfl ty3) ?_
   refine al_y rfl rfl (y_lss rfl rfl rfl) ?_
   refine al_y rfl rfl (y_moveV rfl rfl) ?_
   refine al_maybe rfl rfl rfl (fun hg => y_fieldAddr rfl rfl fld130_0) ?_
   refine al_maybe rfl rfl rfl (fun hg => y_load1 rfl (if_pos hg) rfl ty3) ?_
   refine al_maybe rfl rfl rfl (fun hg => y_fieldAddr rfl rfl fld130_1) ?_
   refine al_maybe rfl rfl rfl (fun hg => y_load1 rfl (if_pos hg) rfl ty3) ?_
   refine al_maybe rfl rfl rfl (fun hg => y_gtr rfl (if_pos hg) (if_pos hg)) ?_
   refine al_y rfl rfl (y_or rfl rfl rfl rfl) ?_
   refine al_y rfl rfl (y_moveV rfl rfl) ?_
   refine al_maybe rfl rfl rfl (fun hg => y_fieldAddr rfl rfl fld130_1) ?_
   refine al_maybe rfl rfl rfl (fun hg => y_load1 rfl (if_pos hg) rfl ty3) ?_
   refine al_maybe rfl rfl rfl (fun hg => y_gtr rfl (if_pos hg) rfl) ?_
   refine al_y rfl rfl (y_or rfl rfl rfl rfl) ?_
   refine al_nil ?_
   refine qt_normal ?_
   refine ac_cond rfl (fun h1 => ?_) (fun h1 => ?_)
   ·
    have hb : badS c.fields[k] = true := by simp [badS] at h1 ⊢; omega
    refine ac_seq ?_
    refine ac_region ?_
    refine al_y rfl rfl (y_assignV rfl rfl) ?_
    refine al_nil ?_
    refine qt_normal ?_
    refine ac_ret ?_
    refine qb_ret ?_
    refine qt_ret ?_
    refine qt_ret ?_
    refine qb_ret ?_
    refine qt_ret ?_
    exact ⟨.inr rfl, AVle.of (by simp only [codB, List.any_eq_true.2 ⟨_, List.getElem_mem hlt, hb⟩, Bool.not_true, Bool.and_false, Bool.false_and])⟩
   ·
    have hb : badS c.fields[k] = false := by simp [badS] at h1 ⊢; omega
    refine ac_skip ?_
    refine qb_normal ?_
    refine qt_normal ?_
    refine ac_region ?_
    refine al_y rfl rfl (y_moveV rfl rfl) ?_
    refine al_y rfl rfl (y_add rfl rfl rfl ⟨(by omega), (by omega)⟩) ?_
    refine al_y rfl rfl (y_assignV rfl rfl) ?_
    refine al_nil ?_
    exact ⟨⟨k + 1, by omega, any_takeG hk.2 hlt hb⟩, by dsimp only; omega, weak_frM _ ⟨rfl, rfl, trivial⟩ (rfl)⟩
  ·
   have hge : c.fields.length ≤ k := by simpa using h0
   refine ac_exit ?_
   refine qt_exit ?_
   refine qt_exit ?_
   refine qb_exit ?_
   refine qt_normal ?_
   refine ac_seq ?_
   refine ac_seq ?_
   refine ac_region ?_
   refine al_y rfl rfl (y_assignV rfl rfl) ?_
   refine al_nil ?_
   refine qt_normal ?_
   refine ac_block ?_
   refine ac_loop (ι := { j : Nat // j ≤ c.turns.length ∧ (c.turns.take j).any badT = false }) (fun j => ⟨Tryz.f31.ntmps, frL [(1, .pub (.ptr (eCod c))), (5, I (j.1 : Int))], []⟩) (fun j => c.turns.length - j.1) (⟨0, by simp⟩) ?_ ?_
   ·
    exact weak_frM _ ⟨rfl, rfl, trivial⟩ (rfl)
   ·
    rintro ⟨j, hj⟩
    dsimp only
    refine ac_seq ?_
    refine ac_seq ?_
    refine ac_region ?_
    refine al_y rfl rfl (y_moveV rfl rfl) ?_
    refine al_y rfl rfl (y_fieldAddr rfl rfl fld25_1) ?_
    refine al_y rfl rfl (y_load1 rfl rfl rfl ty23) ?_
    refine al_y rfl rfl (y_len rfl rfl rfl Tryz.underlying23) ?_
    refine al_y rfl rfl (y_lss rfl rfl rfl) ?_
    refine al_nil ?_
    refine qt_normal ?_
    refine ac_cond rfl (fun h2 => ?_) (fun h2 => ?_)
    ·
     have hlt2 : j < c.turns.length := by simpa [eInts] using h2
     refine ac_skip ?_
     refine qt_normal ?_
     refine ac_seq ?_
     refine ac_block ?_
     refine ac_seq ?_
     refine ac_region ?_
     refine al_y rfl rfl (y_fieldAddr rfl rfl fld25_1) ?_
     refine al_y rfl rfl (y_load1 rfl rfl rfl ty23) ?_
     refine al_y rfl rfl (y_moveV rfl rfl) ?_
     refine al_y rfl rfl (y_indexAddr rfl rfl rfl slc23 (by omega) (int_at hlt2) int_len) ?_
     refine al_y rfl rfl (y_load1 rfl rfl rfl ty3) ?_
     refine al_y rfl rfl (y_callF (av := [_, _, _]) rfl ⟨rfl, rfl, rfl, trivial⟩ (f93 _ _ _)) ?_
     refine al_y rfl rfl (y_not rfl rfl) ?_
     refine al_nil ?_
     refine qt_normal ?_
     refine ac_cond rfl (fun h3 => ?_) (fun h3 => ?_)
     ·
      have hb2 : badT c.turns[j] = true := by simpa [badT] using h3
      refine ac_seq ?_
      refine ac_region ?_
      refine al_y rfl rfl (y_assignV rfl rfl) ?_
      refine al_nil ?_
      refine qt_normal ?_
      refine ac_ret ?_
      refine qb_ret ?_
      refine qt_ret ?_
      refine qt_ret ?_
      refine qb_ret ?_
      refine qt_ret ?_
      exact ⟨.inr rfl, AVle.of (by simp only [codB, List.any_eq_true.2 ⟨_, List.getElem_mem hlt2, hb2⟩, Bool.not_true, Bool.and_false])⟩
     ·
      have hb2 : badT c.turns[j] = false := by simpa [badT] using h3
      refine ac_skip ?_
      refine qb_normal ?_
      refine qt_normal ?_
      refine ac_region ?_
      refine al_y rfl rfl (y_moveV rfl rfl) ?_
      refine al_y rfl rfl (y_add rfl rfl rfl ⟨(by omega), (by omega)⟩) ?_
      refine al_y rfl rfl (y_assignV rfl rfl) ?_
      refine al_nil ?_
      exact ⟨⟨j + 1, by omega, any_takeG hj.2 hlt2 hb2⟩, by dsimp only; omega, weak_frM _ ⟨rfl, rfl, trivial⟩ (rfl)⟩
    ·
     have hge2 : c.turns.length ≤ j := by simpa [eInts] using h2
     refine ac_exit ?_
     refine qt_exit ?_
     refine qt_exit ?_
     refine qb_exit ?_
     refine qt_normal ?_
     refine ac_seq ?_
     refine ac_region ?_
     refine al_y rfl rfl (y_fieldAddr rfl rfl fld25_0) ?_
     refine al_y rfl rfl (y_load1 rfl rfl rfl ty22) ?_
     refine al_y rfl rfl (y_len rfl rfl rfl Tryz.underlying22) ?_
     refine al_y rfl rfl (y_callF (av := [_, _, _]) rfl ⟨rfl, rfl, rfl, trivial⟩ (f93 _ _ _)) ?_
     refine al_y rfl rfl (y_moveV rfl rfl) ?_
     refine al_maybe rfl rfl rfl (fun hg => y_fieldAddr rfl rfl fld25_1) ?_
     refine al_maybe rfl rfl rfl (fun hg => y_load1 rfl (if_pos hg) rfl ty23) ?_
     refine al_maybe rfl rfl rfl (fun hg => y_len rfl rfl (if_pos hg) Tryz.underlying23) ?_
     refine al_maybe rfl rfl rfl (fun hg => y_eql rfl (if_pos hg) rfl) ?_
     refine al_y rfl rfl (y_and rfl rfl rfl rfl) ?_
     refine al_y rfl rfl (y_moveV rfl rfl) ?_
     refine al_maybe rfl rfl rfl (fun hg => y_fieldAddr rfl rfl fld25_2) ?_
     refine al_maybe rfl rfl rfl (fun hg => y_load1 rfl (if_pos hg) rfl ty3) ?_
     refine al_maybe rfl rfl rfl (fun hg => y_callF (av := [_, _, _]) rfl ⟨((if_pos hg)), rfl, rfl, trivial⟩ (f93 _ _ _)) ?_
     refine al_y rfl rfl (y_and rfl rfl rfl rfl) ?_
     refine al_y rfl rfl (y_assignV rfl rfl) ?_
     refine al_nil ?_
     refine qt_normal ?_
     refine ac_ret ?_
     exact ⟨.inr rfl, AVle.of (by rw [List.take_of_length_le hge] at hk; rw [List.take_of_length_le hge2] at hj; simp [codB, hk.2, hj.2, eInts])⟩

theorem f32 (c : Cod) (m : List Int) (hm : m.length ≤ 1000) : ACall Tryz.prog G 32 [.agg (eCod c), eInts m] (.v (.bool (msgB c m))) := by
 refine acall_of Tryz.func32 rfl (by kernel_rfl) rfl ?_
 refine ac_seq ?_
 refine ac_region ?_
 refine al_y rfl rfl (y_box rfl (cE_agg rfl)) ?_
 refine al_y rfl rfl (y_assignV rfl rfl) ?_
 refine al_nil ?_
 refine qt_normal ?_
 refine ac_seq ?_
 refine ac_seq ?_
 refine ac_region ?_
 refine al_y rfl rfl (y_moveP rfl rfl) ?_
 refine al_y rfl rfl (y_len rfl rfl rfl Tryz.underlying23) ?_
 refine al_y rfl rfl (y_fieldAddr rfl rfl fld25_0) ?_
 refine al_y rfl rfl (y_load1 rfl rfl rfl ty22) ?_
 refine al_y rfl rfl (y_len rfl rfl rfl Tryz.underlying22) ?_
 refine al_y rfl rfl (y_neq rfl rfl rfl) ?_
 refine al_nil ?_
 refine qt_normal ?_
 refine ac_cond rfl (fun h0 => ?_) (fun h0 => ?_)
 ·
  have hne : m.length ≠ c.fields.length := by simp [eInts] at h0; omega
  refine ac_seq ?_
  refine ac_region ?_
  refine al_y rfl rfl (y_assignV rfl rfl) ?_
  refine al_nil ?_
  refine qt_normal ?_
  refine ac_ret ?_
  refine qt_ret ?_
  exact ⟨.inr rfl, AVle.of (by simp [msgB, eqF, hne])⟩
 ·
  have hle : m.length = c.fields.length := by simp [eInts] at h0; omega
  refine ac_skip ?_
  refine qt_normal ?_
  refine ac_seq ?_
  refine ac_seq ?_
  refine ac_region ?_
  refine al_y rfl rfl (y_assignV rfl rfl) ?_
  refine al_nil ?_
  refine qt_normal ?_
  refine ac_block ?_
  refine ac_loop (ι := { k : Nat // k ≤ m.length ∧ ((m.zip c.fields).take k).all (fun p => (fun n p => inB n p.1 p.2) p.1 p.2) = true }) (fun k => ⟨Tryz.f32.ntmps, frL [(1, .pub (eInts m)), (2, .pub (.ptr (eCod c))), (5, I (k.1 : Int))], []⟩) (fun k => m.length - k.1) (⟨0, by simp⟩) ?_ ?_
  ·
   exact weak_frM _ ⟨rfl, rfl, rfl, trivial⟩ (rfl)
  ·
   rintro ⟨k, hk⟩
   dsimp only
   refine ac_seq ?_
   refine ac_seq ?_
   refine ac_region ?_
   refine al_y rfl rfl (y_moveV rfl rfl) ?_
   refine al_y rfl rfl (y_moveP rfl rfl) ?_
   refine al_y rfl rfl (y_len rfl rfl rfl Tryz.underlying23) ?_
   refine al_y rfl rfl (y_lss rfl rfl rfl) ?_
   refine al_nil ?_
   refine qt_normal ?_
   refine ac_cond rfl (fun h1 => ?_) (fun h1 => ?_)
   ·
    have hlt : k < m.length := by simpa [eInts] using h1
    have hls : k < c.fields.length := by omega
    refine ac_skip ?_
    refine qt_normal ?_
    refine ac_seq ?_
    refine ac_block ?_
    refine ac_seq ?_
    refine ac_draw mixed (by kernel_rfl) rfl ?_
    refine aq_y rfl (y_moveP rfl rfl) ?_
    refine aq_y rfl (y_moveV rfl rfl) ?_
    refine aq_y rfl (y_indexAddr rfl rfl rfl slc23 (by omega) (int_at hlt) int_len) ?_
    refine aq_y rfl (y_load1 rfl rfl rfl ty3) ?_
    refine aq_y rfl (y_fieldAddr rfl rfl fld25_0) ?_
    refine aq_y rfl (y_load1 rfl rfl rfl ty22) ?_
    refine aq_y rfl (y_moveV rfl rfl) ?_
    refine aq_y rfl (y_indexAddr rfl rfl rfl slc22 (by omega) (spn_at hls) spn_len) ?_
    refine aq_y rfl (y_fieldAddr rfl rfl fld130_0) ?_
    refine aq_y rfl (y_load1 rfl rfl rfl ty3) ?_
    refine aq_y rfl (y_fieldAddr rfl rfl fld25_0) ?_
    refine aq_y rfl (y_load1 rfl rfl rfl ty22) ?_
    refine aq_y rfl (y_moveV rfl rfl) ?_
    refine aq_y rfl (y_indexAddr rfl rfl rfl slc22 (by omega) (spn_at hls) spn_len) ?_
    refine aq_y rfl (y_fieldAddr rfl rfl fld130_1) ?_
    refine aq_y rfl (y_load1 rfl rfl rfl ty3) ?_
    refine aq_y rfl (y_callF (av := [_, _, _]) rfl ⟨rfl, rfl, rfl, trivial⟩ (f93 _ _ _)) ?_
    refine aq_y rfl (y_not rfl rfl) ?_
    refine aq_nil ?_
    refine qt_normal ?_
    refine ac_cond rfl (fun h2 => ?_) (fun h2 => ?_)
    ·
     have hb : inB m[k] c.fields[k].1 c.fields[k].2 = false := by simpa using h2
     refine ac_seq ?_
     refine ac_region ?_
     refine al_y rfl rfl (y_assignV rfl rfl) ?_
     refine al_nil ?_
     refine qt_normal ?_
     refine ac_ret ?_
     refine qb_ret ?_
     refine qt_ret ?_
     refine qt_ret ?_
     refine qb_ret ?_
     refine qt_ret ?_
     exact ⟨.inr rfl, AVle.of (by simp only [msgB, eqF, hle, decide_true, Bool.true_and]; rw [zip_all_no (h := fun n p => inB n p.1 p.2) hlt hls hb])⟩
    ·
     have hb : inB m[k] c.fields[k].1 c.fields[k].2 = true := by simpa using h2
     refine ac_skip ?_
     refine qb_normal ?_
     refine qt_normal ?_
     refine ac_region ?_
     refine al_y rfl rfl (y_moveV rfl rfl) ?_
     refine al_y rfl rfl (y_add rfl rfl rfl ⟨(by omega), (by omega)⟩) ?_
     refine al_y rfl rfl (y_assignV rfl rfl) ?_
     refine al_nil ?_
     exact ⟨⟨k + 1, by omega, zip_all_take (h := fun n p => inB n p.1 p.2) hk.2 hlt hls hb⟩, by dsimp only; omega, weak_frM _ ⟨rfl, rfl, rfl, trivial⟩ (rfl)⟩
   ·
    have hge : m.length ≤ k := by simpa [eInts] using h1
    refine ac_exit ?_
    refine qt_exit ?_
    refine qt_exit ?_
    refine qb_exit ?_
    refine qt_normal ?_
    refine ac_seq ?_
    refine ac_region ?_
    refine al_y rfl rfl (y_assignV rfl rfl) ?_
    refine al_nil ?_
    refine qt_normal ?_
    refine ac_ret ?_
    exact ⟨.inr rfl, AVle.of (by rw [List.take_of_length_le (by simp; omega)] at hk; simp only [msgB, eqF, hle, decide_true, Bool.true_and]; rw [hk.2])⟩
end Go.Av
end
