/- Facts on the types of the program. · The small functions of the charts. · Bounds in the chart. -/
import Derived.Test.YtdjncbjfejdamaaGreatDoorPlatE
import Derived.Test.YtdjncbjfejdamaaGreatDoorChecked
set_option linter.unusedVariables false
set_option linter.unusedSimpArgs false
section
namespace Go.Av
open Go.Proofs
set_option maxRecDepth 100000
theorem mixed : Tryz.prog.follows .mixedOrders = true := by kernel_rfl
theorem fld24_0 : fldIs Tryz.prog 24 0 0 = true := by kernel_rfl
theorem ty3 : tyIs Tryz.prog 3 false 1 = true := by kernel_rfl
theorem fld24_1 : fldIs Tryz.prog 24 1 1 = true := by kernel_rfl
theorem fld24_2 : fldIs Tryz.prog 24 2 2 = true := by kernel_rfl
theorem fld24_3 : fldIs Tryz.prog 24 3 3 = true := by kernel_rfl
theorem ty22 : tyIs Tryz.prog 22 false 1 = true := by kernel_rfl
theorem slc22 : slcIs Tryz.prog 22 3 = true := by kernel_rfl
theorem ty78 : tyIs Tryz.prog 78 true 3 = true := by kernel_rfl
theorem zv78 : (Tryz.prog.info? 78).bind (·.zero) = some (.agg #[.int .i64 0, .int .i64 0, .int .i64 0]) := by kernel_rfl
theorem ty24 : tyIs Tryz.prog 24 true 4 = true := by kernel_rfl
theorem fld78_0 : fldIs Tryz.prog 78 0 0 = true := by kernel_rfl
theorem fld78_1 : fldIs Tryz.prog 78 1 1 = true := by kernel_rfl
theorem fld76_0 : fldIs Tryz.prog 76 0 0 = true := by kernel_rfl
theorem fld76_1 : fldIs Tryz.prog 76 1 1 = true := by kernel_rfl
theorem zv76 : (Tryz.prog.info? 76).bind (·.zero) = some (.agg #[.int .i64 0, .int .i64 0]) := by kernel_rfl
theorem st76 : structIs Tryz.prog 76 [(0, 1), (1, 1)] [.int .i64 0, .int .i64 0] := ⟨_, Tryz.underlying76, by kernel_rfl, by kernel_rfl⟩
theorem ty76 : tyIs Tryz.prog 76 true 2 = true := by kernel_rfl
theorem slc27 : slcIs Tryz.prog 27 1 = true := by kernel_rfl
theorem ti3 : Tryz.prog.info? 3 = some Tryz.t3 := by kernel_rfl
theorem fld99_0 : fldIs Tryz.prog 99 0 0 = true := by kernel_rfl
theorem ty99 : tyIs Tryz.prog 99 true 2 = true := by kernel_rfl
theorem fld101_0 : fldIs Tryz.prog 101 0 0 = true := by kernel_rfl
theorem fld101_1 : fldIs Tryz.prog 101 1 4 = true := by kernel_rfl
theorem zv105 : (Tryz.prog.info? 105).bind (·.zero) = some (.agg #[.slice none 0 0, .slice none 0 0]) := by kernel_rfl
theorem ty101 : tyIs Tryz.prog 101 true 6 = true := by kernel_rfl
theorem az162 : arrayIs Tryz.prog 162 1 [.nilFunc, .nilFunc] := ⟨_, _, Tryz.t161, Tryz.underlying162, by kernel_rfl, by kernel_rfl, by kernel_rfl⟩
theorem arr162 : arrIs Tryz.prog 162 2 1 = true := by kernel_rfl
theorem ty161 : tyIs Tryz.prog 161 false 1 = true := by kernel_rfl
theorem arr105 : arrIs Tryz.prog 105 2 1 = true := by kernel_rfl
theorem ty27 : tyIs Tryz.prog 27 false 1 = true := by kernel_rfl
theorem el27 : elemIs Tryz.prog 27 3 1 8 := ⟨Tryz.underlying27, Tryz.t3, _, by kernel_rfl, rfl, rfl, rfl, rfl, by decide⟩
theorem ty105 : tyIs Tryz.prog 105 true 2 = true := by kernel_rfl
theorem zv101 : (Tryz.prog.info? 101).bind (·.zero) = some (.agg #[.int .i64 0, .int .i64 0, .int .i64 0, .slice none 0 0, .int .i64 0, .int .i64 0]) := by kernel_rfl
theorem st99 : structIs Tryz.prog 99 [(0, 1), (1, 1)] [.int .i64 0, .int .i64 0] := ⟨_, Tryz.underlying99, by kernel_rfl, by kernel_rfl⟩
theorem st101 : structIs Tryz.prog 101 [(0, 4), (4, 2)] [.int .i64 0, .int .i64 0, .int .i64 0, .slice none 0 0, .int .i64 0, .int .i64 0] := ⟨_, Tryz.underlying101, by kernel_rfl, by kernel_rfl⟩
theorem zv29 : (Tryz.prog.info? 29).bind (·.zero) = some (.agg #[.int .i64 0, .slice none 0 0]) := by kernel_rfl
theorem st29 : structIs Tryz.prog 29 [(0, 1), (1, 1)] [.int .i64 0, .slice none 0 0] := ⟨_, Tryz.underlying29, by kernel_rfl, by kernel_rfl⟩
theorem ty29 : tyIs Tryz.prog 29 true 2 = true := by kernel_rfl
theorem fld29_1 : fldIs Tryz.prog 29 1 1 = true := by kernel_rfl
theorem ti76 : Tryz.prog.info? 76 = some Tryz.t76 := by kernel_rfl
theorem el79 : elemIs Tryz.prog 79 76 2 16 := ⟨Tryz.underlying79, Tryz.t76, _, by kernel_rfl, rfl, rfl, rfl, rfl, by decide⟩
theorem slc79 : slcIs Tryz.prog 79 2 = true := by kernel_rfl
theorem fld29_0 : fldIs Tryz.prog 29 0 0 = true := by kernel_rfl
theorem zv30 : (Tryz.prog.info? 30).bind (·.zero) = some (.int .i64 0) := by kernel_rfl
theorem ty30 : tyIs Tryz.prog 30 false 1 = true := by kernel_rfl
theorem ti9 : Tryz.prog.info? 9 = some Tryz.t9 := by kernel_rfl
theorem el156 : elemIs Tryz.prog 156 9 1 16 := ⟨Tryz.underlying156, Tryz.t9, _, by kernel_rfl, rfl, rfl, rfl, rfl, by decide⟩
theorem slc150 : slcIs Tryz.prog 150 1 = true := by kernel_rfl
theorem st153 : structIs Tryz.prog 153 [(0, 1)] [.string ⟨#[]⟩] := ⟨_, Tryz.underlying153, by kernel_rfl, by kernel_rfl⟩
theorem ti27 : Tryz.prog.info? 27 = some Tryz.t27 := by kernel_rfl
theorem el150 : elemIs Tryz.prog 150 27 1 24 := ⟨Tryz.underlying150, Tryz.t27, _, by kernel_rfl, rfl, rfl, rfl, rfl, by decide⟩
theorem slc156 : slcIs Tryz.prog 156 1 = true := by kernel_rfl
theorem ty9 : tyIs Tryz.prog 9 false 1 = true := by kernel_rfl
theorem zv153 : (Tryz.prog.info? 153).bind (·.zero) = some (.agg #[.string ⟨#[]⟩]) := by kernel_rfl
theorem ty153 : tyIs Tryz.prog 153 true 1 = true := by kernel_rfl
end Go.Av
end

section
namespace Go.Av
open Go.Proofs
set_option maxRecDepth 100000
set_option maxHeartbeats 1000000
set_option linter.unusedSimpArgs false
variable {G : Glob}

/-- A station, a map, a field, as data; and as cells. -/
structure Stn where
  pt : Int
  lo : Int
  hi : Int
structure Mp where
  wide : Int
  rows : Int
  slope : Int
  st : List Stn
structure Fld where
  wide : Int
  vals : List Int
def ei (n : Int) : AV := .v (.int .i64 n)
def eStn (s : Stn) : List AV := [.v (.int .i64 s.pt), .v (.int .i64 s.lo), .v (.int .i64 s.hi)]
def eMp (m : Mp) : List AV := [.v (.int .i64 m.wide), .v (.int .i64 m.rows), .v (.int .i64 m.slope), .sl (m.st.map eStn)]
def eInts (l : List Int) : AV := .sl (l.map fun n => [.v (.int .i64 n)])
def eFld (f : Fld) : List AV := [.v (.int .i64 f.wide), eInts f.vals]
def inB (x lo hi : Int) : Bool := decide (lo ≤ x) && decide (x ≤ hi)
def absd (a b : Int) : Int := max (a - b) (b - a)
def dist (w a b : Int) : Int := absd (a / w) (b / w) + absd (a % w) (b % w)
theorem inB_iff {x lo hi : Int} : inB x lo hi = true ↔ lo ≤ x ∧ x ≤ hi := by simp [inB]
theorem dm {a w N : Int} (hw : 1 ≤ w) (ha : 0 ≤ a ∧ a ≤ N) : 0 ≤ a / w ∧ a / w ≤ N ∧ 0 ≤ a % w ∧ a % w < w :=
  ⟨Int.ediv_nonneg ha.1 (by omega), Int.le_trans (Int.ediv_le_self _ ha.1) ha.2, Int.emod_nonneg _ (by omega), Int.emod_lt_of_pos _ (by omega)⟩
theorem absd_bd {a b N : Int} (ha : 0 ≤ a ∧ a ≤ N) (hb : 0 ≤ b ∧ b ≤ N) : 0 ≤ absd a b ∧ absd a b ≤ N := by unfold absd; omega
theorem dist_bd {w a b N : Int} (hw : 1 ≤ w) (ha : 0 ≤ a ∧ a ≤ N) (hb : 0 ≤ b ∧ b ≤ N) : 0 ≤ dist w a b ∧ dist w a b ≤ N + w := by
  have h1 := dm hw ha
  have h2 := dm hw hb
  have h3 := absd_bd (N := N) ⟨h1.1, h1.2.1⟩ ⟨h2.1, h2.2.1⟩
  have h4 := absd_bd (N := w) ⟨h1.2.2.1, by omega⟩ ⟨h2.2.2.1, by omega⟩
  unfold dist; omega
theorem row_at {l : List Stn} {k : Nat} (h : k < l.length) : (l.map eStn)[k]? = some (eStn l[k]) := by simp [h]
theorem stn_len {l : List Stn} : ∀ q ∈ l.map eStn, q.length = 3 := by simp [eStn]
theorem int_at {l : List Int} {k : Nat} (h : k < l.length) : (l.map fun n => [AV.v (.int .i64 n)])[k]? = some [.v (.int .i64 l[k])] := by simp [h]
theorem int_len {l : List Int} : ∀ q ∈ l.map (fun n => [AV.v (.int .i64 n)]), q.length = 1 := by simp

/-- isobarref03.in -/
theorem f78 (x lo hi : Int) : ACall Tryz.prog G 78 [.v (.int .i64 x), .v (.int .i64 lo), .v (.int .i64 hi)] (.v (.bool (inB x lo hi))) := by
  refine acall_of Tryz.func78 rfl (by kernel_rfl) rfl ?_
  refine ac_seq ?_
  refine ac_region ?_
  refine al_y rfl rfl (y_assignV rfl rfl) ?_
  refine al_nil ?_
  refine qt_normal ?_
  refine ac_seq ?_
  refine ac_region ?_
  refine al_y rfl rfl (y_moveV rfl rfl) ?_
  refine al_y rfl rfl (y_moveV rfl rfl) ?_
  refine al_y rfl rfl (y_geq rfl rfl rfl) ?_
  refine al_y rfl rfl (y_moveV rfl rfl) ?_
  refine al_maybe rfl rfl rfl (fun hg => y_moveV rfl rfl) ?_
  refine al_maybe rfl rfl rfl (fun hg => y_moveV rfl rfl) ?_
  refine al_maybe rfl rfl rfl (fun hg => y_leq rfl (if_pos hg) (if_pos hg)) ?_
  refine al_y rfl rfl (y_and rfl rfl rfl rfl) ?_
  refine al_y rfl rfl (y_assignV rfl rfl) ?_
  refine al_nil ?_
  refine qt_normal ?_
  refine ac_ret ?_
  exact ⟨.inr rfl, AVle.refl _⟩

/-- chart.in -/
theorem f68 (x lo hi : Int) : ACall Tryz.prog G 68 [.v (.int .i64 x), .v (.int .i64 lo), .v (.int .i64 hi)] (.v (.bool (inB x lo hi))) := by
  refine acall_of Tryz.func68 rfl (by kernel_rfl) rfl ?_
  refine ac_seq ?_
  refine ac_region ?_
  refine al_y rfl rfl (y_assignV rfl rfl) ?_
  refine al_nil ?_
  refine qt_normal ?_
  refine ac_seq ?_
  refine ac_region ?_
  refine al_y rfl rfl (y_moveV rfl rfl) ?_
  refine al_y rfl rfl (y_moveV rfl rfl) ?_
  refine al_y rfl rfl (y_geq rfl rfl rfl) ?_
  refine al_y rfl rfl (y_moveV rfl rfl) ?_
  refine al_maybe rfl rfl rfl (fun hg => y_moveV rfl rfl) ?_
  refine al_maybe rfl rfl rfl (fun hg => y_moveV rfl rfl) ?_
  refine al_maybe rfl rfl rfl (fun hg => y_leq rfl (if_pos hg) (if_pos hg)) ?_
  refine al_y rfl rfl (y_and rfl rfl rfl rfl) ?_
  refine al_y rfl rfl (y_assignV rfl rfl) ?_
  refine al_nil ?_
  refine qt_normal ?_
  refine ac_ret ?_
  exact ⟨.inr rfl, AVle.refl _⟩

/-- isobarref03.far -/
theorem f95 (a b : Int) (ha : -1000000000000 ≤ a ∧ a ≤ 1000000000000) (hb : -1000000000000 ≤ b ∧ b ≤ 1000000000000) : ACall Tryz.prog G 95 [.v (.int .i64 a), .v (.int .i64 b)] (.v (.int .i64 (absd a b))) := by
  refine acall_of Tryz.func95 rfl (by kernel_rfl) rfl ?_
  refine ac_seq ?_
  refine ac_region ?_
  refine al_y rfl rfl (y_assignV rfl rfl) ?_
  refine al_nil ?_
  refine qt_normal ?_
  refine ac_seq ?_
  refine ac_region ?_
  refine al_y rfl rfl (y_moveV rfl rfl) ?_
  refine al_y rfl rfl (y_moveV rfl rfl) ?_
  refine al_y rfl rfl (y_sub rfl rfl rfl ⟨(by omega), (by omega)⟩) ?_
  refine al_y rfl rfl (y_moveV rfl rfl) ?_
  refine al_y rfl rfl (y_moveV rfl rfl) ?_
  refine al_y rfl rfl (y_sub rfl rfl rfl ⟨(by omega), (by omega)⟩) ?_
  refine al_y rfl rfl (y_max rfl rfl rfl) ?_
  refine al_y rfl rfl (y_assignV rfl rfl) ?_
  refine al_nil ?_
  refine qt_normal ?_
  refine ac_ret ?_
  exact ⟨.inr rfl, AVle.refl _⟩

/-- isobarref03.Distance -/
theorem f55 (w a b : Int) (hw : 1 ≤ w ∧ w ≤ 1000) (ha : 0 ≤ a ∧ a ≤ 100000) (hb : 0 ≤ b ∧ b ≤ 100000) : ACall Tryz.prog G 55 [.v (.int .i64 w), .v (.int .i64 a), .v (.int .i64 b)] (.v (.int .i64 (dist w a b))) := by
  have h1 := dm hw.1 ha
  have h2 := dm hw.1 hb
  have h3 := absd_bd (N := 100000) ⟨h1.1, h1.2.1⟩ ⟨h2.1, h2.2.1⟩
  have h4 := absd_bd (N := w) ⟨h1.2.2.1, by omega⟩ ⟨h2.2.2.1, by omega⟩
  refine acall_of Tryz.func55 rfl (by kernel_rfl) rfl ?_
  refine ac_seq ?_
  refine ac_region ?_
  refine al_y rfl rfl (y_assignV rfl rfl) ?_
  refine al_nil ?_
  refine qt_normal ?_
  refine ac_seq ?_
  refine ac_draw mixed (by kernel_rfl) rfl ?_
  refine aq_y rfl (y_moveV rfl rfl) ?_
  refine aq_y rfl (y_moveV rfl rfl) ?_
  refine aq_y rfl (y_quo rfl rfl rfl ⟨(by omega), (by omega), (by omega)⟩) ?_
  refine aq_y rfl (y_moveV rfl rfl) ?_
  refine aq_y rfl (y_moveV rfl rfl) ?_
  refine aq_y rfl (y_quo rfl rfl rfl ⟨(by omega), (by omega), (by omega)⟩) ?_
  refine aq_y rfl (y_callF (av := [_, _]) rfl ⟨rfl, rfl, trivial⟩ (f95 _ _ (by omega) (by omega))) ?_
  refine aq_y rfl (y_moveV rfl rfl) ?_
  refine aq_y rfl (y_moveV rfl rfl) ?_
  refine aq_y rfl (y_rem rfl rfl rfl ⟨(by omega), (by omega)⟩) ?_
  refine aq_y rfl (y_moveV rfl rfl) ?_
  refine aq_y rfl (y_moveV rfl rfl) ?_
  refine aq_y rfl (y_rem rfl rfl rfl ⟨(by omega), (by omega)⟩) ?_
  refine aq_y rfl (y_callF (av := [_, _]) rfl ⟨rfl, rfl, trivial⟩ (f95 _ _ (by omega) (by omega))) ?_
  refine aq_y rfl (y_add rfl rfl rfl ⟨(by omega), (by omega)⟩) ?_
  refine aq_y rfl (y_assignV rfl rfl) ?_
  refine aq_nil ?_
  refine qt_normal ?_
  refine ac_ret ?_
  exact ⟨.inr rfl, AVle.refl _⟩

/-- isobarref03.Value -/
theorem f79 (x : Int) : ACall Tryz.prog G 79 [.v (.int .i64 x)] (.v (.bool (inB x 0 99999))) := by
  refine acall_of Tryz.func79 rfl (by kernel_rfl) rfl ?_
  refine ac_seq ?_
  refine ac_region ?_
  refine al_y rfl rfl (y_assignV rfl rfl) ?_
  refine al_nil ?_
  refine qt_normal ?_
  refine ac_seq ?_
  refine ac_region ?_
  refine al_y rfl rfl (y_moveV rfl rfl) ?_
  refine al_y rfl rfl (y_callF (av := [_, _, _]) rfl ⟨rfl, rfl, rfl, trivial⟩ (f78 _ _ _)) ?_
  refine al_y rfl rfl (y_assignV rfl rfl) ?_
  refine al_nil ?_
  refine qt_normal ?_
  refine ac_ret ?_
  exact ⟨.inr rfl, AVle.refl _⟩

/-- isobarref03.Size -/
theorem f91 (x y : Int) : ACall Tryz.prog G 91 [.v (.int .i64 x), .v (.int .i64 y)] (.v (.bool (inB x 1 6 && inB y 1 5))) := by
  refine acall_of Tryz.func91 rfl (by kernel_rfl) rfl ?_
  refine ac_seq ?_
  refine ac_region ?_
  refine al_y rfl rfl (y_assignV rfl rfl) ?_
  refine al_nil ?_
  refine qt_normal ?_
  refine ac_seq ?_
  refine ac_region ?_
  refine al_y rfl rfl (y_moveV rfl rfl) ?_
  refine al_y rfl rfl (y_callF (av := [_, _, _]) rfl ⟨rfl, rfl, rfl, trivial⟩ (f78 _ _ _)) ?_
  refine al_y rfl rfl (y_moveV rfl rfl) ?_
  refine al_maybe rfl rfl rfl (fun hg => y_moveV rfl rfl) ?_
  refine al_maybe rfl rfl rfl (fun hg => y_callF (av := [_, _, _]) rfl ⟨((if_pos hg)), rfl, rfl, trivial⟩ (f78 _ _ _)) ?_
  refine al_y rfl rfl (y_and rfl rfl rfl rfl) ?_
  refine al_y rfl rfl (y_assignV rfl rfl) ?_
  refine al_nil ?_
  refine qt_normal ?_
  refine ac_ret ?_
  exact ⟨.inr rfl, AVle.refl _⟩

/-- isobarref03.Point -/
theorem f41 (m : Mp) (x : Int) (h1 : 1 ≤ m.wide ∧ m.wide ≤ 6) (h2 : 1 ≤ m.rows ∧ m.rows ≤ 5) : ACall Tryz.prog G 41 [.agg (eMp m), .v (.int .i64 x)] (.v (.bool (inB x 0 (m.wide * m.rows - 1)))) := by
  have h3 : 1 * 1 ≤ m.wide * m.rows := Int.mul_le_mul h1.1 h2.1 (by omega) (by omega)
  have h4 : m.wide * m.rows ≤ 6 * 5 := Int.mul_le_mul h1.2 h2.2 (by omega) (by omega)
  refine acall_of Tryz.func41 rfl (by kernel_rfl) rfl ?_
  refine ac_seq ?_
  refine ac_region ?_
  refine al_y rfl rfl (y_box rfl (cE_agg rfl)) ?_
  refine al_y rfl rfl (y_assignV rfl rfl) ?_
  refine al_nil ?_
  refine qt_normal ?_
  refine ac_seq ?_
  refine ac_region ?_
  refine al_y rfl rfl (y_moveV rfl rfl) ?_
  refine al_y rfl rfl (y_fieldAddr rfl rfl fld24_0) ?_
  refine al_y rfl rfl (y_load1 rfl rfl rfl ty3) ?_
  refine al_y rfl rfl (y_fieldAddr rfl rfl fld24_1) ?_
  refine al_y rfl rfl (y_load1 rfl rfl rfl ty3) ?_
  refine al_y rfl rfl (y_mul rfl rfl rfl ⟨(by omega), (by omega)⟩) ?_
  refine al_y rfl rfl (y_sub rfl rfl rfl ⟨(by omega), (by omega)⟩) ?_
  refine al_y rfl rfl (y_callF (av := [_, _, _]) rfl ⟨rfl, rfl, rfl, trivial⟩ (f78 _ _ _)) ?_
  refine al_y rfl rfl (y_assignV rfl rfl) ?_
  refine al_nil ?_
  refine qt_normal ?_
  refine ac_ret ?_
  exact ⟨.inr rfl, AVle.refl _⟩

def stnB (m : Mp) (s : Stn) : Bool := inB s.pt 0 (m.wide * m.rows - 1) && inB s.lo 0 99999 && inB s.hi 0 99999 && decide (s.lo ≤ s.hi)
def mapH (m : Mp) : Bool := inB m.wide 1 6 && inB m.rows 1 5 && inB m.slope 0 5000 && decide (m.st.length ≤ 12)
def mapB (m : Mp) : Bool := mapH m && m.st.all (stnB m)
theorem all_take {α : Type} {p : α → Bool} {l : List α} {k : Nat} (h : (l.take k).all p = true) (hk : k < l.length) (hp : p l[k] = true) : (l.take (k + 1)).all p = true := by
  rw [List.take_succ_eq_append_getElem hk, List.all_append, h]; simp [hp]
theorem all_no {α : Type} {p : α → Bool} {l : List α} {k : Nat} (hk : k < l.length) (hp : p l[k] = false) : l.all p = false := by
  rw [List.all_eq_false]; exact ⟨l[k], List.getElem_mem hk, by simp [hp]⟩

/-- isobarref03.Map -/
theorem f40 (m : Mp) : ACall Tryz.prog G 40 [.agg (eMp m)] (.v (.bool (mapB m))) := by
  refine acall_of Tryz.func40 rfl (by kernel_rfl) rfl ?_
  refine ac_seq ?_
  refine ac_region ?_
  refine al_y rfl rfl (y_box rfl (cE_agg rfl)) ?_
  refine al_y rfl rfl (y_assignV rfl rfl) ?_
  refine al_nil ?_
  refine qt_normal ?_
  refine ac_seq ?_
  refine ac_seq ?_
  refine ac_region ?_
  refine al_y rfl rfl (y_fieldAddr rfl rfl fld24_0) ?_
  refine al_y rfl rfl (y_load1 rfl rfl rfl ty3) ?_
  refine al_y rfl rfl (y_fieldAddr rfl rfl fld24_1) ?_
  refine al_y rfl rfl (y_load1 rfl rfl rfl ty3) ?_
  refine al_y rfl rfl (y_callF (av := [_, _]) rfl ⟨rfl, rfl, trivial⟩ (f91 _ _)) ?_
  refine al_y rfl rfl (y_not rfl rfl) ?_
  refine al_y rfl rfl (y_moveV rfl rfl) ?_
  refine al_maybe rfl rfl rfl (fun hg => y_fieldAddr rfl rfl fld24_2) ?_
  refine al_maybe rfl rfl rfl (fun hg => y_load1 rfl (if_pos hg) rfl ty3) ?_
  refine al_maybe rfl rfl rfl (fun hg => y_callF (av := [_, _, _]) rfl ⟨((if_pos hg)), rfl, rfl, trivial⟩ (f78 _ _ _)) ?_
  refine al_maybe rfl rfl rfl (fun hg => y_not rfl (if_pos hg)) ?_
  refine al_y rfl rfl (y_or rfl rfl rfl rfl) ?_
  refine al_y rfl rfl (y_moveV rfl rfl) ?_
  refine al_maybe rfl rfl rfl (fun hg => y_fieldAddr rfl rfl fld24_3) ?_
  refine al_maybe rfl rfl rfl (fun hg => y_load1 rfl (if_pos hg) rfl ty22) ?_
  refine al_maybe rfl rfl rfl (fun hg => y_len rfl rfl (if_pos hg) Tryz.underlying22) ?_
  refine al_maybe rfl rfl rfl (fun hg => y_gtr rfl (if_pos hg) rfl) ?_
  refine al_y rfl rfl (y_or rfl rfl rfl rfl) ?_
  refine al_nil ?_
  refine qt_normal ?_
  refine ac_cond rfl (fun h0 => ?_) (fun h0 => ?_)
  · skip
    have hf : mapH m = false := by cases hc : mapH m <;> simp_all [mapH, inB] <;> omega
    refine ac_seq ?_
    refine ac_region ?_
    refine al_y rfl rfl (y_assignV rfl rfl) ?_
    refine al_nil ?_
    refine qt_normal ?_
    refine ac_ret ?_
    refine qt_ret ?_
    exact ⟨.inr rfl, AVle.of (by simp [mapB, hf])⟩
  · skip
    have hh : mapH m = true := by simp [mapH, inB] at h0 ⊢; omega
    have hw : 1 ≤ m.wide ∧ m.wide ≤ 6 := by simp_all [mapH, inB]
    have hr : 1 ≤ m.rows ∧ m.rows ≤ 5 := by simp_all [mapH, inB]
    refine ac_skip ?_
    refine qt_normal ?_
    refine ac_seq ?_
    refine ac_seq ?_
    refine ac_region ?_
    refine al_y rfl rfl (y_assignV rfl rfl) ?_
    refine al_nil ?_
    refine qt_normal ?_
    refine ac_block ?_
    refine ac_loop (ι := { k : Nat // k ≤ m.st.length ∧ (m.st.take k).all (stnB m) = true }) (fun k => ⟨Tryz.f40.ntmps, frL [(1, .pub (.ptr (eMp m))), (3, I (k.1 : Int))], []⟩) (fun k => m.st.length - k.1) (⟨0, by simp⟩) ?_ ?_
    · exact weak_frM _ ⟨rfl, rfl, trivial⟩ (rfl)
    · rintro ⟨k, hk⟩
      dsimp only
      refine ac_seq ?_
      refine ac_seq ?_
      refine ac_region ?_
      refine al_y rfl rfl (y_moveV rfl rfl) ?_
      refine al_y rfl rfl (y_fieldAddr rfl rfl fld24_3) ?_
      refine al_y rfl rfl (y_load1 rfl rfl rfl ty22) ?_
      refine al_y rfl rfl (y_len rfl rfl rfl Tryz.underlying22) ?_
      refine al_y rfl rfl (y_lss rfl rfl rfl) ?_
      refine al_nil ?_
      refine qt_normal ?_
      refine ac_cond rfl (fun h1 => ?_) (fun h1 => ?_)
      · skip
        have hlt : k < m.st.length := by simpa using h1
        have hl : m.st.length ≤ 12 := by simp [mapH] at hh; omega
        refine ac_skip ?_
        refine qt_normal ?_
        refine ac_seq ?_
        refine ac_block ?_
        refine ac_seq ?_
        refine ac_region ?_
        refine al_y rfl rfl (y_fieldAddr rfl rfl fld24_3) ?_
        refine al_y rfl rfl (y_load1 rfl rfl rfl ty22) ?_
        refine al_y rfl rfl (y_moveV rfl rfl) ?_
        refine al_y rfl rfl (y_indexAddr rfl rfl rfl slc22 (by omega) (row_at hlt) stn_len) ?_
        refine al_y rfl rfl (y_loadN rfl rfl ty78 (by exact Nat.le_of_ble_eq_true rfl)) ?_
        refine al_pair  rfl rfl rfl rfl rfl rfl rfl zv78 ty78 rfl (by rfl) (cE_agg rfl) rfl ?_
        refine al_nil ?_
        refine qt_normal ?_
        refine ac_seq ?_
        refine ac_region ?_
        refine al_y rfl rfl (y_loadN rfl rfl ty24 (by exact Nat.le_of_ble_eq_true rfl)) ?_
        refine al_y rfl rfl (y_fieldAddr rfl rfl fld78_0) ?_
        refine al_y rfl rfl (y_load1 rfl rfl rfl ty3) ?_
        refine al_y rfl rfl (y_callF (av := [_, _]) rfl ⟨rfl, rfl, trivial⟩ (f41 m _ hw hr)) ?_
        refine al_y rfl rfl (y_not rfl rfl) ?_
        refine al_y rfl rfl (y_moveV rfl rfl) ?_
        refine al_maybe rfl rfl rfl (fun hg => y_fieldAddr rfl rfl fld78_1) ?_
        refine al_maybe rfl rfl rfl (fun hg => y_fieldAddr rfl (if_pos hg) fld76_0) ?_
        refine al_maybe rfl rfl rfl (fun hg => y_load1 rfl (if_pos hg) rfl ty3) ?_
        refine al_maybe rfl rfl rfl (fun hg => y_callF (av := [_]) rfl ⟨((if_pos hg)), trivial⟩ (f79 _)) ?_
        refine al_maybe rfl rfl rfl (fun hg => y_not rfl (if_pos hg)) ?_
        refine al_y rfl rfl (y_or rfl rfl rfl rfl) ?_
        refine al_y rfl rfl (y_moveV rfl rfl) ?_
        refine al_maybe rfl rfl rfl (fun hg => y_fieldAddr rfl rfl fld78_1) ?_
        refine al_maybe rfl rfl rfl (fun hg => y_fieldAddr rfl (if_pos hg) fld76_1) ?_
        refine al_maybe rfl rfl rfl (fun hg => y_load1 rfl (if_pos hg) rfl ty3) ?_
        refine al_maybe rfl rfl rfl (fun hg => y_callF (av := [_]) rfl ⟨((if_pos hg)), trivial⟩ (f79 _)) ?_
        refine al_maybe rfl rfl rfl (fun hg => y_not rfl (if_pos hg)) ?_
        refine al_y rfl rfl (y_or rfl rfl rfl rfl) ?_
        refine al_y rfl rfl (y_moveV rfl rfl) ?_
        refine al_maybe rfl rfl rfl (fun hg => y_fieldAddr rfl rfl fld78_1) ?_
        refine al_maybe rfl rfl rfl (fun hg => y_fieldAddr rfl (if_pos hg) fld76_0) ?_
        refine al_maybe rfl rfl rfl (fun hg => y_load1 rfl (if_pos hg) rfl ty3) ?_
        refine al_maybe rfl rfl rfl (fun hg => y_fieldAddr rfl rfl fld78_1) ?_
        refine al_maybe rfl rfl rfl (fun hg => y_fieldAddr rfl (if_pos hg) fld76_1) ?_
        refine al_maybe rfl rfl rfl (fun hg => y_load1 rfl (if_pos hg) rfl ty3) ?_
        refine al_maybe rfl rfl rfl (fun hg => y_gtr rfl (if_pos hg) (if_pos hg)) ?_
        refine al_y rfl rfl (y_or rfl rfl rfl rfl) ?_
        refine al_nil ?_
        refine qt_normal ?_
        refine ac_cond rfl (fun h2 => ?_) (fun h2 => ?_)
        · skip
          have hs : stnB m m.st[k] = false := by
            rw [Bool.eq_false_iff]; intro hc; simp [stnB, inB] at hc h2; omega
          refine ac_seq ?_
          refine ac_region ?_
          refine al_y rfl rfl (y_assignV rfl rfl) ?_
          refine al_nil ?_
          refine qt_normal ?_
          refine ac_ret ?_
          refine qb_ret ?_
          refine qt_ret ?_
          refine qt_ret ?_
          refine qb_ret ?_
          refine qt_ret ?_
          exact ⟨.inr rfl, AVle.of (by simp [mapB, all_no hlt hs])⟩
        · skip
          have hs : stnB m m.st[k] = true := by simp [stnB, inB] at h2 ⊢; omega
          refine ac_skip ?_
          refine qb_normal ?_
          refine qt_normal ?_
          refine ac_region ?_
          refine al_y rfl rfl (y_moveV rfl rfl) ?_
          refine al_y rfl rfl (y_add rfl rfl rfl ⟨(by omega), (by omega)⟩) ?_
          refine al_y rfl rfl (y_assignV rfl rfl) ?_
          refine al_nil ?_
          exact ⟨⟨k + 1, by omega, all_take hk.2 hlt hs⟩, by dsimp only; omega, weak_frM _ ⟨rfl, rfl, trivial⟩ (rfl)⟩
      · skip
        have hge : m.st.length ≤ k := by simpa using h1
        refine ac_exit ?_
        refine qt_exit ?_
        refine qt_exit ?_
        refine qb_exit ?_
        refine qt_normal ?_
        refine ac_seq ?_
        refine ac_region ?_
        refine al_y rfl rfl (y_assignV rfl rfl) ?_
        refine al_nil ?_
        refine qt_normal ?_
        refine ac_ret ?_
        exact ⟨.inr rfl, AVle.of (by rw [List.take_of_length_le hge] at hk; simp [mapB, hh, hk.2])⟩

def loOf (w slope : Int) (p : Int) (l : List Stn) : Int := l.foldl (fun a s => max a (s.lo - slope * dist w p s.pt)) 0
def hiOf (w slope : Int) (p : Int) (l : List Stn) : Int := l.foldl (fun a s => min a (s.hi + slope * dist w p s.pt)) 99999
def okM (m : Mp) : Prop := 1 ≤ m.wide ∧ m.wide ≤ 6 ∧ 1 ≤ m.rows ∧ m.rows ≤ 5 ∧ 0 ≤ m.slope ∧ m.slope ≤ 5000 ∧ m.st.length ≤ 12 ∧ ∀ s ∈ m.st, 0 ≤ s.pt ∧ s.pt ≤ m.wide * m.rows - 1 ∧ 0 ≤ s.lo ∧ s.lo ≤ s.hi ∧ s.hi ≤ 99999
theorem okM_iff (m : Mp) : mapB m = true ↔ okM m := by
  unfold mapB mapH okM stnB inB
  simp only [Bool.and_eq_true, decide_eq_true_eq, List.all_eq_true]
  constructor
  · rintro ⟨⟨⟨⟨h1, h2⟩, h3⟩, h4⟩, h5⟩
    refine ⟨h1.1, h1.2, h2.1, h2.2, h3.1, h3.2, h4, fun s hs => ?_⟩
    have := h5 s hs
    omega
  · rintro ⟨h1, h2, h3, h4, h5, h6, h7, h8⟩
    refine ⟨⟨⟨⟨⟨h1, h2⟩, h3, h4⟩, h5, h6⟩, h7⟩, fun s hs => ?_⟩
    have := h8 s hs
    omega
theorem area {a b : Int} (h1 : 1 ≤ a) (h2 : a ≤ 6) (h3 : 1 ≤ b) (h4 : b ≤ 5) : 1 ≤ a * b ∧ a * b ≤ 30 :=
  ⟨by have := Int.mul_le_mul h1 h3 (by omega) (by omega); omega, by have := Int.mul_le_mul h2 h4 (by omega) (by omega); omega⟩
theorem sd_bd {s d : Int} (h1 : 0 ≤ s) (h2 : s ≤ 5000) (h3 : 0 ≤ d) (h4 : d ≤ 100) : 0 ≤ s * d ∧ s * d ≤ 500000 :=
  ⟨Int.mul_nonneg h1 h3, by have := Int.mul_le_mul h2 h4 h3 (by omega); omega⟩
theorem loOf_step {w sl p : Int} {l : List Stn} {k : Nat} (h : k < l.length) : loOf w sl p (l.take (k + 1)) = max (loOf w sl p (l.take k)) (l[k].lo - sl * dist w p l[k].pt) := by
  unfold loOf; rw [List.take_succ_eq_append_getElem h, List.foldl_append]; rfl
theorem hiOf_step {w sl p : Int} {l : List Stn} {k : Nat} (h : k < l.length) : hiOf w sl p (l.take (k + 1)) = min (hiOf w sl p (l.take k)) (l[k].hi + sl * dist w p l[k].pt) := by
  unfold hiOf; rw [List.take_succ_eq_append_getElem h, List.foldl_append]; rfl
theorem foldl_inv {α β : Type} (f : β → α → β) (I : β → Prop) : ∀ (l : List α) (b : β), I b → (∀ b a, a ∈ l → I b → I (f b a)) → I (l.foldl f b)
  | [], b, h, _ => h
  | a :: l, b, h, hs => foldl_inv f I l _ (hs b a (by simp) h) (fun b x hx hb => hs b x (by simp [hx]) hb)

/-- isobarref03.Bound -/
theorem f92 (m : Mp) (p : Int) (hm : okM m) (hp : 0 ≤ p ∧ p ≤ 30) : ACall Tryz.prog G 92 [.agg (eMp m), .v (.int .i64 p)] (.agg [.v (.int .i64 (loOf m.wide m.slope p m.st)), .v (.int .i64 (hiOf m.wide m.slope p m.st))]) := by
  refine acall_of Tryz.func92 rfl (by kernel_rfl) rfl ?_
  refine ac_seq ?_
  refine ac_region ?_
  refine al_y rfl rfl (y_box rfl (cE_agg rfl)) ?_
  refine al_m rfl (m_alloc rfl rfl zv76 rfl rfl) ?_
  refine al_nil ?_
  refine qt_normal ?_
  refine ac_seq ?_
  refine ac_region ?_
  refine al_y rfl rfl (y_build (cs := [_, _]) rfl st76 rfl ⟨_, _, rfl, (cE_v rfl), ⟨_, _, rfl, (cE_v rfl), rfl⟩⟩ (by rfl) (by simp [ofV])) ?_
  refine al_m rfl (m_alloc rfl rfl zv76 rfl rfl) ?_
  refine al_m rfl (m_store rfl rfl rfl rfl rfl rfl (cE_agg rfl) ty76 (by rfl) (by exact Nat.le_of_ble_eq_true rfl)) ?_
  refine al_nil ?_
  refine qt_normal ?_
  refine ac_seq ?_
  refine ac_seq ?_
  refine ac_region ?_
  refine al_y rfl rfl (y_assignV rfl rfl) ?_
  refine al_nil ?_
  refine qt_normal ?_
  refine ac_block ?_
  refine ac_loop (ι := { k : Nat // k ≤ m.st.length }) (fun k => ⟨Tryz.f92.ntmps, frL [(1, I p), (2, .pub (.ptr (eMp m))), (4, .pp 0 1 0 0), (5, .pp 1 1 0 0), (6, I (k.1 : Int))], [.row [[I 0, I 0]], .row [[I (loOf m.wide m.slope p (m.st.take k.1)), I (hiOf m.wide m.slope p (m.st.take k.1))]]]⟩) (fun k => m.st.length - k.1) (⟨0, by simp⟩) ?_ ?_
  · exact weak_frM _ ⟨rfl, rfl, rfl, rfl, rfl, trivial⟩ (rfl)
  · rintro ⟨k, hk⟩
    dsimp only
    refine ac_seq ?_
    refine ac_seq ?_
    refine ac_region ?_
    refine al_y rfl rfl (y_moveV rfl rfl) ?_
    refine al_y rfl rfl (y_fieldAddr rfl rfl fld24_3) ?_
    refine al_y rfl rfl (y_load1 rfl rfl rfl ty22) ?_
    refine al_y rfl rfl (y_len rfl rfl rfl Tryz.underlying22) ?_
    refine al_y rfl rfl (y_lss rfl rfl rfl) ?_
    refine al_nil ?_
    refine qt_normal ?_
    refine ac_cond rfl (fun h0 => ?_) (fun h0 => ?_)
    · skip
      have hlt : k < m.st.length := by simpa using h0
      obtain ⟨m1, m2, m3, m4, m5, m6, m7, m8⟩ := hm
      have hs := m8 _ (List.getElem_mem hlt)
      have har := area m1 m2 m3 m4
      have hd := dist_bd (N := 30) (w := m.wide) (a := p) (b := m.st[k].pt) m1 (by omega) (by omega)
      have hsd := sd_bd m5 m6 hd.1 (by omega : dist m.wide p m.st[k].pt ≤ 100)
      refine ac_skip ?_
      refine qt_normal ?_
      refine ac_seq ?_
      refine ac_block ?_
      refine ac_seq ?_
      refine ac_region ?_
      refine al_y rfl rfl (y_fieldAddr rfl rfl fld24_3) ?_
      refine al_y rfl rfl (y_load1 rfl rfl rfl ty22) ?_
      refine al_y rfl rfl (y_moveV rfl rfl) ?_
      refine al_y rfl rfl (y_indexAddr rfl rfl rfl slc22 (by omega) (row_at hlt) stn_len) ?_
      refine al_y rfl rfl (y_loadN rfl rfl ty78 (by exact Nat.le_of_ble_eq_true rfl)) ?_
      refine al_pair  rfl rfl rfl rfl rfl rfl rfl zv78 ty78 rfl (by rfl) (cE_agg rfl) rfl ?_
      refine al_nil ?_
      refine qt_normal ?_
      refine ac_seq ?_
      refine ac_draw mixed (by kernel_rfl) rfl ?_
      refine aq_y rfl (y_fieldAddr rfl rfl fld24_2) ?_
      refine aq_y rfl (y_load1 rfl rfl rfl ty3) ?_
      refine aq_y rfl (y_fieldAddr rfl rfl fld24_0) ?_
      refine aq_y rfl (y_load1 rfl rfl rfl ty3) ?_
      refine aq_y rfl (y_moveV rfl rfl) ?_
      refine aq_y rfl (y_fieldAddr rfl rfl fld78_0) ?_
      refine aq_y rfl (y_load1 rfl rfl rfl ty3) ?_
      refine aq_y rfl (y_callF (av := [_, _, _]) rfl ⟨rfl, rfl, rfl, trivial⟩ (f55 _ _ _ (by omega) (by omega) (by omega))) ?_
      refine aq_y rfl (y_mul rfl rfl rfl ⟨(by omega), (by omega)⟩) ?_
      refine aq_y rfl (y_assignV rfl rfl) ?_
      refine aq_nil ?_
      refine qt_normal ?_
      refine ac_mix (fun m => ∃ rows, m[1]? = some (.row rows) ∧ rows.length = 1) (fun k => match k with | 10 => .stable | 11 => .stable | 12 => .stable | 13 => .stable | 14 => .stable | 15 => .stable | 17 => .writes | 18 => .stable | 19 => .writes | _ => .here) mixed (by kernel_rfl) rfl (by kernel_rfl) ⟨_, rfl, rfl⟩ ?_
      refine am_h rfl rfl (y_fieldAddr_pp rfl rfl rfl rfl fld76_0) ?_
      refine am_h rfl rfl (y_load_pp1 rfl rfl rfl rfl rfl rfl ty3) ?_
      refine am_h rfl rfl (y_fieldAddr rfl rfl fld78_1) ?_
      refine am_h rfl rfl (y_fieldAddr rfl rfl fld76_0) ?_
      refine am_h rfl rfl (y_load1 rfl rfl rfl ty3) ?_
      refine am_h rfl rfl (y_moveV rfl rfl) ?_
      refine am_h rfl rfl (y_sub rfl rfl rfl ⟨(by omega), (by omega)⟩) ?_
      refine am_h rfl rfl (y_max rfl rfl rfl) ?_
      refine am_h rfl rfl (y_fieldAddr_pp rfl rfl rfl rfl fld76_1) ?_
      refine am_h rfl rfl (y_load_pp1 rfl rfl rfl rfl rfl rfl ty3) ?_
      refine am_s rfl rfl (fun m hm => y_fieldAddr rfl rfl fld78_1) ?_
      refine am_s rfl rfl (fun m hm => y_fieldAddr rfl rfl fld76_1) ?_
      refine am_s rfl rfl (fun m hm => y_load1 rfl rfl rfl ty3) ?_
      refine am_s rfl rfl (fun m hm => y_moveV rfl rfl) ?_
      refine am_s rfl rfl (fun m hm => y_add rfl rfl rfl ⟨(by omega), (by omega)⟩) ?_
      refine am_s rfl rfl (fun m hm => y_min rfl rfl rfl) ?_
      refine am_h rfl rfl (y_fieldAddr_pp rfl rfl rfl rfl fld76_0) ?_
      refine am_w rfl rfl (opB_store rfl rfl rfl rfl rfl rfl (cE_v rfl) ty3 (by rfl) (by rfl)) ⟨_, rfl, rfl⟩ ?_
      refine am_s rfl rfl (fun m hm => y_fieldAddr_pp rfl rfl hm.choose_spec.1 hm.choose_spec.2 fld76_1) ?_
      refine am_w rfl rfl (opB_store rfl rfl rfl rfl rfl rfl (cE_v rfl) ty3 (by rfl) (by rfl)) ⟨_, rfl, rfl⟩ ?_
      refine am_nil ?_
      refine qb_normal ?_
      refine qt_normal ?_
      refine ac_region ?_
      refine al_y rfl rfl (y_moveV rfl rfl) ?_
      refine al_y rfl rfl (y_add rfl rfl rfl ⟨(by omega), (by omega)⟩) ?_
      refine al_y rfl rfl (y_assignV rfl rfl) ?_
      refine al_nil ?_
      exact ⟨⟨k + 1, by omega⟩, by dsimp only; omega, weak_frM _ ⟨rfl, rfl, rfl, rfl, rfl, trivial⟩ (congr (congrArg (fun a b => [PO.row [[I 0, I 0]], PO.row [[I a, I b]]]) (loOf_step hlt).symm) (hiOf_step hlt).symm)⟩
    · skip
      have hge : m.st.length ≤ k := by simpa using h0
      refine ac_exit ?_
      refine qt_exit ?_
      refine qt_exit ?_
      refine qb_exit ?_
      refine qt_normal ?_
      refine ac_seq ?_
      refine ac_region ?_
      refine al_y rfl rfl (y_load_ppA (cs := [_, _]) rfl rfl rfl rfl rfl (by exact Nat.le_of_ble_eq_true rfl) rfl ty76) ?_
      refine al_m rfl (m_store rfl rfl rfl rfl rfl rfl (cE_agg rfl) ty76 (by rfl) (by exact Nat.le_of_ble_eq_true rfl)) ?_
      refine al_nil ?_
      refine qt_normal ?_
      refine ac_ret ?_
      exact ⟨.inr rfl, ret_one rfl (res_cell rfl rfl rfl rfl ty76 rfl ⟨_, _, rfl, AVle.of (by rw [List.take_of_length_le hge]), ⟨_, _, rfl, AVle.of (by rw [List.take_of_length_le hge]), rfl⟩⟩)⟩
end Go.Av
end

section
namespace Go.Av
open Go.Proofs
set_option maxRecDepth 100000
set_option maxHeartbeats 1000000
set_option linter.unusedSimpArgs false
variable {G : Glob}

def maxL (l : List Int) : Int := l.foldl max (l.headD 0)
def minL (l : List Int) : Int := l.foldl min (l.headD 0)
def eGrid (w r : Int) : List AV := [.v (.int .i64 w), .v (.int .i64 r)]
def eChart (m : Mp) : List AV := eMp m ++ eGrid m.wide m.rows
theorem headD_at {l : List Int} (h : 0 < l.length) : l.headD 0 = l[0] := by
  cases l with
  | nil => simp at h
  | cons x xs => rfl
theorem maxL_two (a b : Int) : maxL [a, b] = max a b := by simp [maxL]
theorem minL_two (a b : Int) : minL [a, b] = min a b := by simp [minL]
theorem fold_take {f : Int → Int → Int} {a : Int} {l : List Int} {k : Nat} (h : k < l.length) : (l.take (k + 1)).foldl f a = f ((l.take k).foldl f a) l[k] := by
  rw [List.take_succ_eq_append_getElem h, List.foldl_append]; rfl

/-- chart.greatest -/
theorem f136 (l : List Int) (h : 0 < l.length) (hl : l.length ≤ 1000) : ACall Tryz.prog G 136 [eInts l] (.v (.int .i64 (maxL l))) := by
  have hh := headD_at h
  refine acall_of Tryz.func136 rfl (by kernel_rfl) rfl ?_
  refine ac_seq ?_
  refine ac_region ?_
  refine al_y rfl rfl (y_assignV rfl rfl) ?_
  refine al_nil ?_
  refine qt_normal ?_
  refine ac_seq ?_
  refine ac_region ?_
  refine al_y rfl rfl (y_moveP rfl rfl) ?_
  refine al_y rfl rfl (y_indexAddr rfl rfl rfl slc27 (by omega) (int_at h) int_len) ?_
  refine al_y rfl rfl (y_load1 rfl rfl rfl ty3) ?_
  refine al_y rfl rfl (y_assignV rfl rfl) ?_
  refine al_nil ?_
  refine qt_normal ?_
  refine ac_seq ?_
  refine ac_seq ?_
  refine ac_region ?_
  refine al_y rfl rfl (y_moveP rfl rfl) ?_
  refine al_y rfl rfl (y_len rfl rfl rfl Tryz.underlying27) ?_
  refine al_y rfl rfl (y_moveV rfl rfl) ?_
  refine al_nil ?_
  refine qt_normal ?_
  refine ac_block ?_
  refine ac_loop (ι := { k : Nat // k ≤ l.length }) (fun k => ⟨Tryz.f136.ntmps, frL [(3, I ((l.take k.1).foldl max l[0])), (9, .pub (eInts l)), (10, I (l.length : Int)), (11, I (k.1 : Int))], []⟩) (fun k => l.length - k.1) (⟨0, by simp⟩) ?_ ?_
  · exact weak_frM _ ⟨rfl, rfl, (congrArg (fun x : Nat => I (x : Int)) (List.length_map _)), rfl, trivial⟩ (rfl)
  · rintro ⟨k, hk⟩
    dsimp only
    refine ac_seq ?_
    refine ac_region ?_
    refine al_y rfl rfl (y_lss rfl rfl rfl) ?_
    refine al_nil ?_
    refine qt_normal ?_
    refine ac_seq ?_
    refine ac_cond rfl (fun h0 => ?_) (fun h0 => ?_)
    · skip
      have hlt : k < l.length := by simpa using h0
      refine ac_skip ?_
      refine qt_normal ?_
      refine ac_seq ?_
      refine ac_block ?_
      refine ac_seq ?_
      refine ac_region ?_
      refine al_y rfl rfl (y_indexAddr rfl rfl rfl slc27 (by omega) (int_at hlt) int_len) ?_
      refine al_y rfl rfl (y_load1 rfl rfl rfl ty3) ?_
      refine al_y rfl rfl (y_assignV rfl rfl) ?_
      refine al_nil ?_
      refine qt_normal ?_
      refine ac_region ?_
      refine al_y rfl rfl (y_moveV rfl rfl) ?_
      refine al_y rfl rfl (y_moveV rfl rfl) ?_
      refine al_y rfl rfl (y_max rfl rfl rfl) ?_
      refine al_y rfl rfl (y_assignV rfl rfl) ?_
      refine al_nil ?_
      refine qb_normal ?_
      refine qt_normal ?_
      refine ac_region ?_
      refine al_y rfl rfl (y_add rfl rfl rfl ⟨(by omega), (by omega)⟩) ?_
      refine al_y rfl rfl (y_moveV rfl rfl) ?_
      refine al_nil ?_
      exact ⟨⟨k + 1, by omega⟩, by dsimp only; omega, weak_frM _ ⟨(congrArg I (fold_take hlt).symm), rfl, rfl, rfl, trivial⟩ (rfl)⟩
    · skip
      have hge : l.length ≤ k := by simpa using h0
      refine ac_exit ?_
      refine qt_exit ?_
      refine qt_exit ?_
      refine qb_exit ?_
      refine qt_normal ?_
      refine ac_seq ?_
      refine ac_region ?_
      refine al_y rfl rfl (y_moveV rfl rfl) ?_
      refine al_y rfl rfl (y_assignV rfl rfl) ?_
      refine al_nil ?_
      refine qt_normal ?_
      refine ac_ret ?_
      exact ⟨.inr rfl, AVle.of (by rw [List.take_of_length_le hge]; unfold maxL; rw [hh])⟩

/-- chart.least -/
theorem f135 (l : List Int) (h : 0 < l.length) (hl : l.length ≤ 1000) : ACall Tryz.prog G 135 [eInts l] (.v (.int .i64 (minL l))) := by
  have hh := headD_at h
  refine acall_of Tryz.func135 rfl (by kernel_rfl) rfl ?_
  refine ac_seq ?_
  refine ac_region ?_
  refine al_y rfl rfl (y_assignV rfl rfl) ?_
  refine al_nil ?_
  refine qt_normal ?_
  refine ac_seq ?_
  refine ac_region ?_
  refine al_y rfl rfl (y_moveP rfl rfl) ?_
  refine al_y rfl rfl (y_indexAddr rfl rfl rfl slc27 (by omega) (int_at h) int_len) ?_
  refine al_y rfl rfl (y_load1 rfl rfl rfl ty3) ?_
  refine al_y rfl rfl (y_assignV rfl rfl) ?_
  refine al_nil ?_
  refine qt_normal ?_
  refine ac_seq ?_
  refine ac_seq ?_
  refine ac_region ?_
  refine al_y rfl rfl (y_moveP rfl rfl) ?_
  refine al_y rfl rfl (y_len rfl rfl rfl Tryz.underlying27) ?_
  refine al_y rfl rfl (y_moveV rfl rfl) ?_
  refine al_nil ?_
  refine qt_normal ?_
  refine ac_block ?_
  refine ac_loop (ι := { k : Nat // k ≤ l.length }) (fun k => ⟨Tryz.f135.ntmps, frL [(3, I ((l.take k.1).foldl min l[0])), (9, .pub (eInts l)), (10, I (l.length : Int)), (11, I (k.1 : Int))], []⟩) (fun k => l.length - k.1) (⟨0, by simp⟩) ?_ ?_
  · exact weak_frM _ ⟨rfl, rfl, (congrArg (fun x : Nat => I (x : Int)) (List.length_map _)), rfl, trivial⟩ (rfl)
  · rintro ⟨k, hk⟩
    dsimp only
    refine ac_seq ?_
    refine ac_region ?_
    refine al_y rfl rfl (y_lss rfl rfl rfl) ?_
    refine al_nil ?_
    refine qt_normal ?_
    refine ac_seq ?_
    refine ac_cond rfl (fun h0 => ?_) (fun h0 => ?_)
    · skip
      have hlt : k < l.length := by simpa using h0
      refine ac_skip ?_
      refine qt_normal ?_
      refine ac_seq ?_
      refine ac_block ?_
      refine ac_seq ?_
      refine ac_region ?_
      refine al_y rfl rfl (y_indexAddr rfl rfl rfl slc27 (by omega) (int_at hlt) int_len) ?_
      refine al_y rfl rfl (y_load1 rfl rfl rfl ty3) ?_
      refine al_y rfl rfl (y_assignV rfl rfl) ?_
      refine al_nil ?_
      refine qt_normal ?_
      refine ac_region ?_
      refine al_y rfl rfl (y_moveV rfl rfl) ?_
      refine al_y rfl rfl (y_moveV rfl rfl) ?_
      refine al_y rfl rfl (y_min rfl rfl rfl) ?_
      refine al_y rfl rfl (y_assignV rfl rfl) ?_
      refine al_nil ?_
      refine qb_normal ?_
      refine qt_normal ?_
      refine ac_region ?_
      refine al_y rfl rfl (y_add rfl rfl rfl ⟨(by omega), (by omega)⟩) ?_
      refine al_y rfl rfl (y_moveV rfl rfl) ?_
      refine al_nil ?_
      exact ⟨⟨k + 1, by omega⟩, by dsimp only; omega, weak_frM _ ⟨(congrArg I (fold_take hlt).symm), rfl, rfl, rfl, trivial⟩ (rfl)⟩
    · skip
      have hge : l.length ≤ k := by simpa using h0
      refine ac_exit ?_
      refine qt_exit ?_
      refine qt_exit ?_
      refine qb_exit ?_
      refine qt_normal ?_
      refine ac_seq ?_
      refine ac_region ?_
      refine al_y rfl rfl (y_moveV rfl rfl) ?_
      refine al_y rfl rfl (y_assignV rfl rfl) ?_
      refine al_nil ?_
      refine qt_normal ?_
      refine ac_ret ?_
      exact ⟨.inr rfl, AVle.of (by rw [List.take_of_length_le hge]; unfold minL; rw [hh])⟩

/-- chart.far -/
theorem f105 (a b : Int) (ha : -1000000000000 ≤ a ∧ a ≤ 1000000000000) (hb : -1000000000000 ≤ b ∧ b ≤ 1000000000000) : ACall Tryz.prog G 105 [.v (.int .i64 a), .v (.int .i64 b)] (.v (.int .i64 (absd a b))) := by
  refine acall_of Tryz.func105 rfl (by kernel_rfl) rfl ?_
  refine ac_seq ?_
  refine ac_region ?_
  refine al_y rfl rfl (y_assignV rfl rfl) ?_
  refine al_nil ?_
  refine qt_normal ?_
  refine ac_seq ?_
  refine ac_region ?_
  refine al_y rfl rfl (y_moveV rfl rfl) ?_
  refine al_y rfl rfl (y_moveV rfl rfl) ?_
  refine al_y rfl rfl (y_sub rfl rfl rfl ⟨(by omega), (by omega)⟩) ?_
  refine al_y rfl rfl (y_moveV rfl rfl) ?_
  refine al_y rfl rfl (y_moveV rfl rfl) ?_
  refine al_y rfl rfl (y_sub rfl rfl rfl ⟨(by omega), (by omega)⟩) ?_
  refine al_y rfl rfl (y_buildSlice (size := 1) (rows := [[_], [_]]) rfl Tryz.underlying27 ti3 rfl (by decide) rfl (by decide) ⟨_, _, rfl, (cE_v rfl), ⟨_, _, rfl, (cE_v rfl), rfl⟩⟩ (by rfl) (by simp [ofV]) rfl (by simp)) ?_
  refine al_y rfl rfl (y_callF (av := [_]) rfl ⟨rfl, trivial⟩ (f136 [_, _] (by simp) (by simp))) ?_
  refine al_y rfl rfl (y_assignV rfl rfl) ?_
  refine al_nil ?_
  refine qt_normal ?_
  refine ac_ret ?_
  exact ⟨.inr rfl, AVle.of (by rw [maxL_two]; rfl)⟩

/-- chart.grid.row -/
theorem f120 (w r p : Int) (hw : 1 ≤ w) (hp : 0 ≤ p ∧ p ≤ 100000) : ACall Tryz.prog G 120 [.agg (eGrid w r), .v (.int .i64 p)] (.v (.int .i64 (p / w))) := by
  refine acall_of Tryz.func120 rfl (by kernel_rfl) rfl ?_
  refine ac_seq ?_
  refine ac_region ?_
  refine al_y rfl rfl (y_box rfl (cE_agg rfl)) ?_
  refine al_y rfl rfl (y_assignV rfl rfl) ?_
  refine al_nil ?_
  refine qt_normal ?_
  refine ac_seq ?_
  refine ac_region ?_
  refine al_y rfl rfl (y_moveV rfl rfl) ?_
  refine al_y rfl rfl (y_fieldAddr rfl rfl fld99_0) ?_
  refine al_y rfl rfl (y_load1 rfl rfl rfl ty3) ?_
  refine al_y rfl rfl (y_quo rfl rfl rfl ⟨(by omega), (by omega), (by omega)⟩) ?_
  refine al_y rfl rfl (y_assignV rfl rfl) ?_
  refine al_nil ?_
  refine qt_normal ?_
  refine ac_ret ?_
  exact ⟨.inr rfl, AVle.refl _⟩

/-- chart.grid.column -/
theorem f121 (w r p : Int) (hw : 1 ≤ w) (hp : 0 ≤ p ∧ p ≤ 100000) : ACall Tryz.prog G 121 [.agg (eGrid w r), .v (.int .i64 p)] (.v (.int .i64 (p % w))) := by
  refine acall_of Tryz.func121 rfl (by kernel_rfl) rfl ?_
  refine ac_seq ?_
  refine ac_region ?_
  refine al_y rfl rfl (y_box rfl (cE_agg rfl)) ?_
  refine al_y rfl rfl (y_assignV rfl rfl) ?_
  refine al_nil ?_
  refine qt_normal ?_
  refine ac_seq ?_
  refine ac_region ?_
  refine al_y rfl rfl (y_moveV rfl rfl) ?_
  refine al_y rfl rfl (y_fieldAddr rfl rfl fld99_0) ?_
  refine al_y rfl rfl (y_load1 rfl rfl rfl ty3) ?_
  refine al_y rfl rfl (y_rem rfl rfl rfl ⟨(by omega), (by omega)⟩) ?_
  refine al_y rfl rfl (y_assignV rfl rfl) ?_
  refine al_nil ?_
  refine qt_normal ?_
  refine ac_ret ?_
  exact ⟨.inr rfl, AVle.refl _⟩

/-- chart.grid.distance -/
theorem f119 (w r a b : Int) (hw : 1 ≤ w ∧ w ≤ 1000) (ha : 0 ≤ a ∧ a ≤ 100000) (hb : 0 ≤ b ∧ b ≤ 100000) : ACall Tryz.prog G 119 [.agg (eGrid w r), .v (.int .i64 a), .v (.int .i64 b)] (.v (.int .i64 (dist w a b))) := by
  have h1 := dm hw.1 ha
  have h2 := dm hw.1 hb
  have h3 := absd_bd (N := 100000) ⟨h1.1, h1.2.1⟩ ⟨h2.1, h2.2.1⟩
  have h4 := absd_bd (N := w) ⟨h1.2.2.1, by omega⟩ ⟨h2.2.2.1, by omega⟩
  refine acall_of Tryz.func119 rfl (by kernel_rfl) rfl ?_
  refine ac_seq ?_
  refine ac_region ?_
  refine al_y rfl rfl (y_box rfl (cE_agg rfl)) ?_
  refine al_y rfl rfl (y_assignV rfl rfl) ?_
  refine al_nil ?_
  refine qt_normal ?_
  refine ac_seq ?_
  refine ac_draw mixed (by kernel_rfl) rfl ?_
  refine aq_y rfl (y_loadN rfl rfl ty99 (by exact Nat.le_of_ble_eq_true rfl)) ?_
  refine aq_y rfl (y_moveV rfl rfl) ?_
  refine aq_y rfl (y_callF (av := [_, _]) rfl ⟨rfl, rfl, trivial⟩ (f120 w r _ (by omega) (by omega))) ?_
  refine aq_y rfl (y_loadN rfl rfl ty99 (by exact Nat.le_of_ble_eq_true rfl)) ?_
  refine aq_y rfl (y_moveV rfl rfl) ?_
  refine aq_y rfl (y_callF (av := [_, _]) rfl ⟨rfl, rfl, trivial⟩ (f120 w r _ (by omega) (by omega))) ?_
  refine aq_y rfl (y_callF (av := [_, _]) rfl ⟨rfl, rfl, trivial⟩ (f105 _ _ (by omega) (by omega))) ?_
  refine aq_y rfl (y_loadN rfl rfl ty99 (by exact Nat.le_of_ble_eq_true rfl)) ?_
  refine aq_y rfl (y_moveV rfl rfl) ?_
  refine aq_y rfl (y_callF (av := [_, _]) rfl ⟨rfl, rfl, trivial⟩ (f121 w r _ (by omega) (by omega))) ?_
  refine aq_y rfl (y_loadN rfl rfl ty99 (by exact Nat.le_of_ble_eq_true rfl)) ?_
  refine aq_y rfl (y_moveV rfl rfl) ?_
  refine aq_y rfl (y_callF (av := [_, _]) rfl ⟨rfl, rfl, trivial⟩ (f121 w r _ (by omega) (by omega))) ?_
  refine aq_y rfl (y_callF (av := [_, _]) rfl ⟨rfl, rfl, trivial⟩ (f105 _ _ (by omega) (by omega))) ?_
  refine aq_y rfl (y_add rfl rfl rfl ⟨(by omega), (by omega)⟩) ?_
  refine aq_y rfl (y_assignV rfl rfl) ?_
  refine aq_nil ?_
  refine qt_normal ?_
  refine ac_ret ?_
  exact ⟨.inr rfl, AVle.refl _⟩

theorem loOf_bd {w sl p : Int} {l : List Stn} (h : ∀ s ∈ l, s.lo ≤ 99999 ∧ 0 ≤ sl * dist w p s.pt) : 0 ≤ loOf w sl p l ∧ loOf w sl p l ≤ 99999 :=
  foldl_inv _ (fun a => 0 ≤ a ∧ a ≤ 99999) l 0 (by omega) (fun b a ha hb => by have := h a ha; omega)
theorem hiOf_bd {w sl p : Int} {l : List Stn} (h : ∀ s ∈ l, 0 ≤ s.hi ∧ 0 ≤ sl * dist w p s.pt) : 0 ≤ hiOf w sl p l ∧ hiOf w sl p l ≤ 99999 :=
  foldl_inv _ (fun a => 0 ≤ a ∧ a ≤ 99999) l 99999 (by omega) (fun b a ha hb => by have := h a ha; omega)
theorem okM.sd {m : Mp} (hm : okM m) {p : Int} (hp : 0 ≤ p ∧ p ≤ 30) : ∀ s ∈ m.st, 0 ≤ dist m.wide p s.pt ∧ dist m.wide p s.pt ≤ 36 ∧ 0 ≤ m.slope * dist m.wide p s.pt ∧ m.slope * dist m.wide p s.pt ≤ 500000 := fun s hs => by
  obtain ⟨m1, m2, m3, m4, m5, m6, m7, m8⟩ := hm
  have h := m8 s hs
  have har := area m1 m2 m3 m4
  have hd := dist_bd (N := 30) (w := m.wide) (a := p) (b := s.pt) m1 (by omega) (by omega)
  have hsd := sd_bd m5 m6 hd.1 (by omega : dist m.wide p s.pt ≤ 100)
  omega
theorem okM.lo {m : Mp} (hm : okM m) {p : Int} (hp : 0 ≤ p ∧ p ≤ 30) (k : Nat) : 0 ≤ loOf m.wide m.slope p (m.st.take k) ∧ loOf m.wide m.slope p (m.st.take k) ≤ 99999 :=
  loOf_bd fun s hs => by
    have h1 := hm.sd hp s (List.mem_of_mem_take hs)
    have h2 := hm.2.2.2.2.2.2.2 s (List.mem_of_mem_take hs)
    omega
theorem okM.hi {m : Mp} (hm : okM m) {p : Int} (hp : 0 ≤ p ∧ p ≤ 30) (k : Nat) : 0 ≤ hiOf m.wide m.slope p (m.st.take k) ∧ hiOf m.wide m.slope p (m.st.take k) ≤ 99999 :=
  hiOf_bd fun s hs => by
    have h1 := hm.sd hp s (List.mem_of_mem_take hs)
    have h2 := hm.2.2.2.2.2.2.2 s (List.mem_of_mem_take hs)
    omega

/-- chart.chart.low -/
theorem f114 (m : Mp) (p : Int) (hm : okM m) (hp : 0 ≤ p ∧ p ≤ 30) : ACall Tryz.prog G 114 [.agg (eChart m), .v (.int .i64 p)] (.v (.int .i64 (loOf m.wide m.slope p m.st))) := by
  refine acall_of Tryz.func114 rfl (by kernel_rfl) rfl ?_
  refine ac_seq ?_
  refine ac_region ?_
  refine al_y rfl rfl (y_box rfl (cE_agg rfl)) ?_
  refine al_y rfl rfl (y_assignV rfl rfl) ?_
  refine al_nil ?_
  refine qt_normal ?_
  refine ac_seq ?_
  refine ac_region ?_
  refine al_y rfl rfl (y_assignV rfl rfl) ?_
  refine al_nil ?_
  refine qt_normal ?_
  refine ac_seq ?_
  refine ac_seq ?_
  refine ac_region ?_
  refine al_y rfl rfl (y_fieldAddr rfl rfl fld101_0) ?_
  refine al_y rfl rfl (y_fieldAddr rfl rfl fld24_3) ?_
  refine al_y rfl rfl (y_load1 rfl rfl rfl ty22) ?_
  refine al_y rfl rfl (y_len rfl rfl rfl Tryz.underlying22) ?_
  refine al_y rfl rfl (y_moveV rfl rfl) ?_
  refine al_nil ?_
  refine qt_normal ?_
  refine ac_block ?_
  refine ac_loop (ι := { k : Nat // k ≤ m.st.length }) (fun k => ⟨Tryz.f114.ntmps, frL [(1, I p), (2, .pub (.ptr (eChart m))), (5, I (loOf m.wide m.slope p (m.st.take k.1))), (10, .pub (.sl (m.st.map eStn))), (11, I (m.st.length : Int)), (12, I (k.1 : Int))], []⟩) (fun k => m.st.length - k.1) (⟨0, by simp⟩) ?_ ?_
  · exact weak_frM _ ⟨rfl, rfl, rfl, rfl, (congrArg (fun x : Nat => I (x : Int)) (List.length_map _)), rfl, trivial⟩ (rfl)
  · rintro ⟨k, hk⟩
    dsimp only
    refine ac_seq ?_
    refine ac_region ?_
    refine al_y rfl rfl (y_lss rfl rfl rfl) ?_
    refine al_nil ?_
    refine qt_normal ?_
    refine ac_seq ?_
    refine ac_cond rfl (fun h0 => ?_) (fun h0 => ?_)
    · skip
      have hlt : k < m.st.length := by simpa using h0
      have hs := hm.sd hp _ (List.getElem_mem hlt)
      have hb := hm.lo hp k
      have ho := hm
      obtain ⟨m1, m2, m3, m4, m5, m6, m7, m8⟩ := ho
      have ht := m8 _ (List.getElem_mem hlt)
      have har := area m1 m2 m3 m4
      refine ac_skip ?_
      refine qt_normal ?_
      refine ac_seq ?_
      refine ac_block ?_
      refine ac_seq ?_
      refine ac_region ?_
      refine al_y rfl rfl (y_indexAddr rfl rfl rfl slc22 (by omega) (row_at hlt) stn_len) ?_
      refine al_y rfl rfl (y_loadN rfl rfl ty78 (by exact Nat.le_of_ble_eq_true rfl)) ?_
      refine al_pair  rfl rfl rfl rfl rfl rfl rfl zv78 ty78 rfl (by rfl) (cE_agg rfl) rfl ?_
      refine al_nil ?_
      refine qt_normal ?_
      refine ac_draw mixed (by kernel_rfl) rfl ?_
      refine aq_y rfl (y_moveV rfl rfl) ?_
      refine aq_y rfl (y_fieldAddr rfl rfl fld78_1) ?_
      refine aq_y rfl (y_fieldAddr rfl rfl fld76_0) ?_
      refine aq_y rfl (y_load1 rfl rfl rfl ty3) ?_
      refine aq_y rfl (y_fieldAddr rfl rfl fld101_0) ?_
      refine aq_y rfl (y_fieldAddr rfl rfl fld24_2) ?_
      refine aq_y rfl (y_load1 rfl rfl rfl ty3) ?_
      refine aq_y rfl (y_fieldAddr rfl rfl fld101_1) ?_
      refine aq_y rfl (y_loadN rfl rfl ty99 (by exact Nat.le_of_ble_eq_true rfl)) ?_
      refine aq_y rfl (y_moveV rfl rfl) ?_
      refine aq_y rfl (y_fieldAddr rfl rfl fld78_0) ?_
      refine aq_y rfl (y_load1 rfl rfl rfl ty3) ?_
      refine aq_y rfl (y_callF (av := [_, _, _]) rfl ⟨rfl, rfl, rfl, trivial⟩ (f119 m.wide m.rows _ _ (by omega) (by omega) (by omega))) ?_
      refine aq_y rfl (y_mul rfl rfl rfl ⟨(by omega), (by omega)⟩) ?_
      refine aq_y rfl (y_sub rfl rfl rfl ⟨(by omega), (by omega)⟩) ?_
      refine aq_y rfl (y_buildSlice (size := 1) (rows := [[_], [_]]) rfl Tryz.underlying27 ti3 rfl (by decide) rfl (by decide) ⟨_, _, rfl, (cE_v rfl), ⟨_, _, rfl, (cE_v rfl), rfl⟩⟩ (by rfl) (by simp [ofV]) rfl (by simp)) ?_
      refine aq_y rfl (y_callF (av := [_]) rfl ⟨rfl, trivial⟩ (f136 [_, _] (by simp) (by simp))) ?_
      refine aq_y rfl (y_assignV rfl rfl) ?_
      refine aq_nil ?_
      refine qb_normal ?_
      refine qt_normal ?_
      refine ac_region ?_
      refine al_y rfl rfl (y_add rfl rfl rfl ⟨(by omega), (by omega)⟩) ?_
      refine al_y rfl rfl (y_moveV rfl rfl) ?_
      refine al_nil ?_
      exact ⟨⟨k + 1, by omega⟩, by dsimp only; omega, weak_frM _ ⟨rfl, rfl, (congrArg I ((maxL_two _ _).trans (loOf_step hlt).symm)), rfl, rfl, rfl, trivial⟩ (rfl)⟩
    · skip
      have hge : m.st.length ≤ k := by simpa using h0
      refine ac_exit ?_
      refine qt_exit ?_
      refine qt_exit ?_
      refine qb_exit ?_
      refine qt_normal ?_
      refine ac_seq ?_
      refine ac_region ?_
      refine al_y rfl rfl (y_moveV rfl rfl) ?_
      refine al_y rfl rfl (y_assignV rfl rfl) ?_
      refine al_nil ?_
      refine qt_normal ?_
      refine ac_ret ?_
      exact ⟨.inr rfl, AVle.of (by rw [List.take_of_length_le hge])⟩

/-- chart.chart.high -/
theorem f115 (m : Mp) (p : Int) (hm : okM m) (hp : 0 ≤ p ∧ p ≤ 30) : ACall Tryz.prog G 115 [.agg (eChart m), .v (.int .i64 p)] (.v (.int .i64 (hiOf m.wide m.slope p m.st))) := by
  refine acall_of Tryz.func115 rfl (by kernel_rfl) rfl ?_
  refine ac_seq ?_
  refine ac_region ?_
  refine al_y rfl rfl (y_box rfl (cE_agg rfl)) ?_
  refine al_y rfl rfl (y_assignV rfl rfl) ?_
  refine al_nil ?_
  refine qt_normal ?_
  refine ac_seq ?_
  refine ac_region ?_
  refine al_y rfl rfl (y_assignV rfl rfl) ?_
  refine al_nil ?_
  refine qt_normal ?_
  refine ac_seq ?_
  refine ac_seq ?_
  refine ac_region ?_
  refine al_y rfl rfl (y_fieldAddr rfl rfl fld101_0) ?_
  refine al_y rfl rfl (y_fieldAddr rfl rfl fld24_3) ?_
  refine al_y rfl rfl (y_load1 rfl rfl rfl ty22) ?_
  refine al_y rfl rfl (y_len rfl rfl rfl Tryz.underlying22) ?_
  refine al_y rfl rfl (y_moveV rfl rfl) ?_
  refine al_nil ?_
  refine qt_normal ?_
  refine ac_block ?_
  refine ac_loop (ι := { k : Nat // k ≤ m.st.length }) (fun k => ⟨Tryz.f115.ntmps, frL [(1, I p), (2, .pub (.ptr (eChart m))), (5, I (hiOf m.wide m.slope p (m.st.take k.1))), (10, .pub (.sl (m.st.map eStn))), (11, I (m.st.length : Int)), (12, I (k.1 : Int))], []⟩) (fun k => m.st.length - k.1) (⟨0, by simp⟩) ?_ ?_
  · exact weak_frM _ ⟨rfl, rfl, rfl, rfl, (congrArg (fun x : Nat => I (x : Int)) (List.length_map _)), rfl, trivial⟩ (rfl)
  · rintro ⟨k, hk⟩
    dsimp only
    refine ac_seq ?_
    refine ac_region ?_
    refine al_y rfl rfl (y_lss rfl rfl rfl) ?_
    refine al_nil ?_
    refine qt_normal ?_
    refine ac_seq ?_
    refine ac_cond rfl (fun h0 => ?_) (fun h0 => ?_)
    · skip
      have hlt : k < m.st.length := by simpa using h0
      have hs := hm.sd hp _ (List.getElem_mem hlt)
      have hb := hm.hi hp k
      have ho := hm
      obtain ⟨m1, m2, m3, m4, m5, m6, m7, m8⟩ := ho
      have ht := m8 _ (List.getElem_mem hlt)
      have har := area m1 m2 m3 m4
      refine ac_skip ?_
      refine qt_normal ?_
      refine ac_seq ?_
      refine ac_block ?_
      refine ac_seq ?_
      refine ac_region ?_
      refine al_y rfl rfl (y_indexAddr rfl rfl rfl slc22 (by omega) (row_at hlt) stn_len) ?_
      refine al_y rfl rfl (y_loadN rfl rfl ty78 (by exact Nat.le_of_ble_eq_true rfl)) ?_
      refine al_pair  rfl rfl rfl rfl rfl rfl rfl zv78 ty78 rfl (by rfl) (cE_agg rfl) rfl ?_
      refine al_nil ?_
      refine qt_normal ?_
      refine ac_draw mixed (by kernel_rfl) rfl ?_
      refine aq_y rfl (y_moveV rfl rfl) ?_
      refine aq_y rfl (y_fieldAddr rfl rfl fld78_1) ?_
      refine aq_y rfl (y_fieldAddr rfl rfl fld76_1) ?_
      refine aq_y rfl (y_load1 rfl rfl rfl ty3) ?_
      refine aq_y rfl (y_fieldAddr rfl rfl fld101_0) ?_
      refine aq_y rfl (y_fieldAddr rfl rfl fld24_2) ?_
      refine aq_y rfl (y_load1 rfl rfl rfl ty3) ?_
      refine aq_y rfl (y_fieldAddr rfl rfl fld101_1) ?_
      refine aq_y rfl (y_loadN rfl rfl ty99 (by exact Nat.le_of_ble_eq_true rfl)) ?_
      refine aq_y rfl (y_moveV rfl rfl) ?_
      refine aq_y rfl (y_fieldAddr rfl rfl fld78_0) ?_
      refine aq_y rfl (y_load1 rfl rfl rfl ty3) ?_
      refine aq_y rfl (y_callF (av := [_, _, _]) rfl ⟨rfl, rfl, rfl, trivial⟩ (f119 m.wide m.rows _ _ (by omega) (by omega) (by omega))) ?_
      refine aq_y rfl (y_mul rfl rfl rfl ⟨(by omega), (by omega)⟩) ?_
      refine aq_y rfl (y_add rfl rfl rfl ⟨(by omega), (by omega)⟩) ?_
      refine aq_y rfl (y_buildSlice (size := 1) (rows := [[_], [_]]) rfl Tryz.underlying27 ti3 rfl (by decide) rfl (by decide) ⟨_, _, rfl, (cE_v rfl), ⟨_, _, rfl, (cE_v rfl), rfl⟩⟩ (by rfl) (by simp [ofV]) rfl (by simp)) ?_
      refine aq_y rfl (y_callF (av := [_]) rfl ⟨rfl, trivial⟩ (f135 [_, _] (by simp) (by simp))) ?_
      refine aq_y rfl (y_assignV rfl rfl) ?_
      refine aq_nil ?_
      refine qb_normal ?_
      refine qt_normal ?_
      refine ac_region ?_
      refine al_y rfl rfl (y_add rfl rfl rfl ⟨(by omega), (by omega)⟩) ?_
      refine al_y rfl rfl (y_moveV rfl rfl) ?_
      refine al_nil ?_
      exact ⟨⟨k + 1, by omega⟩, by dsimp only; omega, weak_frM _ ⟨rfl, rfl, (congrArg I ((minL_two _ _).trans (hiOf_step hlt).symm)), rfl, rfl, rfl, trivial⟩ (rfl)⟩
    · skip
      have hge : m.st.length ≤ k := by simpa using h0
      refine ac_exit ?_
      refine qt_exit ?_
      refine qt_exit ?_
      refine qb_exit ?_
      refine qt_normal ?_
      refine ac_seq ?_
      refine ac_region ?_
      refine al_y rfl rfl (y_moveV rfl rfl) ?_
      refine al_y rfl rfl (y_assignV rfl rfl) ?_
      refine al_nil ?_
      refine qt_normal ?_
      refine ac_ret ?_
      exact ⟨.inr rfl, AVle.of (by rw [List.take_of_length_le hge])⟩
end Go.Av
end
