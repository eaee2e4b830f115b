/- Messages as groups. · The reference's groups; Send. -/
import Derived.Test.YtaphehlgijlfeaaGreatDoorWiB
set_option linter.unusedVariables false
set_option linter.unusedSimpArgs false
section
namespace Go.Av
open Go.Proofs
set_option maxRecDepth 100000
set_option maxHeartbeats 1000000
set_option linter.unusedSimpArgs false
variable {G : Glob}
/-- The check group. -/
def chk (m : List Int) : G5 := m.foldl (fun s n => ⟨(s.a + (figs n).a) % 10, (s.b + (figs n).b) % 10, (s.c + (figs n).c) % 10, (s.d + (figs n).d) % 10, (s.e + (figs n).e) % 10⟩) ⟨0, 0, 0, 0, 0⟩
def grps (m : List Int) : List G5 := m.map figs ++ [chk m]
def iFg (g : G5) : List EV := [I g.a, I g.b, I g.c, I g.d, I g.e]
theorem chk_ok : ∀ m : List Int, (chk m).ok := by
  have key : ∀ (m : List Int) (s : G5), s.ok → (m.foldl (fun s n => (⟨(s.a + (figs n).a) % 10, (s.b + (figs n).b) % 10, (s.c + (figs n).c) % 10, (s.d + (figs n).d) % 10, (s.e + (figs n).e) % 10⟩ : G5)) s).ok := by
    intro m
    induction m with
    | nil => exact fun s h => h
    | cons n m ih => exact fun s h => ih _ (by unfold G5.ok; dsimp only; omega)
  exact fun m => key m _ (by unfold G5.ok; dsimp only; omega)
theorem grps_ok {m : List Int} : ∀ g ∈ grps m, g.ok := fun g hg => by
  rcases List.mem_append.1 hg with h | h
  · obtain ⟨n, _, rfl⟩ := List.mem_map.1 h; exact figs_ok n
  · rw [List.mem_singleton.1 h]; exact chk_ok m
end Go.Av
end

section
namespace Go.Av
open Go.Proofs
set_option maxRecDepth 100000
set_option maxHeartbeats 1000000
set_option linter.unusedSimpArgs false
variable {G : Glob}
theorem ti9 : Tryz.prog.info? 9 = some Tryz.t9 := by kernel_rfl
theorem el34 : elemIs Tryz.prog 34 9 1 16 := ⟨Tryz.underlying34, Tryz.t9, _, by kernel_rfl, rfl, rfl, rfl, rfl, by decide⟩
theorem slc34 : slcIs Tryz.prog 34 1 = true := by kernel_rfl
theorem ty9 : tyIs Tryz.prog 9 false 1 = true := by kernel_rfl

def sumD (m : List Int) (j : Nat) : Int := m.foldl (fun s n => s + dig n j) 0
def ckN (m : List Int) : Nat → Int
  | 0 => 0
  | j + 1 => 10 * ckN m j + sumD m j % 10
theorem sumD_step {m : List Int} {j k : Nat} (h : k < m.length) : sumD (m.take (k + 1)) j = sumD (m.take k) j + dig m[k] j := by
  unfold sumD; rw [List.take_succ_eq_append_getElem h, List.foldl_append]; rfl
theorem sumD_bd (m : List Int) (j : Nat) : 0 ≤ sumD m j ∧ sumD m j ≤ 9 * m.length := by
  have key : ∀ (m : List Int) (t : Int), t ≤ m.foldl (fun s n => s + dig n j) t ∧ m.foldl (fun s n => s + dig n j) t ≤ t + 9 * m.length := by
    intro m
    induction m with
    | nil => intro t; simp
    | cons n m ih =>
      intro t
      have h1 := ih (t + dig n j)
      have h2 := dig_bd (n := n) j
      simp only [List.foldl_cons, List.length_cons]
      omega
  have := key m 0
  unfold sumD; omega
theorem ckN_bd (m : List Int) : 0 ≤ ckN m 5 ∧ ckN m 5 ≤ 99999 ∧ (0 ≤ ckN m 0 ∧ ckN m 0 ≤ 0) ∧ (0 ≤ ckN m 1 ∧ ckN m 1 ≤ 9) ∧ (0 ≤ ckN m 2 ∧ ckN m 2 ≤ 99) ∧ (0 ≤ ckN m 3 ∧ ckN m 3 ≤ 999) ∧ (0 ≤ ckN m 4 ∧ ckN m 4 ≤ 9999) := by
  simp only [ckN]; omega
theorem chk_a : ∀ (m : List Int) (s : G5) (t : Int), s.a = t % 10 → (m.foldl (fun s n => (⟨(s.a + (figs n).a) % 10, (s.b + (figs n).b) % 10, (s.c + (figs n).c) % 10, (s.d + (figs n).d) % 10, (s.e + (figs n).e) % 10⟩ : G5)) s).a = (m.foldl (fun s n => s + dig n 0) t) % 10
  | [], _, _, h => h
  | n :: m, s, t, h => chk_a m _ _ (by show (s.a + (figs n).a) % 10 = (t + (figs n).a) % 10; rw [h]; omega)
theorem chk_b : ∀ (m : List Int) (s : G5) (t : Int), s.b = t % 10 → (m.foldl (fun s n => (⟨(s.a + (figs n).a) % 10, (s.b + (figs n).b) % 10, (s.c + (figs n).c) % 10, (s.d + (figs n).d) % 10, (s.e + (figs n).e) % 10⟩ : G5)) s).b = (m.foldl (fun s n => s + dig n 1) t) % 10
  | [], _, _, h => h
  | n :: m, s, t, h => chk_b m _ _ (by show (s.b + (figs n).b) % 10 = (t + (figs n).b) % 10; rw [h]; omega)
theorem chk_c : ∀ (m : List Int) (s : G5) (t : Int), s.c = t % 10 → (m.foldl (fun s n => (⟨(s.a + (figs n).a) % 10, (s.b + (figs n).b) % 10, (s.c + (figs n).c) % 10, (s.d + (figs n).d) % 10, (s.e + (figs n).e) % 10⟩ : G5)) s).c = (m.foldl (fun s n => s + dig n 2) t) % 10
  | [], _, _, h => h
  | n :: m, s, t, h => chk_c m _ _ (by show (s.c + (figs n).c) % 10 = (t + (figs n).c) % 10; rw [h]; omega)
theorem chk_d : ∀ (m : List Int) (s : G5) (t : Int), s.d = t % 10 → (m.foldl (fun s n => (⟨(s.a + (figs n).a) % 10, (s.b + (figs n).b) % 10, (s.c + (figs n).c) % 10, (s.d + (figs n).d) % 10, (s.e + (figs n).e) % 10⟩ : G5)) s).d = (m.foldl (fun s n => s + dig n 3) t) % 10
  | [], _, _, h => h
  | n :: m, s, t, h => chk_d m _ _ (by show (s.d + (figs n).d) % 10 = (t + (figs n).d) % 10; rw [h]; omega)
theorem chk_e : ∀ (m : List Int) (s : G5) (t : Int), s.e = t % 10 → (m.foldl (fun s n => (⟨(s.a + (figs n).a) % 10, (s.b + (figs n).b) % 10, (s.c + (figs n).c) % 10, (s.d + (figs n).d) % 10, (s.e + (figs n).e) % 10⟩ : G5)) s).e = (m.foldl (fun s n => s + dig n 4) t) % 10
  | [], _, _, h => h
  | n :: m, s, t, h => chk_e m _ _ (by show (s.e + (figs n).e) % 10 = (t + (figs n).e) % 10; rw [h]; omega)
theorem figs_ck (m : List Int) : figs (ckN m 5) = chk m := by
  have e : figs (ckN m 5) = ⟨sumD m 0 % 10, sumD m 1 % 10, sumD m 2 % 10, sumD m 3 % 10, sumD m 4 % 10⟩ := by
    simp only [figs, ckN]
    congr 1 <;> omega
  have ha := chk_a m ⟨0, 0, 0, 0, 0⟩ 0 rfl
  have hb := chk_b m ⟨0, 0, 0, 0, 0⟩ 0 rfl
  have hc := chk_c m ⟨0, 0, 0, 0, 0⟩ 0 rfl
  have hd := chk_d m ⟨0, 0, 0, 0, 0⟩ 0 rfl
  have he := chk_e m ⟨0, 0, 0, 0, 0⟩ 0 rfl
  rw [e]
  cases hk : chk m
  simp only [chk] at hk
  rw [hk] at ha hb hc hd he
  simp only at ha hb hc hd he
  subst ha; subst hb; subst hc; subst hd; subst he
  rfl
/-- The groups of a message, as strings. -/
def grpsS (m : List Int) : List (List UInt8) := (grps m).map G5.chs
theorem str_step {m : List Int} {k : Nat} (h : k < m.length) : (m.take (k + 1)).map (fun n => [SL (grp n)]) = (m.take k).map (fun n => [SL (grp n)]) ++ [[SL (grp m[k])]] := by
  rw [List.take_succ_eq_append_getElem h, List.map_append]; rfl
theorem str_at {l : List (List UInt8)} {k : Nat} (h : k < l.length) : (l.map fun s => [eS s])[k]? = some [eS l[k]] := by simp [h]
theorem str_len {l : List (List UInt8)} : ∀ q ∈ l.map (fun s => [eS s]), q.length = 1 := by simp

/-- isobarlaw02.short -/
theorem f21 (c : Cod) : ACall Tryz.prog G 21 [.agg (eCod c)] (.v (.bool (decide (c.fields.length ≤ 6) && decide (c.turns.length ≤ 14)))) := by
  refine acall_of Tryz.func21 rfl (by kernel_rfl) rfl ?_
  refine ac_seq ?_
  refine ac_region ?_
  refine al_y rfl rfl (y_box rfl (cE_agg rfl)) ?_
  refine al_y rfl rfl (y_assignV rfl rfl) ?_
  refine al_nil ?_
  refine qt_normal ?_
  refine ac_seq ?_
  refine ac_region ?_
  refine al_y rfl rfl (y_fieldAddr rfl rfl fld25_0) ?_
  refine al_y rfl rfl (y_load1 rfl rfl rfl ty22) ?_
  refine al_y rfl rfl (y_len rfl rfl rfl Tryz.underlying22) ?_
  refine al_y rfl rfl (y_leq rfl rfl rfl) ?_
  refine al_y rfl rfl (y_moveV rfl rfl) ?_
  refine al_maybe rfl rfl rfl (fun hg => y_fieldAddr rfl rfl fld25_1) ?_
  refine al_maybe rfl rfl rfl (fun hg => y_load1 rfl (if_pos hg) rfl ty23) ?_
  refine al_maybe rfl rfl rfl (fun hg => y_len rfl rfl (if_pos hg) Tryz.underlying23) ?_
  refine al_maybe rfl rfl rfl (fun hg => y_leq rfl (if_pos hg) rfl) ?_
  refine al_y rfl rfl (y_and rfl rfl rfl rfl) ?_
  refine al_y rfl rfl (y_assignV rfl rfl) ?_
  refine al_nil ?_
  refine qt_normal ?_
  refine ac_ret ?_
  exact ⟨.inr rfl, AVle.of (by simp only [eInts, List.length_map]; exact congrArg (fun x : Bool => AV.v (Value.bool x)) (congr (congrArg (fun a b : Bool => a && b) (decide_eq_decide.2 (by omega))) (decide_eq_decide.2 (by omega))))⟩
end Go.Av
end
