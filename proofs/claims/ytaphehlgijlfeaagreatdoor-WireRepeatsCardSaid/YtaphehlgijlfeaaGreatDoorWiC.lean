/- Messages as groups. · The reference's groups; Send. -/
import Derived.Test.YtaphehlgijlfeaaGreatDoorWiB
set_option linter.unusedVariables false
set_option linter.unusedSimpArgs false
section
namespace Go.Av
open Go.Proofs
set_option maxRecDepth 100000
set_option maxHeartbeats 1000000
set_option linter.unusedSimpArgs false
variable {G : Glob}
theorem ti118 : Tryz.prog.info? 118 = some Tryz.t118 := by kernel_rfl
theorem el145 : elemIs Tryz.prog 145 118 5 40 := ⟨Tryz.underlying145, Tryz.t118, _, by kernel_rfl, rfl, rfl, rfl, rfl, by decide⟩

def chk (m : List Int) : G5 := m.foldl (fun s n => ⟨(s.a + (figs n).a) % 10, (s.b + (figs n).b) % 10, (s.c + (figs n).c) % 10, (s.d + (figs n).d) % 10, (s.e + (figs n).e) % 10⟩) ⟨0, 0, 0, 0, 0⟩
def grps (m : List Int) : List G5 := m.map figs ++ [chk m]
def iFg (g : G5) : List EV := [I g.a, I g.b, I g.c, I g.d, I g.e]
theorem chk_step {m : List Int} {k : Nat} (h : k < m.length) : chk (m.take (k + 1)) = ⟨((chk (m.take k)).a + (figs m[k]).a) % 10, ((chk (m.take k)).b + (figs m[k]).b) % 10, ((chk (m.take k)).c + (figs m[k]).c) % 10, ((chk (m.take k)).d + (figs m[k]).d) % 10, ((chk (m.take k)).e + (figs m[k]).e) % 10⟩ := by
  unfold chk; rw [List.take_succ_eq_append_getElem h, List.foldl_append]; rfl
theorem chk_ok : ∀ m : List Int, (chk m).ok := by
  have key : ∀ (m : List Int) (s : G5), s.ok → (m.foldl (fun s n => (⟨(s.a + (figs n).a) % 10, (s.b + (figs n).b) % 10, (s.c + (figs n).c) % 10, (s.d + (figs n).d) % 10, (s.e + (figs n).e) % 10⟩ : G5)) s).ok := by
    intro m
    induction m with
    | nil => exact fun s h => h
    | cons n m ih => exact fun s h => ih _ (by unfold G5.ok; dsimp only; omega)
  exact fun m => key m _ (by unfold G5.ok; dsimp only; omega)
theorem grps_ok {m : List Int} : ∀ g ∈ grps m, g.ok := fun g hg => by
  rcases List.mem_append.1 hg with h | h
  · obtain ⟨n, _, rfl⟩ := List.mem_map.1 h; exact figs_ok n
  · rw [List.mem_singleton.1 h]; exact chk_ok m
theorem out_step {m : List Int} {k : Nat} (h : k < m.length) : (m.take (k + 1)).map (fun n => iFg (figs n)) = (m.take k).map (fun n => iFg (figs n)) ++ [iFg (figs m[k])] := by
  rw [List.take_succ_eq_append_getElem h, List.map_append]; rfl

theorem f99 (m : List Int) (hl : m.length ≤ 1000) (hm : ∀ n ∈ m, 0 ≤ n ∧ n ≤ 1000000000000) : ACall Tryz.prog G 99 [eInts m] (.sl ((grps m).map eFg)) := by
 refine acall_of Tryz.func99 rfl (by kernel_rfl) rfl ?_
 refine ac_seq ?_
 refine ac_region ?_
 refine al_y rfl rfl (y_assignV rfl rfl) ?_
 refine al_nil ?_
 refine qt_normal ?_
 refine ac_seq ?_
 refine ac_region ?_
 refine al_y rfl rfl (y_assignV rfl rfl) ?_
 refine al_nil ?_
 refine qt_normal ?_
 refine ac_seq ?_
 refine ac_region ?_
 refine al_m rfl (m_alloc rfl rfl zv118 rfl rfl) ?_
 refine al_nil ?_
 refine qt_normal ?_
 refine ac_seq ?_
 refine ac_seq ?_
 refine ac_region ?_
 refine al_y rfl rfl (y_moveP rfl rfl) ?_
 refine al_y rfl rfl (y_len rfl rfl rfl Tryz.underlying23) ?_
 refine al_y rfl rfl (y_moveV rfl rfl) ?_
 refine al_nil ?_
 refine qt_normal ?_
 refine ac_block ?_
 refine ac_weak (weak_nil 3 rfl) ?_
 refine ac_loop (ι := { q : Nat // q ≤ m.length }) (fun q => ⟨Tryz.f99.ntmps, frL [(3, .psl 1 q.1), (4, .pp 0 1 0 0), (9, .pub (eInts m)), (10, I (m.length : Int)), (11, I (q.1 : Int))], [.row [iFg (chk (m.take q.1))], .row ((m.take q.1).map fun n => iFg (figs n))]⟩) (fun q => m.length - q.1) (⟨0, by omega⟩) ?_ ?_
 ·
  exact weak_frM _ ⟨rfl, rfl, rfl, (congrArg (fun x : Nat => I (x : Int)) (List.length_map _)), rfl, trivial⟩ (rfl)
 ·
  rintro ⟨q, hq⟩
  dsimp only
  refine ac_seq ?_
  refine ac_region ?_
  refine al_y rfl rfl (y_lss rfl rfl rfl) ?_
  refine al_nil ?_
  refine qt_normal ?_
  refine ac_seq ?_
  refine ac_cond rfl (fun h0 => ?_) (fun h0 => ?_)
  ·
   have hlt : q < m.length := by simpa using h0
   have v1 := hm _ (List.getElem_mem hlt)
   have cb := chk_ok (m.take q)
   have fb := figs_ok m[q]
   unfold G5.ok at cb fb
   refine ac_skip ?_
   refine qt_normal ?_
   refine ac_seq ?_
   refine ac_block ?_
   refine ac_seq ?_
   refine ac_region ?_
   refine al_y rfl rfl (y_indexAddr rfl rfl rfl slc23 (by omega) (int_at hlt) int_len) ?_
   refine al_y rfl rfl (y_load1 rfl rfl rfl ty3) ?_
   refine al_y rfl rfl (y_assignV rfl rfl) ?_
   refine al_nil ?_
   refine qt_normal ?_
   refine ac_seq ?_
   refine ac_region ?_
   refine al_y rfl rfl (y_moveV rfl rfl) ?_
   refine al_y rfl rfl (y_callF (av := [_]) rfl ⟨rfl, trivial⟩ (f86 m[q] v1)) ?_
   refine al_pair  rfl rfl rfl rfl rfl rfl rfl zv118 ty118 rfl (by rfl) (cE_agg rfl) rfl ?_
   refine al_nil ?_
   refine qt_normal ?_
   refine ac_seq ?_
   refine ac_region ?_
   refine al_y rfl rfl (y_moveS rfl rfl) ?_
   refine al_y rfl rfl (y_loadN rfl rfl ty118 (by exact Nat.le_of_ble_eq_true rfl)) ?_
   refine al_y rfl rfl (y_buildSlice (size := 5) (rows := [[_, _, _, _, _]]) rfl Tryz.underlying145 ti118 rfl (by decide) rfl (by decide) ⟨_, _, rfl, (cE_agg rfl), rfl⟩ (by rfl) (by simp [ofV]) rfl (by simp)) ?_
   refine al_m rfl (m_append rfl rfl rfl rfl (by simp; omega) rfl el145 (by intro r hr; obtain ⟨n, _, rfl⟩ := List.mem_map.1 hr; rfl) (by simp) (by simp; omega) (by unfold maxLen; simp; omega)) ?_
   refine al_y rfl rfl (y_assignS rfl rfl) ?_
   refine al_nil ?_
   refine qt_normal ?_
   refine ac_seq ?_
   refine ac_region ?_
   refine al_y rfl rfl (y_moveV rfl rfl) ?_
   refine al_nil ?_
   refine qt_normal ?_
   refine ac_block ?_
   refine ac_loop (ι := { k : Nat // k < 6 }) (fun k => match k.1 with | 0 => ⟨Tryz.f99.ntmps, frL [(3, .psl 1 (q + 1)), (4, .pp 0 1 0 0), (7, .pub (.ptr (eFg (figs m[q])))), (9, .pub (eInts m)), (10, I (m.length : Int)), (11, I (q : Int)), (21, I 0)], [.row [[I (chk (m.take q)).a, I (chk (m.take q)).b, I (chk (m.take q)).c, I (chk (m.take q)).d, I (chk (m.take q)).e]], .row ((m.take q).map (fun n => iFg (figs n)) ++ [iFg (figs m[q])])]⟩ | 1 => ⟨Tryz.f99.ntmps, frL [(3, .psl 1 (q + 1)), (4, .pp 0 1 0 0), (7, .pub (.ptr (eFg (figs m[q])))), (9, .pub (eInts m)), (10, I (m.length : Int)), (11, I (q : Int)), (21, I 1)], [.row [[I (((chk (m.take q)).a + (figs m[q]).a) % 10), I (chk (m.take q)).b, I (chk (m.take q)).c, I (chk (m.take q)).d, I (chk (m.take q)).e]], .row ((m.take q).map (fun n => iFg (figs n)) ++ [iFg (figs m[q])])]⟩ | 2 => ⟨Tryz.f99.ntmps, frL [(3, .psl 1 (q + 1)), (4, .pp 0 1 0 0), (7, .pub (.ptr (eFg (figs m[q])))), (9, .pub (eInts m)), (10, I (m.length : Int)), (11, I (q : Int)), (21, I 2)], [.row [[I (((chk (m.take q)).a + (figs m[q]).a) % 10), I (((chk (m.take q)).b + (figs m[q]).b) % 10), I (chk (m.take q)).c, I (chk (m.take q)).d, I (chk (m.take q)).e]], .row ((m.take q).map (fun n => iFg (figs n)) ++ [iFg (figs m[q])])]⟩ | 3 => ⟨Tryz.f99.ntmps, frL [(3, .psl 1 (q + 1)), (4, .pp 0 1 0 0), (7, .pub (.ptr (eFg (figs m[q])))), (9, .pub (eInts m)), (10, I (m.length : Int)), (11, I (q : Int)), (21, I 3)], [.row [[I (((chk (m.take q)).a + (figs m[q]).a) % 10), I (((chk (m.take q)).b + (figs m[q]).b) % 10), I (((chk (m.take q)).c + (figs m[q]).c) % 10), I (chk (m.take q)).d, I (chk (m.take q)).e]], .row ((m.take q).map (fun n => iFg (figs n)) ++ [iFg (figs m[q])])]⟩ | 4 => ⟨Tryz.f99.ntmps, frL [(3, .psl 1 (q + 1)), (4, .pp 0 1 0 0), (7, .pub (.ptr (eFg (figs m[q])))), (9, .pub (eInts m)), (10, I (m.length : Int)), (11, I (q : Int)), (21, I 4)], [.row [[I (((chk (m.take q)).a + (figs m[q]).a) % 10), I (((chk (m.take q)).b + (figs m[q]).b) % 10), I (((chk (m.take q)).c + (figs m[q]).c) % 10), I (((chk (m.take q)).d + (figs m[q]).d) % 10), I (chk (m.take q)).e]], .row ((m.take q).map (fun n => iFg (figs n)) ++ [iFg (figs m[q])])]⟩ | _ => ⟨Tryz.f99.ntmps, frL [(3, .psl 1 (q + 1)), (4, .pp 0 1 0 0), (7, .pub (.ptr (eFg (figs m[q])))), (9, .pub (eInts m)), (10, I (m.length : Int)), (11, I (q : Int)), (21, I 5)], [.row [[I (((chk (m.take q)).a + (figs m[q]).a) % 10), I (((chk (m.take q)).b + (figs m[q]).b) % 10), I (((chk (m.take q)).c + (figs m[q]).c) % 10), I (((chk (m.take q)).d + (figs m[q]).d) % 10), I (((chk (m.take q)).e + (figs m[q]).e) % 10)]], .row ((m.take q).map (fun n => iFg (figs n)) ++ [iFg (figs m[q])])]⟩) (fun k => 6 - k.1) (⟨0, by omega⟩) ?_ ?_
   ·
    exact weak_frM _ ⟨rfl, rfl, rfl, rfl, rfl, rfl, rfl, trivial⟩ (rfl)
   ·
    rintro ⟨k, hk⟩
    have hk3 : k = 0 ∨ k = 1 ∨ k = 2 ∨ k = 3 ∨ k = 4 ∨ k = 5 := by omega
    rcases hk3 with rfl | rfl | rfl | rfl | rfl | rfl
    ·
     dsimp only
     refine ac_seq ?_
     refine ac_region ?_
     refine al_y rfl rfl (y_lss rfl rfl rfl) ?_
     refine al_nil ?_
     refine qt_normal ?_
     refine ac_seq ?_
     refine ac_cond rfl (fun h1 => ?_) (fun h1 => ?_)
     ·
      refine ac_skip ?_
      refine qt_normal ?_
      refine ac_seq ?_
      refine ac_block ?_
      refine ac_seq ?_
      refine ac_region ?_
      refine al_y rfl rfl (y_moveV rfl rfl) ?_
      refine al_y rfl rfl (y_assignV rfl rfl) ?_
      refine al_nil ?_
      refine qt_normal ?_
      refine ac_mix (fun _ => True) (fun k => match k with | 10 => .writes | _ => .here) mixed (by kernel_rfl) rfl (by kernel_rfl) trivial ?_
      refine am_h rfl rfl (y_moveV rfl rfl) ?_
      refine am_h rfl rfl (y_moveV rfl rfl) ?_
      refine am_h rfl rfl (y_indexAddr_arrp rfl rfl rfl rfl rfl arr118 (by omega) (by omega)) ?_
      refine am_h rfl rfl (y_load_pp1 rfl rfl rfl rfl rfl rfl ty3) ?_
      refine am_h rfl rfl (y_moveV rfl rfl) ?_
      refine am_h rfl rfl (y_indexAddr_arr rfl rfl rfl arr118 (by omega) (by omega)) ?_
      refine am_h rfl rfl (y_load1 rfl rfl rfl ty3) ?_
      refine am_h rfl rfl (y_add rfl rfl rfl ⟨(by omega), (by omega)⟩) ?_
      refine am_h rfl rfl (y_rem rfl rfl rfl ⟨(by omega), (by omega)⟩) ?_
      refine am_h rfl rfl (y_indexAddr_arrp rfl rfl rfl rfl rfl arr118 (by omega) (by omega)) ?_
      refine am_w rfl rfl (opB_store rfl rfl rfl rfl rfl rfl (cE_v rfl) ty3 (by rfl) (by rfl)) trivial ?_
      refine am_nil ?_
      refine qb_normal ?_
      refine qt_normal ?_
      refine ac_region ?_
      refine al_y rfl rfl (y_add rfl rfl rfl ⟨(by omega), (by omega)⟩) ?_
      refine al_y rfl rfl (y_moveV rfl rfl) ?_
      refine al_nil ?_
      exact ⟨⟨1, by omega⟩, by dsimp only; omega, (by refine weak_frM (mem' := [.row [[I (((chk (m.take q)).a + (figs m[q]).a) % 10), I (chk (m.take q)).b, I (chk (m.take q)).c, I (chk (m.take q)).d, I (chk (m.take q)).e]], .row ((m.take q).map (fun n => iFg (figs n)) ++ [iFg (figs m[q])])]) [(3, .psl 1 (q + 1)), (4, .pp 0 1 0 0), (7, .pub (.ptr (eFg (figs m[q])))), (9, .pub (eInts m)), (10, I (m.length : Int)), (11, I (q : Int)), (21, I 1)] ?_ ?_; exact ⟨rfl, rfl, rfl, rfl, rfl, rfl, rfl, trivial⟩; exact (rfl))⟩
     ·
      exfalso; simp at h1
    ·
     dsimp only
     refine ac_seq ?_
     refine ac_region ?_
     refine al_y rfl rfl (y_lss rfl rfl rfl) ?_
     refine al_nil ?_
     refine qt_normal ?_
     refine ac_seq ?_
     refine ac_cond rfl (fun h1 => ?_) (fun h1 => ?_)
     ·
      refine ac_skip ?_
      refine qt_normal ?_
      refine ac_seq ?_
      refine ac_block ?_
      refine ac_seq ?_
      refine ac_region ?_
      refine al_y rfl rfl (y_moveV rfl rfl) ?_
      refine al_y rfl rfl (y_assignV rfl rfl) ?_
      refine al_nil ?_
      refine qt_normal ?_
      refine ac_mix (fun _ => True) (fun k => match k with | 10 => .writes | _ => .here) mixed (by kernel_rfl) rfl (by kernel_rfl) trivial ?_
      refine am_h rfl rfl (y_moveV rfl rfl) ?_
      refine am_h rfl rfl (y_moveV rfl rfl) ?_
      refine am_h rfl rfl (y_indexAddr_arrp rfl rfl rfl rfl rfl arr118 (by omega) (by omega)) ?_
      refine am_h rfl rfl (y_load_pp1 rfl rfl rfl rfl rfl rfl ty3) ?_
      refine am_h rfl rfl (y_moveV rfl rfl) ?_
      refine am_h rfl rfl (y_indexAddr_arr rfl rfl rfl arr118 (by omega) (by omega)) ?_
      refine am_h rfl rfl (y_load1 rfl rfl rfl ty3) ?_
      refine am_h rfl rfl (y_add rfl rfl rfl ⟨(by omega), (by omega)⟩) ?_
      refine am_h rfl rfl (y_rem rfl rfl rfl ⟨(by omega), (by omega)⟩) ?_
      refine am_h rfl rfl (y_indexAddr_arrp rfl rfl rfl rfl rfl arr118 (by omega) (by omega)) ?_
      refine am_w rfl rfl (opB_store rfl rfl rfl rfl rfl rfl (cE_v rfl) ty3 (by rfl) (by rfl)) trivial ?_
      refine am_nil ?_
      refine qb_normal ?_
      refine qt_normal ?_
      refine ac_region ?_
      refine al_y rfl rfl (y_add rfl rfl rfl ⟨(by omega), (by omega)⟩) ?_
      refine al_y rfl rfl (y_moveV rfl rfl) ?_
      refine al_nil ?_
      exact ⟨⟨2, by omega⟩, by dsimp only; omega, (by refine weak_frM (mem' := [.row [[I (((chk (m.take q)).a + (figs m[q]).a) % 10), I (((chk (m.take q)).b + (figs m[q]).b) % 10), I (chk (m.take q)).c, I (chk (m.take q)).d, I (chk (m.take q)).e]], .row ((m.take q).map (fun n => iFg (figs n)) ++ [iFg (figs m[q])])]) [(3, .psl 1 (q + 1)), (4, .pp 0 1 0 0), (7, .pub (.ptr (eFg (figs m[q])))), (9, .pub (eInts m)), (10, I (m.length : Int)), (11, I (q : Int)), (21, I 2)] ?_ ?_; exact ⟨rfl, rfl, rfl, rfl, rfl, rfl, rfl, trivial⟩; exact (rfl))⟩
     ·
      exfalso; simp at h1
    ·
     dsimp only
     refine ac_seq ?_
     refine ac_region ?_
     refine al_y rfl rfl (y_lss rfl rfl rfl) ?_
     refine al_nil ?_
     refine qt_normal ?_
     refine ac_seq ?_
     refine ac_cond rfl (fun h1 => ?_) (fun h1 => ?_)
     ·
      refine ac_skip ?_
      refine qt_normal ?_
      refine ac_seq ?_
      refine ac_block ?_
      refine ac_seq ?_
      refine ac_region ?_
      refine al_y rfl rfl (y_moveV rfl rfl) ?_
      refine al_y rfl rfl (y_assignV rfl rfl) ?_
      refine al_nil ?_
      refine qt_normal ?_
      refine ac_mix (fun _ => True) (fun k => match k with | 10 => .writes | _ => .here) mixed (by kernel_rfl) rfl (by kernel_rfl) trivial ?_
      refine am_h rfl rfl (y_moveV rfl rfl) ?_
      refine am_h rfl rfl (y_moveV rfl rfl) ?_
      refine am_h rfl rfl (y_indexAddr_arrp rfl rfl rfl rfl rfl arr118 (by omega) (by omega)) ?_
      refine am_h rfl rfl (y_load_pp1 rfl rfl rfl rfl rfl rfl ty3) ?_
      refine am_h rfl rfl (y_moveV rfl rfl) ?_
      refine am_h rfl rfl (y_indexAddr_arr rfl rfl rfl arr118 (by omega) (by omega)) ?_
      refine am_h rfl rfl (y_load1 rfl rfl rfl ty3) ?_
      refine am_h rfl rfl (y_add rfl rfl rfl ⟨(by omega), (by omega)⟩) ?_
      refine am_h rfl rfl (y_rem rfl rfl rfl ⟨(by omega), (by omega)⟩) ?_
      refine am_h rfl rfl (y_indexAddr_arrp rfl rfl rfl rfl rfl arr118 (by omega) (by omega)) ?_
      refine am_w rfl rfl (opB_store rfl rfl rfl rfl rfl rfl (cE_v rfl) ty3 (by rfl) (by rfl)) trivial ?_
      refine am_nil ?_
      refine qb_normal ?_
      refine qt_normal ?_
      refine ac_region ?_
      refine al_y rfl rfl (y_add rfl rfl rfl ⟨(by omega), (by omega)⟩) ?_
      refine al_y rfl rfl (y_moveV rfl rfl) ?_
      refine al_nil ?_
      exact ⟨⟨3, by omega⟩, by dsimp only; omega, (by refine weak_frM (mem' := [.row [[I (((chk (m.take q)).a + (figs m[q]).a) % 10), I (((chk (m.take q)).b + (figs m[q]).b) % 10), I (((chk (m.take q)).c + (figs m[q]).c) % 10), I (chk (m.take q)).d, I (chk (m.take q)).e]], .row ((m.take q).map (fun n => iFg (figs n)) ++ [iFg (figs m[q])])]) [(3, .psl 1 (q + 1)), (4, .pp 0 1 0 0), (7, .pub (.ptr (eFg (figs m[q])))), (9, .pub (eInts m)), (10, I (m.length : Int)), (11, I (q : Int)), (21, I 3)] ?_ ?_; exact ⟨rfl, rfl, rfl, rfl, rfl, rfl, rfl, trivial⟩; exact (rfl))⟩
     ·
      exfalso; simp at h1
    ·
     dsimp only
     refine ac_seq ?_
     refine ac_region ?_
     refine al_y rfl rfl (y_lss rfl rfl rfl) ?_
     refine al_nil ?_
     refine qt_normal ?_
     refine ac_seq ?_
     refine ac_cond rfl (fun h1 => ?_) (fun h1 => ?_)
     ·
      refine ac_skip ?_
      refine qt_normal ?_
      refine ac_seq ?_
      refine ac_block ?_
      refine ac_seq ?_
      refine ac_region ?_
      refine al_y rfl rfl (y_moveV rfl rfl) ?_
      refine al_y rfl rfl (y_assignV rfl rfl) ?_
      refine al_nil ?_
      refine qt_normal ?_
      refine ac_mix (fun _ => True) (fun k => match k with | 10 => .writes | _ => .here) mixed (by kernel_rfl) rfl (by kernel_rfl) trivial ?_
      refine am_h rfl rfl (y_moveV rfl rfl) ?_
      refine am_h rfl rfl (y_moveV rfl rfl) ?_
      refine am_h rfl rfl (y_indexAddr_arrp rfl rfl rfl rfl rfl arr118 (by omega) (by omega)) ?_
      refine am_h rfl rfl (y_load_pp1 rfl rfl rfl rfl rfl rfl ty3) ?_
      refine am_h rfl rfl (y_moveV rfl rfl) ?_
      refine am_h rfl rfl (y_indexAddr_arr rfl rfl rfl arr118 (by omega) (by omega)) ?_
      refine am_h rfl rfl (y_load1 rfl rfl rfl ty3) ?_
      refine am_h rfl rfl (y_add rfl rfl rfl ⟨(by omega), (by omega)⟩) ?_
      refine am_h rfl rfl (y_rem rfl rfl rfl ⟨(by omega), (by omega)⟩) ?_
      refine am_h rfl rfl (y_indexAddr_arrp rfl rfl rfl rfl rfl arr118 (by omega) (by omega)) ?_
      refine am_w rfl rfl (opB_store rfl rfl rfl rfl rfl rfl (cE_v rfl) ty3 (by rfl) (by rfl)) trivial ?_
      refine am_nil ?_
      refine qb_normal ?_
      refine qt_normal ?_
      refine ac_region ?_
      refine al_y rfl rfl (y_add rfl rfl rfl ⟨(by omega), (by omega)⟩) ?_
      refine al_y rfl rfl (y_moveV rfl rfl) ?_
      refine al_nil ?_
      exact ⟨⟨4, by omega⟩, by dsimp only; omega, (by refine weak_frM (mem' := [.row [[I (((chk (m.take q)).a + (figs m[q]).a) % 10), I (((chk (m.take q)).b + (figs m[q]).b) % 10), I (((chk (m.take q)).c + (figs m[q]).c) % 10), I (((chk (m.take q)).d + (figs m[q]).d) % 10), I (chk (m.take q)).e]], .row ((m.take q).map (fun n => iFg (figs n)) ++ [iFg (figs m[q])])]) [(3, .psl 1 (q + 1)), (4, .pp 0 1 0 0), (7, .pub (.ptr (eFg (figs m[q])))), (9, .pub (eInts m)), (10, I (m.length : Int)), (11, I (q : Int)), (21, I 4)] ?_ ?_; exact ⟨rfl, rfl, rfl, rfl, rfl, rfl, rfl, trivial⟩; exact (rfl))⟩
     ·
      exfalso; simp at h1
    ·
     dsimp only
     refine ac_seq ?_
     refine ac_region ?_
     refine al_y rfl rfl (y_lss rfl rfl rfl) ?_
     refine al_nil ?_
     refine qt_normal ?_
     refine ac_seq ?_
     refine ac_cond rfl (fun h1 => ?_) (fun h1 => ?_)
     ·
      refine ac_skip ?_
      refine qt_normal ?_
      refine ac_seq ?_
      refine ac_block ?_
      refine ac_seq ?_
      refine ac_region ?_
      refine al_y rfl rfl (y_moveV rfl rfl) ?_
      refine al_y rfl rfl (y_assignV rfl rfl) ?_
      refine al_nil ?_
      refine qt_normal ?_
      refine ac_mix (fun _ => True) (fun k => match k with | 10 => .writes | _ => .here) mixed (by kernel_rfl) rfl (by kernel_rfl) trivial ?_
      refine am_h rfl rfl (y_moveV rfl rfl) ?_
      refine am_h rfl rfl (y_moveV rfl rfl) ?_
      refine am_h rfl rfl (y_indexAddr_arrp rfl rfl rfl rfl rfl arr118 (by omega) (by omega)) ?_
      refine am_h rfl rfl (y_load_pp1 rfl rfl rfl rfl rfl rfl ty3) ?_
      refine am_h rfl rfl (y_moveV rfl rfl) ?_
      refine am_h rfl rfl (y_indexAddr_arr rfl rfl rfl arr118 (by omega) (by omega)) ?_
      refine am_h rfl rfl (y_load1 rfl rfl rfl ty3) ?_
      refine am_h rfl rfl (y_add rfl rfl rfl ⟨(by omega), (by omega)⟩) ?_
      refine am_h rfl rfl (y_rem rfl rfl rfl ⟨(by omega), (by omega)⟩) ?_
      refine am_h rfl rfl (y_indexAddr_arrp rfl rfl rfl rfl rfl arr118 (by omega) (by omega)) ?_
      refine am_w rfl rfl (opB_store rfl rfl rfl rfl rfl rfl (cE_v rfl) ty3 (by rfl) (by rfl)) trivial ?_
      refine am_nil ?_
      refine qb_normal ?_
      refine qt_normal ?_
      refine ac_region ?_
      refine al_y rfl rfl (y_add rfl rfl rfl ⟨(by omega), (by omega)⟩) ?_
      refine al_y rfl rfl (y_moveV rfl rfl) ?_
      refine al_nil ?_
      exact ⟨⟨5, by omega⟩, by dsimp only; omega, (by refine weak_frM (mem' := [.row [[I (((chk (m.take q)).a + (figs m[q]).a) % 10), I (((chk (m.take q)).b + (figs m[q]).b) % 10), I (((chk (m.take q)).c + (figs m[q]).c) % 10), I (((chk (m.take q)).d + (figs m[q]).d) % 10), I (((chk (m.take q)).e + (figs m[q]).e) % 10)]], .row ((m.take q).map (fun n => iFg (figs n)) ++ [iFg (figs m[q])])]) [(3, .psl 1 (q + 1)), (4, .pp 0 1 0 0), (7, .pub (.ptr (eFg (figs m[q])))), (9, .pub (eInts m)), (10, I (m.length : Int)), (11, I (q : Int)), (21, I 5)] ?_ ?_; exact ⟨rfl, rfl, rfl, rfl, rfl, rfl, rfl, trivial⟩; exact (rfl))⟩
     ·
      exfalso; simp at h1
    ·
     dsimp only
     refine ac_seq ?_
     refine ac_region ?_
     refine al_y rfl rfl (y_lss rfl rfl rfl) ?_
     refine al_nil ?_
     refine qt_normal ?_
     refine ac_seq ?_
     refine ac_cond rfl (fun h1 => ?_) (fun h1 => ?_)
     ·
      exfalso; simp at h1
     ·
      refine ac_exit ?_
      refine qt_exit ?_
      refine qt_exit ?_
      refine qb_exit ?_
      refine qb_normal ?_
      refine qt_normal ?_
      refine ac_region ?_
      refine al_y rfl rfl (y_add rfl rfl rfl ⟨(by omega), (by omega)⟩) ?_
      refine al_y rfl rfl (y_moveV rfl rfl) ?_
      refine al_nil ?_
      exact ⟨⟨q + 1, by omega⟩, by dsimp only; omega, weak_frM _ ⟨rfl, rfl, rfl, rfl, rfl, trivial⟩ (by rw [chk_step hlt, out_step hlt]; rfl)⟩
  ·
   have hge : m.length ≤ q := by simpa using h0
   have hk2 : q = m.length := by omega
   subst hk2
   refine ac_exit ?_
   refine qt_exit ?_
   refine qt_exit ?_
   refine qb_exit ?_
   refine qt_normal ?_
   refine ac_seq ?_
   refine ac_region ?_
   refine al_y rfl rfl (y_moveS rfl rfl) ?_
   refine al_y rfl rfl (y_load_ppA (cs := [_, _, _, _, _]) rfl rfl rfl rfl rfl (by exact Nat.le_of_ble_eq_true rfl) rfl ty118) ?_
   refine al_y rfl rfl (y_buildSlice (size := 5) (rows := [[_, _, _, _, _]]) rfl Tryz.underlying145 ti118 rfl (by decide) rfl (by decide) ⟨_, _, rfl, (cE_agg rfl), rfl⟩ (by rfl) (by simp [ofV]) rfl (by simp)) ?_
   refine al_m rfl (m_append rfl rfl rfl rfl (by simp) rfl el145 (by intro r hr; obtain ⟨n, _, rfl⟩ := List.mem_map.1 hr; rfl) (by simp) (by simp; omega) (by unfold maxLen; simp; omega)) ?_
   refine al_y rfl rfl (y_assignS rfl rfl) ?_
   refine al_nil ?_
   refine qt_normal ?_
   refine ac_ret ?_
   exact ⟨.inr rfl, ⟨((grps m).map eFg), by show some (PO.row _) = some (PO.row _); simp [grps, iFg, eFg, Function.comp_def], by simp [grps], rfl⟩⟩
end Go.Av
end

section
namespace Go.Av
open Go.Proofs
set_option maxRecDepth 100000
set_option maxHeartbeats 1000000
set_option linter.unusedSimpArgs false
variable {G : Glob}
theorem ti9 : Tryz.prog.info? 9 = some Tryz.t9 := by kernel_rfl
theorem el34 : elemIs Tryz.prog 34 9 1 16 := ⟨Tryz.underlying34, Tryz.t9, _, by kernel_rfl, rfl, rfl, rfl, rfl, by decide⟩
theorem slc145 : slcIs Tryz.prog 145 5 = true := by kernel_rfl
theorem slc34 : slcIs Tryz.prog 34 1 = true := by kernel_rfl
theorem ty9 : tyIs Tryz.prog 9 false 1 = true := by kernel_rfl

def sumD (m : List Int) (j : Nat) : Int := m.foldl (fun s n => s + dig n j) 0
def ckN (m : List Int) : Nat → Int
  | 0 => 0
  | j + 1 => 10 * ckN m j + sumD m j % 10
theorem sumD_step {m : List Int} {j k : Nat} (h : k < m.length) : sumD (m.take (k + 1)) j = sumD (m.take k) j + dig m[k] j := by
  unfold sumD; rw [List.take_succ_eq_append_getElem h, List.foldl_append]; rfl
theorem sumD_bd (m : List Int) (j : Nat) : 0 ≤ sumD m j ∧ sumD m j ≤ 9 * m.length := by
  have key : ∀ (m : List Int) (t : Int), t ≤ m.foldl (fun s n => s + dig n j) t ∧ m.foldl (fun s n => s + dig n j) t ≤ t + 9 * m.length := by
    intro m
    induction m with
    | nil => intro t; simp
    | cons n m ih =>
      intro t
      have h1 := ih (t + dig n j)
      have h2 := dig_bd (n := n) j
      simp only [List.foldl_cons, List.length_cons]
      omega
  have := key m 0
  unfold sumD; omega
theorem ckN_bd (m : List Int) : 0 ≤ ckN m 5 ∧ ckN m 5 ≤ 99999 ∧ (0 ≤ ckN m 0 ∧ ckN m 0 ≤ 0) ∧ (0 ≤ ckN m 1 ∧ ckN m 1 ≤ 9) ∧ (0 ≤ ckN m 2 ∧ ckN m 2 ≤ 99) ∧ (0 ≤ ckN m 3 ∧ ckN m 3 ≤ 999) ∧ (0 ≤ ckN m 4 ∧ ckN m 4 ≤ 9999) := by
  simp only [ckN]; omega
theorem chk_a : ∀ (m : List Int) (s : G5) (t : Int), s.a = t % 10 → (m.foldl (fun s n => (⟨(s.a + (figs n).a) % 10, (s.b + (figs n).b) % 10, (s.c + (figs n).c) % 10, (s.d + (figs n).d) % 10, (s.e + (figs n).e) % 10⟩ : G5)) s).a = (m.foldl (fun s n => s + dig n 0) t) % 10
  | [], _, _, h => h
  | n :: m, s, t, h => chk_a m _ _ (by show (s.a + (figs n).a) % 10 = (t + (figs n).a) % 10; rw [h]; omega)
theorem chk_b : ∀ (m : List Int) (s : G5) (t : Int), s.b = t % 10 → (m.foldl (fun s n => (⟨(s.a + (figs n).a) % 10, (s.b + (figs n).b) % 10, (s.c + (figs n).c) % 10, (s.d + (figs n).d) % 10, (s.e + (figs n).e) % 10⟩ : G5)) s).b = (m.foldl (fun s n => s + dig n 1) t) % 10
  | [], _, _, h => h
  | n :: m, s, t, h => chk_b m _ _ (by show (s.b + (figs n).b) % 10 = (t + (figs n).b) % 10; rw [h]; omega)
theorem chk_c : ∀ (m : List Int) (s : G5) (t : Int), s.c = t % 10 → (m.foldl (fun s n => (⟨(s.a + (figs n).a) % 10, (s.b + (figs n).b) % 10, (s.c + (figs n).c) % 10, (s.d + (figs n).d) % 10, (s.e + (figs n).e) % 10⟩ : G5)) s).c = (m.foldl (fun s n => s + dig n 2) t) % 10
  | [], _, _, h => h
  | n :: m, s, t, h => chk_c m _ _ (by show (s.c + (figs n).c) % 10 = (t + (figs n).c) % 10; rw [h]; omega)
theorem chk_d : ∀ (m : List Int) (s : G5) (t : Int), s.d = t % 10 → (m.foldl (fun s n => (⟨(s.a + (figs n).a) % 10, (s.b + (figs n).b) % 10, (s.c + (figs n).c) % 10, (s.d + (figs n).d) % 10, (s.e + (figs n).e) % 10⟩ : G5)) s).d = (m.foldl (fun s n => s + dig n 3) t) % 10
  | [], _, _, h => h
  | n :: m, s, t, h => chk_d m _ _ (by show (s.d + (figs n).d) % 10 = (t + (figs n).d) % 10; rw [h]; omega)
theorem chk_e : ∀ (m : List Int) (s : G5) (t : Int), s.e = t % 10 → (m.foldl (fun s n => (⟨(s.a + (figs n).a) % 10, (s.b + (figs n).b) % 10, (s.c + (figs n).c) % 10, (s.d + (figs n).d) % 10, (s.e + (figs n).e) % 10⟩ : G5)) s).e = (m.foldl (fun s n => s + dig n 4) t) % 10
  | [], _, _, h => h
  | n :: m, s, t, h => chk_e m _ _ (by show (s.e + (figs n).e) % 10 = (t + (figs n).e) % 10; rw [h]; omega)
theorem figs_ck (m : List Int) : figs (ckN m 5) = chk m := by
  have e : figs (ckN m 5) = ⟨sumD m 0 % 10, sumD m 1 % 10, sumD m 2 % 10, sumD m 3 % 10, sumD m 4 % 10⟩ := by
    simp only [figs, ckN]
    congr 1 <;> omega
  have ha := chk_a m ⟨0, 0, 0, 0, 0⟩ 0 rfl
  have hb := chk_b m ⟨0, 0, 0, 0, 0⟩ 0 rfl
  have hc := chk_c m ⟨0, 0, 0, 0, 0⟩ 0 rfl
  have hd := chk_d m ⟨0, 0, 0, 0, 0⟩ 0 rfl
  have he := chk_e m ⟨0, 0, 0, 0, 0⟩ 0 rfl
  rw [e]
  cases hk : chk m
  simp only [chk] at hk
  rw [hk] at ha hb hc hd he
  simp only at ha hb hc hd he
  subst ha; subst hb; subst hc; subst hd; subst he
  rfl
def grpsS (m : List Int) : List (List UInt8) := (grps m).map G5.chs
theorem str_step {m : List Int} {k : Nat} (h : k < m.length) : (m.take (k + 1)).map (fun n => [SL (grp n)]) = (m.take k).map (fun n => [SL (grp n)]) ++ [[SL (grp m[k])]] := by
  rw [List.take_succ_eq_append_getElem h, List.map_append]; rfl
theorem g_len {l : List G5} : ∀ q ∈ l.map eFg, q.length = 5 := fun q hq => by obtain ⟨p, _, rfl⟩ := List.mem_map.1 hq; rfl
theorem str_at {l : List (List UInt8)} {k : Nat} (h : k < l.length) : (l.map fun s => [eS s])[k]? = some [eS l[k]] := by simp [h]
theorem str_len {l : List (List UInt8)} : ∀ q ∈ l.map (fun s => [eS s]), q.length = 1 := by simp

theorem f35 (m : List Int) (hl : m.length ≤ 1000) (hm : ∀ n ∈ m, 0 ≤ n ∧ n ≤ 1000000000000) : ACall Tryz.prog G 35 [eInts m] (eStrs (grpsS m)) := by
 have cb := ckN_bd m
 refine acall_of Tryz.func35 rfl (by kernel_rfl) rfl ?_
 refine ac_seq ?_
 refine ac_region ?_
 refine al_y rfl rfl (y_assignV rfl rfl) ?_
 refine al_nil ?_
 refine qt_normal ?_
 refine ac_seq ?_
 refine ac_region ?_
 refine al_y rfl rfl (y_assignV rfl rfl) ?_
 refine al_nil ?_
 refine qt_normal ?_
 refine ac_seq ?_
 refine ac_region ?_
 refine al_y rfl rfl (y_assignV rfl rfl) ?_
 refine al_nil ?_
 refine qt_normal ?_
 refine ac_seq ?_
 refine ac_seq ?_
 refine ac_region ?_
 refine al_y rfl rfl (y_assignV rfl rfl) ?_
 refine al_nil ?_
 refine qt_normal ?_
 refine ac_block ?_
 refine ac_loop (ι := { k : Nat // k < 6 }) (fun k => match k.1 with | 0 => ⟨Tryz.f35.ntmps, frL [(0, .pub (eInts m)), (3, nilE), (4, I (ckN m 0)), (5, I 0)], []⟩ | 1 => ⟨Tryz.f35.ntmps, frL [(0, .pub (eInts m)), (3, nilE), (4, I (ckN m 1)), (5, I 1)], []⟩ | 2 => ⟨Tryz.f35.ntmps, frL [(0, .pub (eInts m)), (3, nilE), (4, I (ckN m 2)), (5, I 2)], []⟩ | 3 => ⟨Tryz.f35.ntmps, frL [(0, .pub (eInts m)), (3, nilE), (4, I (ckN m 3)), (5, I 3)], []⟩ | 4 => ⟨Tryz.f35.ntmps, frL [(0, .pub (eInts m)), (3, nilE), (4, I (ckN m 4)), (5, I 4)], []⟩ | _ => ⟨Tryz.f35.ntmps, frL [(0, .pub (eInts m)), (3, nilE), (4, I (ckN m 5)), (5, I 5)], []⟩) (fun k => 6 - k.1) (⟨0, by omega⟩) ?_ ?_
 ·
  exact weak_frM _ ⟨rfl, rfl, rfl, rfl, trivial⟩ (rfl)
 ·
  rintro ⟨k, hk⟩
  have hk3 : k = 0 ∨ k = 1 ∨ k = 2 ∨ k = 3 ∨ k = 4 ∨ k = 5 := by omega
  rcases hk3 with rfl | rfl | rfl | rfl | rfl | rfl
  ·
   dsimp only
   refine ac_seq ?_
   refine ac_seq ?_
   refine ac_region ?_
   refine al_y rfl rfl (y_moveV rfl rfl) ?_
   refine al_y rfl rfl (y_lss rfl rfl rfl) ?_
   refine al_nil ?_
   refine qt_normal ?_
   refine ac_cond rfl (fun h0 => ?_) (fun h0 => ?_)
   ·
    refine ac_skip ?_
    refine qt_normal ?_
    refine ac_seq ?_
    refine ac_block ?_
    refine ac_seq ?_
    refine ac_region ?_
    refine al_y rfl rfl (y_assignV rfl rfl) ?_
    refine al_nil ?_
    refine qt_normal ?_
    refine ac_seq ?_
    refine ac_seq ?_
    refine ac_region ?_
    refine al_y rfl rfl (y_assignV rfl rfl) ?_
    refine al_nil ?_
    refine qt_normal ?_
    refine ac_block ?_
    refine ac_loop (ι := { q : Nat // q ≤ m.length }) (fun q => ⟨Tryz.f35.ntmps, frL [(0, .pub (eInts m)), (3, nilE), (4, I (ckN m 0)), (5, I 0), (6, I (sumD (m.take q.1) 0)), (7, I (q.1 : Int))], []⟩) (fun q => m.length - q.1) (⟨0, by omega⟩) ?_ ?_
    ·
     exact weak_frM _ ⟨rfl, rfl, rfl, rfl, rfl, rfl, trivial⟩ (rfl)
    ·
     rintro ⟨q, hq⟩
     dsimp only
     have sb := sumD_bd (m.take q) 0
     have sl : (m.take q).length ≤ q := by simp; omega
     refine ac_seq ?_
     refine ac_seq ?_
     refine ac_region ?_
     refine al_y rfl rfl (y_moveV rfl rfl) ?_
     refine al_y rfl rfl (y_moveP rfl rfl) ?_
     refine al_y rfl rfl (y_len rfl rfl rfl Tryz.underlying23) ?_
     refine al_y rfl rfl (y_lss rfl rfl rfl) ?_
     refine al_nil ?_
     refine qt_normal ?_
     refine ac_cond rfl (fun h1 => ?_) (fun h1 => ?_)
     ·
      have hlt : q < m.length := by simpa [eInts] using h1
      have v1 := hm _ (List.getElem_mem hlt)
      have db := dig_bd (n := m[q]) 0
      have db1 := dig_bd (n := m[q]) 1
      have db2 := dig_bd (n := m[q]) 2
      have db3 := dig_bd (n := m[q]) 3
      have db4 := dig_bd (n := m[q]) 4
      refine ac_skip ?_
      refine qt_normal ?_
      refine ac_seq ?_
      refine ac_block ?_
      refine ac_region ?_
      refine al_y rfl rfl (y_moveV rfl rfl) ?_
      refine al_y rfl rfl (y_moveP rfl rfl) ?_
      refine al_y rfl rfl (y_moveV rfl rfl) ?_
      refine al_y rfl rfl (y_indexAddr rfl rfl rfl slc23 (by omega) (int_at hlt) int_len) ?_
      refine al_y rfl rfl (y_load1 rfl rfl rfl ty3) ?_
      refine al_y rfl rfl (y_moveV rfl rfl) ?_
      refine al_y rfl rfl (y_callF (av := [_, _]) rfl ⟨rfl, rfl, trivial⟩ (f92 m[q] 0 v1 (by omega))) ?_
      refine al_y rfl rfl (y_add rfl rfl rfl ⟨(by omega), (by omega)⟩) ?_
      refine al_y rfl rfl (y_assignV rfl rfl) ?_
      refine al_nil ?_
      refine qb_normal ?_
      refine qt_normal ?_
      refine ac_region ?_
      refine al_y rfl rfl (y_moveV rfl rfl) ?_
      refine al_y rfl rfl (y_add rfl rfl rfl ⟨(by omega), (by omega)⟩) ?_
      refine al_y rfl rfl (y_assignV rfl rfl) ?_
      refine al_nil ?_
      exact ⟨⟨q + 1, by omega⟩, by dsimp only; omega, weak_frM _ ⟨rfl, rfl, rfl, rfl, (congrArg (fun x : Int => I x) (sumD_step hlt).symm), rfl, trivial⟩ (rfl)⟩
     ·
      have hge : m.length ≤ q := by simpa [eInts] using h1
      have hk2 : q = m.length := by omega
      subst hk2
      refine ac_exit ?_
      refine qt_exit ?_
      refine qt_exit ?_
      refine qb_exit ?_
      refine qt_normal ?_
      refine ac_region ?_
      refine al_y rfl rfl (y_moveV rfl rfl) ?_
      refine al_y rfl rfl (y_mul rfl rfl rfl ⟨(by omega), (by omega)⟩) ?_
      refine al_y rfl rfl (y_moveV rfl rfl) ?_
      refine al_y rfl rfl (y_rem rfl rfl rfl ⟨(by omega), (by omega)⟩) ?_
      refine al_y rfl rfl (y_add rfl rfl rfl ⟨(by omega), (by omega)⟩) ?_
      refine al_y rfl rfl (y_assignV rfl rfl) ?_
      refine al_nil ?_
      refine qb_normal ?_
      refine qt_normal ?_
      refine ac_region ?_
      refine al_y rfl rfl (y_moveV rfl rfl) ?_
      refine al_y rfl rfl (y_add rfl rfl rfl ⟨(by omega), (by omega)⟩) ?_
      refine al_y rfl rfl (y_assignV rfl rfl) ?_
      refine al_nil ?_
      exact ⟨⟨1, by omega⟩, by dsimp only; omega, (by refine weak_frM (mem' := []) [(0, .pub (eInts m)), (3, nilE), (4, I (ckN m 1)), (5, I 1)] ?_ ?_; exact ⟨rfl, rfl, (congrArg (fun x => I (10 * ckN m 0 + sumD x 0 % 10)) (List.take_length ..)), rfl, trivial⟩; exact (rfl))⟩
   ·
    exfalso; simp at h0
  ·
   dsimp only
   refine ac_seq ?_
   refine ac_seq ?_
   refine ac_region ?_
   refine al_y rfl rfl (y_moveV rfl rfl) ?_
   refine al_y rfl rfl (y_lss rfl rfl rfl) ?_
   refine al_nil ?_
   refine qt_normal ?_
   refine ac_cond rfl (fun h0 => ?_) (fun h0 => ?_)
   ·
    refine ac_skip ?_
    refine qt_normal ?_
    refine ac_seq ?_
    refine ac_block ?_
    refine ac_seq ?_
    refine ac_region ?_
    refine al_y rfl rfl (y_assignV rfl rfl) ?_
    refine al_nil ?_
    refine qt_normal ?_
    refine ac_seq ?_
    refine ac_seq ?_
    refine ac_region ?_
    refine al_y rfl rfl (y_assignV rfl rfl) ?_
    refine al_nil ?_
    refine qt_normal ?_
    refine ac_block ?_
    refine ac_loop (ι := { q : Nat // q ≤ m.length }) (fun q => ⟨Tryz.f35.ntmps, frL [(0, .pub (eInts m)), (3, nilE), (4, I (ckN m 1)), (5, I 1), (6, I (sumD (m.take q.1) 1)), (7, I (q.1 : Int))], []⟩) (fun q => m.length - q.1) (⟨0, by omega⟩) ?_ ?_
    ·
     exact weak_frM _ ⟨rfl, rfl, rfl, rfl, rfl, rfl, trivial⟩ (rfl)
    ·
     rintro ⟨q, hq⟩
     dsimp only
     have sb := sumD_bd (m.take q) 1
     have sl : (m.take q).length ≤ q := by simp; omega
     refine ac_seq ?_
     refine ac_seq ?_
     refine ac_region ?_
     refine al_y rfl rfl (y_moveV rfl rfl) ?_
     refine al_y rfl rfl (y_moveP rfl rfl) ?_
     refine al_y rfl rfl (y_len rfl rfl rfl Tryz.underlying23) ?_
     refine al_y rfl rfl (y_lss rfl rfl rfl) ?_
     refine al_nil ?_
     refine qt_normal ?_
     refine ac_cond rfl (fun h1 => ?_) (fun h1 => ?_)
     ·
      have hlt : q < m.length := by simpa [eInts] using h1
      have v1 := hm _ (List.getElem_mem hlt)
      have db := dig_bd (n := m[q]) 0
      have db1 := dig_bd (n := m[q]) 1
      have db2 := dig_bd (n := m[q]) 2
      have db3 := dig_bd (n := m[q]) 3
      have db4 := dig_bd (n := m[q]) 4
      refine ac_skip ?_
      refine qt_normal ?_
      refine ac_seq ?_
      refine ac_block ?_
      refine ac_region ?_
      refine al_y rfl rfl (y_moveV rfl rfl) ?_
      refine al_y rfl rfl (y_moveP rfl rfl) ?_
      refine al_y rfl rfl (y_moveV rfl rfl) ?_
      refine al_y rfl rfl (y_indexAddr rfl rfl rfl slc23 (by omega) (int_at hlt) int_len) ?_
      refine al_y rfl rfl (y_load1 rfl rfl rfl ty3) ?_
      refine al_y rfl rfl (y_moveV rfl rfl) ?_
      refine al_y rfl rfl (y_callF (av := [_, _]) rfl ⟨rfl, rfl, trivial⟩ (f92 m[q] 1 v1 (by omega))) ?_
      refine al_y rfl rfl (y_add rfl rfl rfl ⟨(by omega), (by omega)⟩) ?_
      refine al_y rfl rfl (y_assignV rfl rfl) ?_
      refine al_nil ?_
      refine qb_normal ?_
      refine qt_normal ?_
      refine ac_region ?_
      refine al_y rfl rfl (y_moveV rfl rfl) ?_
      refine al_y rfl rfl (y_add rfl rfl rfl ⟨(by omega), (by omega)⟩) ?_
      refine al_y rfl rfl (y_assignV rfl rfl) ?_
      refine al_nil ?_
      exact ⟨⟨q + 1, by omega⟩, by dsimp only; omega, weak_frM _ ⟨rfl, rfl, rfl, rfl, (congrArg (fun x : Int => I x) (sumD_step hlt).symm), rfl, trivial⟩ (rfl)⟩
     ·
      have hge : m.length ≤ q := by simpa [eInts] using h1
      have hk2 : q = m.length := by omega
      subst hk2
      refine ac_exit ?_
      refine qt_exit ?_
      refine qt_exit ?_
      refine qb_exit ?_
      refine qt_normal ?_
      refine ac_region ?_
      refine al_y rfl rfl (y_moveV rfl rfl) ?_
      refine al_y rfl rfl (y_mul rfl rfl rfl ⟨(by omega), (by omega)⟩) ?_
      refine al_y rfl rfl (y_moveV rfl rfl) ?_
      refine al_y rfl rfl (y_rem rfl rfl rfl ⟨(by omega), (by omega)⟩) ?_
      refine al_y rfl rfl (y_add rfl rfl rfl ⟨(by omega), (by omega)⟩) ?_
      refine al_y rfl rfl (y_assignV rfl rfl) ?_
      refine al_nil ?_
      refine qb_normal ?_
      refine qt_normal ?_
      refine ac_region ?_
      refine al_y rfl rfl (y_moveV rfl rfl) ?_
      refine al_y rfl rfl (y_add rfl rfl rfl ⟨(by omega), (by omega)⟩) ?_
      refine al_y rfl rfl (y_assignV rfl rfl) ?_
      refine al_nil ?_
      exact ⟨⟨2, by omega⟩, by dsimp only; omega, (by refine weak_frM (mem' := []) [(0, .pub (eInts m)), (3, nilE), (4, I (ckN m 2)), (5, I 2)] ?_ ?_; exact ⟨rfl, rfl, (congrArg (fun x => I (10 * ckN m 1 + sumD x 1 % 10)) (List.take_length ..)), rfl, trivial⟩; exact (rfl))⟩
   ·
    exfalso; simp at h0
  ·
   dsimp only
   refine ac_seq ?_
   refine ac_seq ?_
   refine ac_region ?_
   refine al_y rfl rfl (y_moveV rfl rfl) ?_
   refine al_y rfl rfl (y_lss rfl rfl rfl) ?_
   refine al_nil ?_
   refine qt_normal ?_
   refine ac_cond rfl (fun h0 => ?_) (fun h0 => ?_)
   ·
    refine ac_skip ?_
    refine qt_normal ?_
    refine ac_seq ?_
    refine ac_block ?_
    refine ac_seq ?_
    refine ac_region ?_
    refine al_y rfl rfl (y_assignV rfl rfl) ?_
    refine al_nil ?_
    refine qt_normal ?_
    refine ac_seq ?_
    refine ac_seq ?_
    refine ac_region ?_
    refine al_y rfl rfl (y_assignV rfl rfl) ?_
    refine al_nil ?_
    refine qt_normal ?_
    refine ac_block ?_
    refine ac_loop (ι := { q : Nat // q ≤ m.length }) (fun q => ⟨Tryz.f35.ntmps, frL [(0, .pub (eInts m)), (3, nilE), (4, I (ckN m 2)), (5, I 2), (6, I (sumD (m.take q.1) 2)), (7, I (q.1 : Int))], []⟩) (fun q => m.length - q.1) (⟨0, by omega⟩) ?_ ?_
    ·
     exact weak_frM _ ⟨rfl, rfl, rfl, rfl, rfl, rfl, trivial⟩ (rfl)
    ·
     rintro ⟨q, hq⟩
     dsimp only
     have sb := sumD_bd (m.take q) 2
     have sl : (m.take q).length ≤ q := by simp; omega
     refine ac_seq ?_
     refine ac_seq ?_
     refine ac_region ?_
     refine al_y rfl rfl (y_moveV rfl rfl) ?_
     refine al_y rfl rfl (y_moveP rfl rfl) ?_
     refine al_y rfl rfl (y_len rfl rfl rfl Tryz.underlying23) ?_
     refine al_y rfl rfl (y_lss rfl rfl rfl) ?_
     refine al_nil ?_
     refine qt_normal ?_
     refine ac_cond rfl (fun h1 => ?_) (fun h1 => ?_)
     ·
      have hlt : q < m.length := by simpa [eInts] using h1
      have v1 := hm _ (List.getElem_mem hlt)
      have db := dig_bd (n := m[q]) 0
      have db1 := dig_bd (n := m[q]) 1
      have db2 := dig_bd (n := m[q]) 2
      have db3 := dig_bd (n := m[q]) 3
      have db4 := dig_bd (n := m[q]) 4
      refine ac_skip ?_
      refine qt_normal ?_
      refine ac_seq ?_
      refine ac_block ?_
      refine ac_region ?_
      refine al_y rfl rfl (y_moveV rfl rfl) ?_
      refine al_y rfl rfl (y_moveP rfl rfl) ?_
      refine al_y rfl rfl (y_moveV rfl rfl) ?_
      refine al_y rfl rfl (y_indexAddr rfl rfl rfl slc23 (by omega) (int_at hlt) int_len) ?_
      refine al_y rfl rfl (y_load1 rfl rfl rfl ty3) ?_
      refine al_y rfl rfl (y_moveV rfl rfl) ?_
      refine al_y rfl rfl (y_callF (av := [_, _]) rfl ⟨rfl, rfl, trivial⟩ (f92 m[q] 2 v1 (by omega))) ?_
      refine al_y rfl rfl (y_add rfl rfl rfl ⟨(by omega), (by omega)⟩) ?_
      refine al_y rfl rfl (y_assignV rfl rfl) ?_
      refine al_nil ?_
      refine qb_normal ?_
      refine qt_normal ?_
      refine ac_region ?_
      refine al_y rfl rfl (y_moveV rfl rfl) ?_
      refine al_y rfl rfl (y_add rfl rfl rfl ⟨(by omega), (by omega)⟩) ?_
      refine al_y rfl rfl (y_assignV rfl rfl) ?_
      refine al_nil ?_
      exact ⟨⟨q + 1, by omega⟩, by dsimp only; omega, weak_frM _ ⟨rfl, rfl, rfl, rfl, (congrArg (fun x : Int => I x) (sumD_step hlt).symm), rfl, trivial⟩ (rfl)⟩
     ·
      have hge : m.length ≤ q := by simpa [eInts] using h1
      have hk2 : q = m.length := by omega
      subst hk2
      refine ac_exit ?_
      refine qt_exit ?_
      refine qt_exit ?_
      refine qb_exit ?_
      refine qt_normal ?_
      refine ac_region ?_
      refine al_y rfl rfl (y_moveV rfl rfl) ?_
      refine al_y rfl rfl (y_mul rfl rfl rfl ⟨(by omega), (by omega)⟩) ?_
      refine al_y rfl rfl (y_moveV rfl rfl) ?_
      refine al_y rfl rfl (y_rem rfl rfl rfl ⟨(by omega), (by omega)⟩) ?_
      refine al_y rfl rfl (y_add rfl rfl rfl ⟨(by omega), (by omega)⟩) ?_
      refine al_y rfl rfl (y_assignV rfl rfl) ?_
      refine al_nil ?_
      refine qb_normal ?_
      refine qt_normal ?_
      refine ac_region ?_
      refine al_y rfl rfl (y_moveV rfl rfl) ?_
      refine al_y rfl rfl (y_add rfl rfl rfl ⟨(by omega), (by omega)⟩) ?_
      refine al_y rfl rfl (y_assignV rfl rfl) ?_
      refine al_nil ?_
      exact ⟨⟨3, by omega⟩, by dsimp only; omega, (by refine weak_frM (mem' := []) [(0, .pub (eInts m)), (3, nilE), (4, I (ckN m 3)), (5, I 3)] ?_ ?_; exact ⟨rfl, rfl, (congrArg (fun x => I (10 * ckN m 2 + sumD x 2 % 10)) (List.take_length ..)), rfl, trivial⟩; exact (rfl))⟩
   ·
    exfalso; simp at h0
  ·
   dsimp only
   refine ac_seq ?_
   refine ac_seq ?_
   refine ac_region ?_
   refine al_y rfl rfl (y_moveV rfl rfl) ?_
   refine al_y rfl rfl (y_lss rfl rfl rfl) ?_
   refine al_nil ?_
   refine qt_normal ?_
   refine ac_cond rfl (fun h0 => ?_) (fun h0 => ?_)
   ·
    refine ac_skip ?_
    refine qt_normal ?_
    refine ac_seq ?_
    refine ac_block ?_
    refine ac_seq ?_
    refine ac_region ?_
    refine al_y rfl rfl (y_assignV rfl rfl) ?_
    refine al_nil ?_
    refine qt_normal ?_
    refine ac_seq ?_
    refine ac_seq ?_
    refine ac_region ?_
    refine al_y rfl rfl (y_assignV rfl rfl) ?_
    refine al_nil ?_
    refine qt_normal ?_
    refine ac_block ?_
    refine ac_loop (ι := { q : Nat // q ≤ m.length }) (fun q => ⟨Tryz.f35.ntmps, frL [(0, .pub (eInts m)), (3, nilE), (4, I (ckN m 3)), (5, I 3), (6, I (sumD (m.take q.1) 3)), (7, I (q.1 : Int))], []⟩) (fun q => m.length - q.1) (⟨0, by omega⟩) ?_ ?_
    ·
     exact weak_frM _ ⟨rfl, rfl, rfl, rfl, rfl, rfl, trivial⟩ (rfl)
    ·
     rintro ⟨q, hq⟩
     dsimp only
     have sb := sumD_bd (m.take q) 3
     have sl : (m.take q).length ≤ q := by simp; omega
     refine ac_seq ?_
     refine ac_seq ?_
     refine ac_region ?_
     refine al_y rfl rfl (y_moveV rfl rfl) ?_
     refine al_y rfl rfl (y_moveP rfl rfl) ?_
     refine al_y rfl rfl (y_len rfl rfl rfl Tryz.underlying23) ?_
     refine al_y rfl rfl (y_lss rfl rfl rfl) ?_
     refine al_nil ?_
     refine qt_normal ?_
     refine ac_cond rfl (fun h1 => ?_) (fun h1 => ?_)
     ·
      have hlt : q < m.length := by simpa [eInts] using h1
      have v1 := hm _ (List.getElem_mem hlt)
      have db := dig_bd (n := m[q]) 0
      have db1 := dig_bd (n := m[q]) 1
      have db2 := dig_bd (n := m[q]) 2
      have db3 := dig_bd (n := m[q]) 3
      have db4 := dig_bd (n := m[q]) 4
      refine ac_skip ?_
      refine qt_normal ?_
      refine ac_seq ?_
      refine ac_block ?_
      refine ac_region ?_
      refine al_y rfl rfl (y_moveV rfl rfl) ?_
      refine al_y rfl rfl (y_moveP rfl rfl) ?_
      refine al_y rfl rfl (y_moveV rfl rfl) ?_
      refine al_y rfl rfl (y_indexAddr rfl rfl rfl slc23 (by omega) (int_at hlt) int_len) ?_
      refine al_y rfl rfl (y_load1 rfl rfl rfl ty3) ?_
      refine al_y rfl rfl (y_moveV rfl rfl) ?_
      refine al_y rfl rfl (y_callF (av := [_, _]) rfl ⟨rfl, rfl, trivial⟩ (f92 m[q] 3 v1 (by omega))) ?_
      refine al_y rfl rfl (y_add rfl rfl rfl ⟨(by omega), (by omega)⟩) ?_
      refine al_y rfl rfl (y_assignV rfl rfl) ?_
      refine al_nil ?_
      refine qb_normal ?_
      refine qt_normal ?_
      refine ac_region ?_
      refine al_y rfl rfl (y_moveV rfl rfl) ?_
      refine al_y rfl rfl (y_add rfl rfl rfl ⟨(by omega), (by omega)⟩) ?_
      refine al_y rfl rfl (y_assignV rfl rfl) ?_
      refine al_nil ?_
      exact ⟨⟨q + 1, by omega⟩, by dsimp only; omega, weak_frM _ ⟨rfl, rfl, rfl, rfl, (congrArg (fun x : Int => I x) (sumD_step hlt).symm), rfl, trivial⟩ (rfl)⟩
     ·
      have hge : m.length ≤ q := by simpa [eInts] using h1
      have hk2 : q = m.length := by omega
      subst hk2
      refine ac_exit ?_
      refine qt_exit ?_
      refine qt_exit ?_
      refine qb_exit ?_
      refine qt_normal ?_
      refine ac_region ?_
      refine al_y rfl rfl (y_moveV rfl rfl) ?_
      refine al_y rfl rfl (y_mul rfl rfl rfl ⟨(by omega), (by omega)⟩) ?_
      refine al_y rfl rfl (y_moveV rfl rfl) ?_
      refine al_y rfl rfl (y_rem rfl rfl rfl ⟨(by omega), (by omega)⟩) ?_
      refine al_y rfl rfl (y_add rfl rfl rfl ⟨(by omega), (by omega)⟩) ?_
      refine al_y rfl rfl (y_assignV rfl rfl) ?_
      refine al_nil ?_
      refine qb_normal ?_
      refine qt_normal ?_
      refine ac_region ?_
      refine al_y rfl rfl (y_moveV rfl rfl) ?_
      refine al_y rfl rfl (y_add rfl rfl rfl ⟨(by omega), (by omega)⟩) ?_
      refine al_y rfl rfl (y_assignV rfl rfl) ?_
      refine al_nil ?_
      exact ⟨⟨4, by omega⟩, by dsimp only; omega, (by refine weak_frM (mem' := []) [(0, .pub (eInts m)), (3, nilE), (4, I (ckN m 4)), (5, I 4)] ?_ ?_; exact ⟨rfl, rfl, (congrArg (fun x => I (10 * ckN m 3 + sumD x 3 % 10)) (List.take_length ..)), rfl, trivial⟩; exact (rfl))⟩
   ·
    exfalso; simp at h0
  ·
   dsimp only
   refine ac_seq ?_
   refine ac_seq ?_
   refine ac_region ?_
   refine al_y rfl rfl (y_moveV rfl rfl) ?_
   refine al_y rfl rfl (y_lss rfl rfl rfl) ?_
   refine al_nil ?_
   refine qt_normal ?_
   refine ac_cond rfl (fun h0 => ?_) (fun h0 => ?_)
   ·
    refine ac_skip ?_
    refine qt_normal ?_
    refine ac_seq ?_
    refine ac_block ?_
    refine ac_seq ?_
    refine ac_region ?_
    refine al_y rfl rfl (y_assignV rfl rfl) ?_
    refine al_nil ?_
    refine qt_normal ?_
    refine ac_seq ?_
    refine ac_seq ?_
    refine ac_region ?_
    refine al_y rfl rfl (y_assignV rfl rfl) ?_
    refine al_nil ?_
    refine qt_normal ?_
    refine ac_block ?_
    refine ac_loop (ι := { q : Nat // q ≤ m.length }) (fun q => ⟨Tryz.f35.ntmps, frL [(0, .pub (eInts m)), (3, nilE), (4, I (ckN m 4)), (5, I 4), (6, I (sumD (m.take q.1) 4)), (7, I (q.1 : Int))], []⟩) (fun q => m.length - q.1) (⟨0, by omega⟩) ?_ ?_
    ·
     exact weak_frM _ ⟨rfl, rfl, rfl, rfl, rfl, rfl, trivial⟩ (rfl)
    ·
     rintro ⟨q, hq⟩
     dsimp only
     have sb := sumD_bd (m.take q) 4
     have sl : (m.take q).length ≤ q := by simp; omega
     refine ac_seq ?_
     refine ac_seq ?_
     refine ac_region ?_
     refine al_y rfl rfl (y_moveV rfl rfl) ?_
     refine al_y rfl rfl (y_moveP rfl rfl) ?_
     refine al_y rfl rfl (y_len rfl rfl rfl Tryz.underlying23) ?_
     refine al_y rfl rfl (y_lss rfl rfl rfl) ?_
     refine al_nil ?_
     refine qt_normal ?_
     refine ac_cond rfl (fun h1 => ?_) (fun h1 => ?_)
     ·
      have hlt : q < m.length := by simpa [eInts] using h1
      have v1 := hm _ (List.getElem_mem hlt)
      have db := dig_bd (n := m[q]) 0
      have db1 := dig_bd (n := m[q]) 1
      have db2 := dig_bd (n := m[q]) 2
      have db3 := dig_bd (n := m[q]) 3
      have db4 := dig_bd (n := m[q]) 4
      refine ac_skip ?_
      refine qt_normal ?_
      refine ac_seq ?_
      refine ac_block ?_
      refine ac_region ?_
      refine al_y rfl rfl (y_moveV rfl rfl) ?_
      refine al_y rfl rfl (y_moveP rfl rfl) ?_
      refine al_y rfl rfl (y_moveV rfl rfl) ?_
      refine al_y rfl rfl (y_indexAddr rfl rfl rfl slc23 (by omega) (int_at hlt) int_len) ?_
      refine al_y rfl rfl (y_load1 rfl rfl rfl ty3) ?_
      refine al_y rfl rfl (y_moveV rfl rfl) ?_
      refine al_y rfl rfl (y_callF (av := [_, _]) rfl ⟨rfl, rfl, trivial⟩ (f92 m[q] 4 v1 (by omega))) ?_
      refine al_y rfl rfl (y_add rfl rfl rfl ⟨(by omega), (by omega)⟩) ?_
      refine al_y rfl rfl (y_assignV rfl rfl) ?_
      refine al_nil ?_
      refine qb_normal ?_
      refine qt_normal ?_
      refine ac_region ?_
      refine al_y rfl rfl (y_moveV rfl rfl) ?_
      refine al_y rfl rfl (y_add rfl rfl rfl ⟨(by omega), (by omega)⟩) ?_
      refine al_y rfl rfl (y_assignV rfl rfl) ?_
      refine al_nil ?_
      exact ⟨⟨q + 1, by omega⟩, by dsimp only; omega, weak_frM _ ⟨rfl, rfl, rfl, rfl, (congrArg (fun x : Int => I x) (sumD_step hlt).symm), rfl, trivial⟩ (rfl)⟩
     ·
      have hge : m.length ≤ q := by simpa [eInts] using h1
      have hk2 : q = m.length := by omega
      subst hk2
      refine ac_exit ?_
      refine qt_exit ?_
      refine qt_exit ?_
      refine qb_exit ?_
      refine qt_normal ?_
      refine ac_region ?_
      refine al_y rfl rfl (y_moveV rfl rfl) ?_
      refine al_y rfl rfl (y_mul rfl rfl rfl ⟨(by omega), (by omega)⟩) ?_
      refine al_y rfl rfl (y_moveV rfl rfl) ?_
      refine al_y rfl rfl (y_rem rfl rfl rfl ⟨(by omega), (by omega)⟩) ?_
      refine al_y rfl rfl (y_add rfl rfl rfl ⟨(by omega), (by omega)⟩) ?_
      refine al_y rfl rfl (y_assignV rfl rfl) ?_
      refine al_nil ?_
      refine qb_normal ?_
      refine qt_normal ?_
      refine ac_region ?_
      refine al_y rfl rfl (y_moveV rfl rfl) ?_
      refine al_y rfl rfl (y_add rfl rfl rfl ⟨(by omega), (by omega)⟩) ?_
      refine al_y rfl rfl (y_assignV rfl rfl) ?_
      refine al_nil ?_
      exact ⟨⟨5, by omega⟩, by dsimp only; omega, (by refine weak_frM (mem' := []) [(0, .pub (eInts m)), (3, nilE), (4, I (ckN m 5)), (5, I 5)] ?_ ?_; exact ⟨rfl, rfl, (congrArg (fun x => I (10 * ckN m 4 + sumD x 4 % 10)) (List.take_length ..)), rfl, trivial⟩; exact (rfl))⟩
   ·
    exfalso; simp at h0
  ·
   dsimp only
   refine ac_seq ?_
   refine ac_seq ?_
   refine ac_region ?_
   refine al_y rfl rfl (y_moveV rfl rfl) ?_
   refine al_y rfl rfl (y_lss rfl rfl rfl) ?_
   refine al_nil ?_
   refine qt_normal ?_
   refine ac_cond rfl (fun h0 => ?_) (fun h0 => ?_)
   ·
    exfalso; simp at h0
   ·
    refine ac_exit ?_
    refine qt_exit ?_
    refine qt_exit ?_
    refine qb_exit ?_
    refine qt_normal ?_
    refine ac_seq ?_
    refine ac_seq ?_
    refine ac_region ?_
    refine al_y rfl rfl (y_assignV rfl rfl) ?_
    refine al_nil ?_
    refine qt_normal ?_
    refine ac_block ?_
    refine ac_weak (weak_nil 3 rfl) ?_
    refine ac_loop (ι := { r : Nat // r ≤ m.length }) (fun r => ⟨Tryz.f35.ntmps, frL [(0, .pub (eInts m)), (3, .psl 0 r.1), (4, I (ckN m 5)), (8, I (r.1 : Int))], [.row ((m.take r.1).map fun n => [SL (grp n)])]⟩) (fun r => m.length - r.1) (⟨0, by omega⟩) ?_ ?_
    ·
     exact weak_frM _ ⟨rfl, rfl, rfl, rfl, trivial⟩ (rfl)
    ·
     rintro ⟨r, hr⟩
     dsimp only
     refine ac_seq ?_
     refine ac_seq ?_
     refine ac_region ?_
     refine al_y rfl rfl (y_moveV rfl rfl) ?_
     refine al_y rfl rfl (y_moveP rfl rfl) ?_
     refine al_y rfl rfl (y_len rfl rfl rfl Tryz.underlying23) ?_
     refine al_y rfl rfl (y_lss rfl rfl rfl) ?_
     refine al_nil ?_
     refine qt_normal ?_
     refine ac_cond rfl (fun h2 => ?_) (fun h2 => ?_)
     ·
      have hlt : r < m.length := by simpa [eInts] using h2
      have v1 := hm _ (List.getElem_mem hlt)
      refine ac_skip ?_
      refine qt_normal ?_
      refine ac_seq ?_
      refine ac_block ?_
      refine ac_region ?_
      refine al_y rfl rfl (y_moveS rfl rfl) ?_
      refine al_y rfl rfl (y_moveP rfl rfl) ?_
      refine al_y rfl rfl (y_moveV rfl rfl) ?_
      refine al_y rfl rfl (y_indexAddr rfl rfl rfl slc23 (by omega) (int_at hlt) int_len) ?_
      refine al_y rfl rfl (y_load1 rfl rfl rfl ty3) ?_
      refine al_y rfl rfl (y_callF (av := [_]) rfl ⟨rfl, trivial⟩ (f94 m[r] v1)) ?_
      refine al_y rfl rfl (y_buildSlice (size := 1) (rows := [[_]]) rfl Tryz.underlying34 ti9 rfl (by decide) rfl (by decide) ⟨_, _, rfl, (cE_v rfl), rfl⟩ (by rfl) (by simp [ofV]) rfl (by simp)) ?_
      refine al_m rfl (m_append rfl rfl rfl rfl (by simp; omega) rfl el34 (by intro r hr; obtain ⟨n, _, rfl⟩ := List.mem_map.1 hr; rfl) (by simp) (by simp; omega) (by unfold maxLen; simp; omega)) ?_
      refine al_y rfl rfl (y_assignS rfl rfl) ?_
      refine al_nil ?_
      refine qb_normal ?_
      refine qt_normal ?_
      refine ac_region ?_
      refine al_y rfl rfl (y_moveV rfl rfl) ?_
      refine al_y rfl rfl (y_add rfl rfl rfl ⟨(by omega), (by omega)⟩) ?_
      refine al_y rfl rfl (y_assignV rfl rfl) ?_
      refine al_nil ?_
      exact ⟨⟨r + 1, by omega⟩, by dsimp only; omega, weak_frM _ ⟨rfl, rfl, rfl, rfl, trivial⟩ (congrArg (fun z => [PO.row z]) (str_step hlt).symm)⟩
     ·
      have hge : m.length ≤ r := by simpa [eInts] using h2
      have hk2 : r = m.length := by omega
      subst hk2
      refine ac_exit ?_
      refine qt_exit ?_
      refine qt_exit ?_
      refine qb_exit ?_
      refine qt_normal ?_
      refine ac_seq ?_
      refine ac_region ?_
      refine al_y rfl rfl (y_moveS rfl rfl) ?_
      refine al_y rfl rfl (y_moveV rfl rfl) ?_
      refine al_y rfl rfl (y_callF (av := [_]) rfl ⟨rfl, trivial⟩ (f94 (ckN m 5) (by omega))) ?_
      refine al_y rfl rfl (y_buildSlice (size := 1) (rows := [[_]]) rfl Tryz.underlying34 ti9 rfl (by decide) rfl (by decide) ⟨_, _, rfl, (cE_v rfl), rfl⟩ (by rfl) (by simp [ofV]) rfl (by simp)) ?_
      refine al_m rfl (m_append rfl rfl rfl rfl (by simp) rfl el34 (by intro r hr; obtain ⟨n, _, rfl⟩ := List.mem_map.1 hr; rfl) (by simp) (by simp; omega) (by unfold maxLen; simp; omega)) ?_
      refine al_y rfl rfl (y_assignS rfl rfl) ?_
      refine al_nil ?_
      refine qt_normal ?_
      refine ac_ret ?_
      exact ⟨.inr rfl, ⟨((grpsS m).map fun s => [eS s]), by show some (PO.row _) = some (PO.row _); simp [grpsS, grps, grp, figs_ck, Function.comp_def], by simp [grpsS, grps], rfl⟩⟩

theorem f21 (c : Cod) : ACall Tryz.prog G 21 [.agg (eCod c)] (.v (.bool (decide (c.fields.length ≤ 6) && decide (c.turns.length ≤ 14)))) := by
 refine acall_of Tryz.func21 rfl (by kernel_rfl) rfl ?_
 refine ac_seq ?_
 refine ac_region ?_
 refine al_y rfl rfl (y_box rfl (cE_agg rfl)) ?_
 refine al_y rfl rfl (y_assignV rfl rfl) ?_
 refine al_nil ?_
 refine qt_normal ?_
 refine ac_seq ?_
 refine ac_region ?_
 refine al_y rfl rfl (y_fieldAddr rfl rfl fld25_0) ?_
 refine al_y rfl rfl (y_load1 rfl rfl rfl ty22) ?_
 refine al_y rfl rfl (y_len rfl rfl rfl Tryz.underlying22) ?_
 refine al_y rfl rfl (y_leq rfl rfl rfl) ?_
 refine al_y rfl rfl (y_moveV rfl rfl) ?_
 refine al_maybe rfl rfl rfl (fun hg => y_fieldAddr rfl rfl fld25_1) ?_
 refine al_maybe rfl rfl rfl (fun hg => y_load1 rfl (if_pos hg) rfl ty23) ?_
 refine al_maybe rfl rfl rfl (fun hg => y_len rfl rfl (if_pos hg) Tryz.underlying23) ?_
 refine al_maybe rfl rfl rfl (fun hg => y_leq rfl (if_pos hg) rfl) ?_
 refine al_y rfl rfl (y_and rfl rfl rfl rfl) ?_
 refine al_y rfl rfl (y_assignV rfl rfl) ?_
 refine al_nil ?_
 refine qt_normal ?_
 refine ac_ret ?_
 exact ⟨.inr rfl, AVle.of (by simp only [eInts, List.length_map]; exact congrArg (fun x : Bool => AV.v (Value.bool x)) (congr (congrArg (fun a b : Bool => a && b) (decide_eq_decide.2 (by omega))) (decide_eq_decide.2 (by omega))))⟩
end Go.Av
end
