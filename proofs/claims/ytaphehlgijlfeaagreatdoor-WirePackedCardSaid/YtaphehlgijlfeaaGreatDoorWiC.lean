
import Derived.Test.YtaphehlgijlfeaaGreatDoorWiB
set_option linter.unusedVariables false
set_option linter.unusedSimpArgs false
section
namespace Go.Av
open Go.Proofs
set_option maxRecDepth 100000
set_option maxHeartbeats 1000000
variable {G : Glob}
theorem zqL : Tryz.prog.info? 118 = some Tryz.t118 := by kernel_rfl
theorem zqX : elemIs Tryz.prog 145 118 5 40 := ⟨Tryz.underlying145, Tryz.t118, _, by kernel_rfl, rfl, rfl, rfl, rfl, by decide⟩
def chk (m : List Int) : G5 := m.foldl (fun s n => ⟨(s.a + (qB n).a) % 10, (s.b + (qB n).b) % 10, (s.c + (qB n).c) % 10, (s.d + (qB n).d) % 10, (s.e + (qB n).e) % 10⟩) ⟨0, 0, 0, 0, 0⟩
def vV (m : List Int) : List G5 := m.map qB ++ [chk m]
def iFg (g : G5) : List EV := [I g.a, I g.b, I g.c, I g.d, I g.e]
theorem zoJ {m : List Int} {k : Nat} (h : k < m.length) : chk (m.take (k + 1)) = ⟨((chk (m.take k)).a + (qB m[k]).a) % 10, ((chk (m.take k)).b + (qB m[k]).b) % 10, ((chk (m.take k)).c + (qB m[k]).c) % 10, ((chk (m.take k)).d + (qB m[k]).d) % 10, ((chk (m.take k)).e + (qB m[k]).e) % 10⟩ := by
 unfold chk; rw [List.take_succ_eq_append_getElem h, List.foldl_append]; rfl
theorem zno : ∀ m : List Int, (chk m).ok := by
 have key : ∀ (m : List Int) (s : G5), s.ok -> (m.foldl (fun s n => (⟨(s.a + (qB n).a) % 10, (s.b + (qB n).b) % 10, (s.c + (qB n).c) % 10, (s.d + (qB n).d) % 10, (s.e + (qB n).e) % 10⟩ : G5)) s).ok := by
  intro m
  induction m with
  | nil => exact fun s h => h
  | cons n m ih => exact fun s h => ih _ (by unfold G5.ok; dsimp only; omega)
 exact fun m => key m _ (by unfold G5.ok; dsimp only; omega)
theorem zpI {m : List Int} : ∀ g ∈ vV m, g.ok := fun g hg => by
 rcases List.mem_append.1 hg with h | h
 ·
  obtain ⟨n, _, rfl⟩ := List.mem_map.1 h; exact zlN n
 ·
  rw [List.mem_singleton.1 h]; exact zno m
theorem zne {m : List Int} {k : Nat} (h : k < m.length) : (m.take (k + 1)).map (fun n => iFg (qB n)) = (m.take k).map (fun n => iFg (qB n)) ++ [iFg (qB m[k])] := by
 rw [List.take_succ_eq_append_getElem h, List.map_append]; rfl
theorem f99 (m : List Int) (hl : m.length <= 1000) (hm : ∀ n ∈ m, 0 <= n /\ n <= 1000000000000) : ACall Tryz.prog G 99 [zO m] (.sl ((vV m).map eFg)) := by
 refine zS Tryz.func99 rfl (by kernel_rfl) rfl ?_
 refine zl (zh (zg rfl rfl (zn rfl rfl) (zo (zf (zl (zh (zg rfl rfl (zn rfl rfl) (zo (zf (zl (zh ?_)))))))))))
 refine jb rfl (wJ rfl rfl ziu rfl rfl) (zo (zf (zl (zl (zh (zg rfl rfl (zq rfl rfl) (zg rfl rfl (qh rfl rfl rfl Tryz.underlying23) (zg rfl rfl (zi rfl rfl) (zo (zf (zB ?_)))))))))))
 refine qx (kG 3 rfl) ?_
 refine qy (ι := { q : Nat // q <= m.length }) (fun q => ⟨Tryz.f99.ntmps, frL [(3, .psl 1 q.1), (4, .pp 0 1 0 0), (9, .pub (zO m)), (10, I (m.length : Int)), (11, I (q.1 : Int))], [.row [iFg (chk (m.take q.1))], .row ((m.take q.1).map fun n => iFg (qB n))]⟩) (fun q => m.length - q.1) (⟨0, by omega⟩) ?_ ?_
 ·
  exact zt _ ⟨rfl, rfl, rfl, (congrArg (fun x : Nat => I (x : Int)) (List.length_map _)), rfl, trivial⟩ (rfl)
 ·
  rintro ⟨q, hq⟩
  dsimp only
  refine zl (zh (zg rfl rfl (qi rfl rfl rfl) (zo (zf (zl (zx rfl (fun h0 => ?_) (fun h0 => ?_)))))))
  ·
   have hlt : q < m.length := by simpa using h0
   have v1 := hm _ (List.getElem_mem hlt)
   have cb := zno (m.take q)
   have fb := zlN m[q]
   unfold G5.ok at cb fb
   refine zC (zf (zl (zB (zl (zh (zg rfl rfl (zG rfl rfl rfl jv (by omega) (wu hlt) jC) (zg rfl rfl (zA rfl rfl rfl ty3) (zg rfl rfl (zn rfl rfl) (zo (zf (zl ?_)))))))))))
   refine zh (zg rfl rfl (zi rfl rfl) (zg rfl rfl (zy (av := [_]) rfl ⟨rfl, trivial⟩ (f86 m[q] v1)) ?_))
   refine vI  rfl rfl rfl rfl rfl rfl rfl ziu zck rfl (by rfl) (zY rfl) rfl ?_
   refine zo (zf (zl (zh (zg rfl rfl (zI rfl rfl) (zg rfl rfl (zZ rfl rfl zck (by exact zLb rfl)) ?_)))))
   refine zg rfl rfl (qg (size := 5) (rows := [[_, _, _, _, _]]) rfl Tryz.underlying145 zqL rfl (by decide) rfl (by decide) ⟨_, _, rfl, (zY rfl), rfl⟩ (by rfl) (by simp [ofV]) rfl (by simp)) ?_
   refine jb rfl (vS rfl rfl rfl rfl (by simp; omega) rfl zqX (by intro r hr; obtain ⟨n, _, rfl⟩ := List.mem_map.1 hr; rfl) (by simp) (by simp; omega) (by unfold maxLen; simp; omega)) ?_
   refine zg rfl rfl (qo rfl rfl) (zo (zf (zl (zh (zg rfl rfl (zi rfl rfl) (zo (zf (zB ?_))))))))
   refine qy (ι := { k : Nat // k < 6 }) (fun k => match k.1 with | 0 => ⟨Tryz.f99.ntmps, frL [(3, .psl 1 (q + 1)), (4, .pp 0 1 0 0), (7, .pub (.ptr (eFg (qB m[q])))), (9, .pub (zO m)), (10, I (m.length : Int)), (11, I (q : Int)), (21, I 0)], [.row [[I (chk (m.take q)).a, I (chk (m.take q)).b, I (chk (m.take q)).c, I (chk (m.take q)).d, I (chk (m.take q)).e]], .row ((m.take q).map (fun n => iFg (qB n)) ++ [iFg (qB m[q])])]⟩ | 1 => ⟨Tryz.f99.ntmps, frL [(3, .psl 1 (q + 1)), (4, .pp 0 1 0 0), (7, .pub (.ptr (eFg (qB m[q])))), (9, .pub (zO m)), (10, I (m.length : Int)), (11, I (q : Int)), (21, I 1)], [.row [[I (((chk (m.take q)).a + (qB m[q]).a) % 10), I (chk (m.take q)).b, I (chk (m.take q)).c, I (chk (m.take q)).d, I (chk (m.take q)).e]], .row ((m.take q).map (fun n => iFg (qB n)) ++ [iFg (qB m[q])])]⟩ | 2 => ⟨Tryz.f99.ntmps, frL [(3, .psl 1 (q + 1)), (4, .pp 0 1 0 0), (7, .pub (.ptr (eFg (qB m[q])))), (9, .pub (zO m)), (10, I (m.length : Int)), (11, I (q : Int)), (21, I 2)], [.row [[I (((chk (m.take q)).a + (qB m[q]).a) % 10), I (((chk (m.take q)).b + (qB m[q]).b) % 10), I (chk (m.take q)).c, I (chk (m.take q)).d, I (chk (m.take q)).e]], .row ((m.take q).map (fun n => iFg (qB n)) ++ [iFg (qB m[q])])]⟩ | 3 => ⟨Tryz.f99.ntmps, frL [(3, .psl 1 (q + 1)), (4, .pp 0 1 0 0), (7, .pub (.ptr (eFg (qB m[q])))), (9, .pub (zO m)), (10, I (m.length : Int)), (11, I (q : Int)), (21, I 3)], [.row [[I (((chk (m.take q)).a + (qB m[q]).a) % 10), I (((chk (m.take q)).b + (qB m[q]).b) % 10), I (((chk (m.take q)).c + (qB m[q]).c) % 10), I (chk (m.take q)).d, I (chk (m.take q)).e]], .row ((m.take q).map (fun n => iFg (qB n)) ++ [iFg (qB m[q])])]⟩ | 4 => ⟨Tryz.f99.ntmps, frL [(3, .psl 1 (q + 1)), (4, .pp 0 1 0 0), (7, .pub (.ptr (eFg (qB m[q])))), (9, .pub (zO m)), (10, I (m.length : Int)), (11, I (q : Int)), (21, I 4)], [.row [[I (((chk (m.take q)).a + (qB m[q]).a) % 10), I (((chk (m.take q)).b + (qB m[q]).b) % 10), I (((chk (m.take q)).c + (qB m[q]).c) % 10), I (((chk (m.take q)).d + (qB m[q]).d) % 10), I (chk (m.take q)).e]], .row ((m.take q).map (fun n => iFg (qB n)) ++ [iFg (qB m[q])])]⟩ | _ => ⟨Tryz.f99.ntmps, frL [(3, .psl 1 (q + 1)), (4, .pp 0 1 0 0), (7, .pub (.ptr (eFg (qB m[q])))), (9, .pub (zO m)), (10, I (m.length : Int)), (11, I (q : Int)), (21, I 5)], [.row [[I (((chk (m.take q)).a + (qB m[q]).a) % 10), I (((chk (m.take q)).b + (qB m[q]).b) % 10), I (((chk (m.take q)).c + (qB m[q]).c) % 10), I (((chk (m.take q)).d + (qB m[q]).d) % 10), I (((chk (m.take q)).e + (qB m[q]).e) % 10)]], .row ((m.take q).map (fun n => iFg (qB n)) ++ [iFg (qB m[q])])]⟩) (fun k => 6 - k.1) (⟨0, by omega⟩) ?_ ?_
   ·
    exact zt _ ⟨rfl, rfl, rfl, rfl, rfl, rfl, rfl, trivial⟩ (rfl)
   ·
    rintro ⟨k, hk⟩
    have hk3 : k = 0 ∨ k = 1 ∨ k = 2 ∨ k = 3 ∨ k = 4 ∨ k = 5 := by omega
    rcases hk3 with rfl | rfl | rfl | rfl | rfl | rfl
    ·
     dsimp only
     refine zl (zh (zg rfl rfl (qi rfl rfl rfl) (zo (zf (zl (zx rfl (fun h1 => ?_) (fun h1 => ?_)))))))
     ·
      refine zC (zf (zl (zB (zl (zh (zg rfl rfl (zi rfl rfl) (zg rfl rfl (zn rfl rfl) (zo (zf ?_)))))))))
      refine wR (fun _ => True) (fun k => match k with | 10 => .writes | _ => .here) mixed (by kernel_rfl) rfl (by kernel_rfl) trivial ?_
      refine zX rfl rfl (zi rfl rfl) (zX rfl rfl (zi rfl rfl) (zX rfl rfl (zJ rfl rfl rfl rfl rfl vw (by omega) (by omega)) (zX rfl rfl (zK rfl rfl rfl rfl rfl rfl ty3) (zX rfl rfl (zi rfl rfl) (zX rfl rfl (vP rfl rfl rfl vw (by omega) (by omega)) (zX rfl rfl (zA rfl rfl rfl ty3) (zX rfl rfl (zV rfl rfl rfl ⟨(by omega), (by omega)⟩) (zX rfl rfl (yA rfl rfl rfl ⟨(by omega), (by omega)⟩) (zX rfl rfl (zJ rfl rfl rfl rfl rfl vw (by omega) (by omega)) ?_)))))))))
      refine zaw rfl rfl (jk rfl rfl rfl rfl rfl rfl (jF rfl) ty3 (by rfl) (by rfl)) trivial ?_
      refine wQ (zD (zf (zh (zg rfl rfl (zV rfl rfl rfl ⟨(by omega), (by omega)⟩) (zg rfl rfl (zi rfl rfl) (zo ?_))))))
      exact ⟨⟨1, by omega⟩, by dsimp only; omega, (by refine zt (mem' := [.row [[I (((chk (m.take q)).a + (qB m[q]).a) % 10), I (chk (m.take q)).b, I (chk (m.take q)).c, I (chk (m.take q)).d, I (chk (m.take q)).e]], .row ((m.take q).map (fun n => iFg (qB n)) ++ [iFg (qB m[q])])]) [(3, .psl 1 (q + 1)), (4, .pp 0 1 0 0), (7, .pub (.ptr (eFg (qB m[q])))), (9, .pub (zO m)), (10, I (m.length : Int)), (11, I (q : Int)), (21, I 1)] ?_ ?_; exact ⟨rfl, rfl, rfl, rfl, rfl, rfl, rfl, trivial⟩; exact (rfl))⟩
     ·
      exfalso; simp at h1
    ·
     dsimp only
     refine zl (zh (zg rfl rfl (qi rfl rfl rfl) (zo (zf (zl (zx rfl (fun h1 => ?_) (fun h1 => ?_)))))))
     ·
      refine zC (zf (zl (zB (zl (zh (zg rfl rfl (zi rfl rfl) (zg rfl rfl (zn rfl rfl) (zo (zf ?_)))))))))
      refine wR (fun _ => True) (fun k => match k with | 10 => .writes | _ => .here) mixed (by kernel_rfl) rfl (by kernel_rfl) trivial ?_
      refine zX rfl rfl (zi rfl rfl) (zX rfl rfl (zi rfl rfl) (zX rfl rfl (zJ rfl rfl rfl rfl rfl vw (by omega) (by omega)) (zX rfl rfl (zK rfl rfl rfl rfl rfl rfl ty3) (zX rfl rfl (zi rfl rfl) (zX rfl rfl (vP rfl rfl rfl vw (by omega) (by omega)) (zX rfl rfl (zA rfl rfl rfl ty3) (zX rfl rfl (zV rfl rfl rfl ⟨(by omega), (by omega)⟩) (zX rfl rfl (yA rfl rfl rfl ⟨(by omega), (by omega)⟩) (zX rfl rfl (zJ rfl rfl rfl rfl rfl vw (by omega) (by omega)) ?_)))))))))
      refine zaw rfl rfl (jk rfl rfl rfl rfl rfl rfl (jF rfl) ty3 (by rfl) (by rfl)) trivial ?_
      refine wQ (zD (zf (zh (zg rfl rfl (zV rfl rfl rfl ⟨(by omega), (by omega)⟩) (zg rfl rfl (zi rfl rfl) (zo ?_))))))
      exact ⟨⟨2, by omega⟩, by dsimp only; omega, (by refine zt (mem' := [.row [[I (((chk (m.take q)).a + (qB m[q]).a) % 10), I (((chk (m.take q)).b + (qB m[q]).b) % 10), I (chk (m.take q)).c, I (chk (m.take q)).d, I (chk (m.take q)).e]], .row ((m.take q).map (fun n => iFg (qB n)) ++ [iFg (qB m[q])])]) [(3, .psl 1 (q + 1)), (4, .pp 0 1 0 0), (7, .pub (.ptr (eFg (qB m[q])))), (9, .pub (zO m)), (10, I (m.length : Int)), (11, I (q : Int)), (21, I 2)] ?_ ?_; exact ⟨rfl, rfl, rfl, rfl, rfl, rfl, rfl, trivial⟩; exact (rfl))⟩
     ·
      exfalso; simp at h1
    ·
     dsimp only
     refine zl (zh (zg rfl rfl (qi rfl rfl rfl) (zo (zf (zl (zx rfl (fun h1 => ?_) (fun h1 => ?_)))))))
     ·
      refine zC (zf (zl (zB (zl (zh (zg rfl rfl (zi rfl rfl) (zg rfl rfl (zn rfl rfl) (zo (zf ?_)))))))))
      refine wR (fun _ => True) (fun k => match k with | 10 => .writes | _ => .here) mixed (by kernel_rfl) rfl (by kernel_rfl) trivial ?_
      refine zX rfl rfl (zi rfl rfl) (zX rfl rfl (zi rfl rfl) (zX rfl rfl (zJ rfl rfl rfl rfl rfl vw (by omega) (by omega)) (zX rfl rfl (zK rfl rfl rfl rfl rfl rfl ty3) (zX rfl rfl (zi rfl rfl) (zX rfl rfl (vP rfl rfl rfl vw (by omega) (by omega)) (zX rfl rfl (zA rfl rfl rfl ty3) (zX rfl rfl (zV rfl rfl rfl ⟨(by omega), (by omega)⟩) (zX rfl rfl (yA rfl rfl rfl ⟨(by omega), (by omega)⟩) (zX rfl rfl (zJ rfl rfl rfl rfl rfl vw (by omega) (by omega)) ?_)))))))))
      refine zaw rfl rfl (jk rfl rfl rfl rfl rfl rfl (jF rfl) ty3 (by rfl) (by rfl)) trivial ?_
      refine wQ (zD (zf (zh (zg rfl rfl (zV rfl rfl rfl ⟨(by omega), (by omega)⟩) (zg rfl rfl (zi rfl rfl) (zo ?_))))))
      exact ⟨⟨3, by omega⟩, by dsimp only; omega, (by refine zt (mem' := [.row [[I (((chk (m.take q)).a + (qB m[q]).a) % 10), I (((chk (m.take q)).b + (qB m[q]).b) % 10), I (((chk (m.take q)).c + (qB m[q]).c) % 10), I (chk (m.take q)).d, I (chk (m.take q)).e]], .row ((m.take q).map (fun n => iFg (qB n)) ++ [iFg (qB m[q])])]) [(3, .psl 1 (q + 1)), (4, .pp 0 1 0 0), (7, .pub (.ptr (eFg (qB m[q])))), (9, .pub (zO m)), (10, I (m.length : Int)), (11, I (q : Int)), (21, I 3)] ?_ ?_; exact ⟨rfl, rfl, rfl, rfl, rfl, rfl, rfl, trivial⟩; exact (rfl))⟩
     ·
      exfalso; simp at h1
    ·
     dsimp only
     refine zl (zh (zg rfl rfl (qi rfl rfl rfl) (zo (zf (zl (zx rfl (fun h1 => ?_) (fun h1 => ?_)))))))
     ·
      refine zC (zf (zl (zB (zl (zh (zg rfl rfl (zi rfl rfl) (zg rfl rfl (zn rfl rfl) (zo (zf ?_)))))))))
      refine wR (fun _ => True) (fun k => match k with | 10 => .writes | _ => .here) mixed (by kernel_rfl) rfl (by kernel_rfl) trivial ?_
      refine zX rfl rfl (zi rfl rfl) (zX rfl rfl (zi rfl rfl) (zX rfl rfl (zJ rfl rfl rfl rfl rfl vw (by omega) (by omega)) (zX rfl rfl (zK rfl rfl rfl rfl rfl rfl ty3) (zX rfl rfl (zi rfl rfl) (zX rfl rfl (vP rfl rfl rfl vw (by omega) (by omega)) (zX rfl rfl (zA rfl rfl rfl ty3) (zX rfl rfl (zV rfl rfl rfl ⟨(by omega), (by omega)⟩) (zX rfl rfl (yA rfl rfl rfl ⟨(by omega), (by omega)⟩) (zX rfl rfl (zJ rfl rfl rfl rfl rfl vw (by omega) (by omega)) ?_)))))))))
      refine zaw rfl rfl (jk rfl rfl rfl rfl rfl rfl (jF rfl) ty3 (by rfl) (by rfl)) trivial ?_
      refine wQ (zD (zf (zh (zg rfl rfl (zV rfl rfl rfl ⟨(by omega), (by omega)⟩) (zg rfl rfl (zi rfl rfl) (zo ?_))))))
      exact ⟨⟨4, by omega⟩, by dsimp only; omega, (by refine zt (mem' := [.row [[I (((chk (m.take q)).a + (qB m[q]).a) % 10), I (((chk (m.take q)).b + (qB m[q]).b) % 10), I (((chk (m.take q)).c + (qB m[q]).c) % 10), I (((chk (m.take q)).d + (qB m[q]).d) % 10), I (chk (m.take q)).e]], .row ((m.take q).map (fun n => iFg (qB n)) ++ [iFg (qB m[q])])]) [(3, .psl 1 (q + 1)), (4, .pp 0 1 0 0), (7, .pub (.ptr (eFg (qB m[q])))), (9, .pub (zO m)), (10, I (m.length : Int)), (11, I (q : Int)), (21, I 4)] ?_ ?_; exact ⟨rfl, rfl, rfl, rfl, rfl, rfl, rfl, trivial⟩; exact (rfl))⟩
     ·
      exfalso; simp at h1
    ·
     dsimp only
     refine zl (zh (zg rfl rfl (qi rfl rfl rfl) (zo (zf (zl (zx rfl (fun h1 => ?_) (fun h1 => ?_)))))))
     ·
      refine zC (zf (zl (zB (zl (zh (zg rfl rfl (zi rfl rfl) (zg rfl rfl (zn rfl rfl) (zo (zf ?_)))))))))
      refine wR (fun _ => True) (fun k => match k with | 10 => .writes | _ => .here) mixed (by kernel_rfl) rfl (by kernel_rfl) trivial ?_
      refine zX rfl rfl (zi rfl rfl) (zX rfl rfl (zi rfl rfl) (zX rfl rfl (zJ rfl rfl rfl rfl rfl vw (by omega) (by omega)) (zX rfl rfl (zK rfl rfl rfl rfl rfl rfl ty3) (zX rfl rfl (zi rfl rfl) (zX rfl rfl (vP rfl rfl rfl vw (by omega) (by omega)) (zX rfl rfl (zA rfl rfl rfl ty3) (zX rfl rfl (zV rfl rfl rfl ⟨(by omega), (by omega)⟩) (zX rfl rfl (yA rfl rfl rfl ⟨(by omega), (by omega)⟩) (zX rfl rfl (zJ rfl rfl rfl rfl rfl vw (by omega) (by omega)) ?_)))))))))
      refine zaw rfl rfl (jk rfl rfl rfl rfl rfl rfl (jF rfl) ty3 (by rfl) (by rfl)) trivial ?_
      refine wQ (zD (zf (zh (zg rfl rfl (zV rfl rfl rfl ⟨(by omega), (by omega)⟩) (zg rfl rfl (zi rfl rfl) (zo ?_))))))
      exact ⟨⟨5, by omega⟩, by dsimp only; omega, (by refine zt (mem' := [.row [[I (((chk (m.take q)).a + (qB m[q]).a) % 10), I (((chk (m.take q)).b + (qB m[q]).b) % 10), I (((chk (m.take q)).c + (qB m[q]).c) % 10), I (((chk (m.take q)).d + (qB m[q]).d) % 10), I (((chk (m.take q)).e + (qB m[q]).e) % 10)]], .row ((m.take q).map (fun n => iFg (qB n)) ++ [iFg (qB m[q])])]) [(3, .psl 1 (q + 1)), (4, .pp 0 1 0 0), (7, .pub (.ptr (eFg (qB m[q])))), (9, .pub (zO m)), (10, I (m.length : Int)), (11, I (q : Int)), (21, I 5)] ?_ ?_; exact ⟨rfl, rfl, rfl, rfl, rfl, rfl, rfl, trivial⟩; exact (rfl))⟩
     ·
      exfalso; simp at h1
    ·
     dsimp only
     refine zl (zh (zg rfl rfl (qi rfl rfl rfl) (zo (zf (zl (zx rfl (fun h1 => ?_) (fun h1 => ?_)))))))
     ·
      exfalso; simp at h1
     ·
      refine qp (zL (zL (qw (zD (zf (zh (zg rfl rfl (zV rfl rfl rfl ⟨(by omega), (by omega)⟩) (zg rfl rfl (zi rfl rfl) (zo ?_)))))))))
      exact ⟨⟨q + 1, by omega⟩, by dsimp only; omega, zt _ ⟨rfl, rfl, rfl, rfl, rfl, trivial⟩ (by rw [zoJ hlt, zne hlt]; rfl)⟩
  ·
   have hge : m.length <= q := by simpa using h0
   have hk2 : q = m.length := by omega
   subst hk2
   refine qp (zL (zL (qw (zf (zl (zh (zg rfl rfl (zI rfl rfl) (zg rfl rfl (qN (cs := [_, _, _, _, _]) rfl rfl rfl rfl rfl (by exact zLb rfl) rfl zck) ?_))))))))
   refine zg rfl rfl (qg (size := 5) (rows := [[_, _, _, _, _]]) rfl Tryz.underlying145 zqL rfl (by decide) rfl (by decide) ⟨_, _, rfl, (zY rfl), rfl⟩ (by rfl) (by simp [ofV]) rfl (by simp)) ?_
   refine jb rfl (vS rfl rfl rfl rfl (by simp) rfl zqX (by intro r hr; obtain ⟨n, _, rfl⟩ := List.mem_map.1 hr; rfl) (by simp) (by simp; omega) (by unfold maxLen; simp; omega)) ?_
   refine zg rfl rfl (qo rfl rfl) (zo (zf (zP ?_)))
   exact ⟨.inr rfl, ⟨((vV m).map eFg), by show some (PO.row _) = some (PO.row _); simp [vV, iFg, eFg, Function.comp_def], by simp [vV], rfl⟩⟩
end Go.Av
end
section
namespace Go.Av
open Go.Proofs
set_option maxRecDepth 100000
set_option maxHeartbeats 1000000
variable {G : Glob}
theorem ti9 : Tryz.prog.info? 9 = some Tryz.t9 := by kernel_rfl
theorem zrL : elemIs Tryz.prog 34 9 1 16 := ⟨Tryz.underlying34, Tryz.t9, _, by kernel_rfl, rfl, rfl, rfl, rfl, by decide⟩
theorem zrY : zau Tryz.prog 145 5 = true := by kernel_rfl
theorem yJ : zau Tryz.prog 34 1 = true := by kernel_rfl
theorem ty9 : tyIs Tryz.prog 9 false 1 = true := by kernel_rfl
def jQ (m : List Int) : List (List UInt8) := (vV m).map G5.chs
theorem zCm {l : List G5} {k : Nat} (h : k < l.length) : (l.take (k + 1)).map (fun g => [SL g.chs]) = (l.take k).map (fun g => [SL g.chs]) ++ [[SL l[k].chs]] := by
 rw [List.take_succ_eq_append_getElem h, List.map_append]; rfl
theorem zCI {l : List G5} {k : Nat} (h : k < l.length) : (l.map eFg)[k]? = some (eFg l[k]) := by simp [h]
theorem zsV {l : List G5} : ∀ q ∈ l.map eFg, q.length = 5 := fun q hq => by obtain ⟨p, _, rfl⟩ := List.mem_map.1 hq; rfl
theorem xI {l : List (List UInt8)} {k : Nat} (h : k < l.length) : (l.map fun s => [eS s])[k]? = some [eS l[k]] := by simp [h]
theorem vZ {l : List (List UInt8)} : ∀ q ∈ l.map (fun s => [eS s]), q.length = 1 := by simp
theorem zCH (c : Cod) (m : List Int) (hc : c.fields.length <= 1000 /\ c.turns.length <= 1000) (hl : m.length <= 1000) (hb : (jA c && wS c m) = true) (hm : ∀ n ∈ m, 0 <= n /\ n <= 1000000000000) : ACall Tryz.prog G 64 [.agg (qK c), zO m] (.tup [jD (jQ m), ei 0]) := by
 have hgl : (vV m).length = m.length + 1 := by simp [vV]
 refine zS Tryz.func64 rfl (by kernel_rfl) rfl ?_
 refine zl (zh (zg rfl rfl (jf rfl (zY rfl)) (zg rfl rfl (zn rfl rfl) (zg rfl rfl (zn rfl rfl) (zo (zf (zl (zl (zh (zg rfl rfl (zZ rfl rfl wH (by exact zLb rfl)) (zg rfl rfl (zy (av := [_]) rfl ⟨rfl, trivial⟩ (f116 c hc)) ?_)))))))))))
 refine zg rfl rfl (je rfl rfl) (zg rfl rfl (zi rfl rfl) (zk rfl rfl rfl (fun hg => zZ rfl rfl wH (by exact zLb rfl)) (zk rfl rfl rfl (fun hg => zq rfl rfl) (zk rfl rfl rfl (fun hg => zy (av := [_, _]) rfl ⟨((if_pos hg)), ((if_pos hg)), trivial⟩ (f117 c m hl)) (zk rfl rfl rfl (fun hg => je rfl (if_pos hg)) (zg rfl rfl (qU rfl rfl rfl rfl) (zo (zf (zx rfl (fun h0 => ?_) (fun h0 => ?_))))))))))
 ·
  exfalso; cases hcb : jA c <;> simp_all
 ·
  refine zC (zf (zl (zh (zg rfl rfl (zn rfl rfl) (zo (zf (zl (zl (zh (zg rfl rfl (zq rfl rfl) (zg rfl rfl (zy (av := [_]) rfl ⟨rfl, trivial⟩ (f99 m hl hm)) ?_)))))))))))
  refine zg rfl rfl (qh rfl rfl rfl Tryz.underlying145) (zg rfl rfl (zi rfl rfl) (zo (zf (zB ?_))))
  refine qx (kG 6 rfl) ?_
  refine qy (ι := { q : Nat // q <= (vV m).length }) (fun q => ⟨Tryz.f64.ntmps, frL [(6, .psl 0 q.1), (19, .pub (.sl ((vV m).map eFg))), (20, I ((vV m).length : Int)), (21, I (q.1 : Int))], [.row (((vV m).take q.1).map fun g => [SL g.chs])]⟩) (fun q => (vV m).length - q.1) (⟨0, by omega⟩) ?_ ?_
  ·
   exact zt _ ⟨rfl, rfl, (congrArg (fun x : Nat => I (x : Int)) (List.length_map _)), rfl, trivial⟩ (rfl)
  ·
   rintro ⟨q, hq⟩
   dsimp only
   refine zl (zh (zg rfl rfl (qi rfl rfl rfl) (zo (zf (zl (zx rfl (fun h1 => ?_) (fun h1 => ?_)))))))
   ·
    have hlt : q < (vV m).length := by simpa using h1
    refine zC (zf (zl (zB (zl (zh (zg rfl rfl (zG rfl rfl rfl zrY (by omega) (zCI hlt) zsV) (zg rfl rfl (zZ rfl rfl zck (by exact zLb rfl)) ?_)))))))
    refine vI  rfl rfl rfl rfl rfl rfl rfl ziu zck rfl (by rfl) (zY rfl) rfl ?_
    refine zo (zf (zh (zg rfl rfl (zI rfl rfl) (zg rfl rfl (zZ rfl rfl zck (by exact zLb rfl)) (zg rfl rfl (zy (av := [_]) rfl ⟨rfl, trivial⟩ (zut _ (zpI _ (List.getElem_mem hlt)))) ?_)))))
    refine zg rfl rfl (qg (size := 1) (rows := [[_]]) rfl Tryz.underlying34 ti9 rfl (by decide) rfl (by decide) ⟨_, _, rfl, (jF rfl), rfl⟩ (by rfl) (by simp [ofV]) rfl (by simp)) ?_
    refine jb rfl (vS rfl rfl rfl rfl (by simp; omega) rfl zrL (by intro r hr; obtain ⟨n, _, rfl⟩ := List.mem_map.1 hr; rfl) (by simp) (by simp; omega) (by unfold maxLen; simp; omega)) ?_
    refine zg rfl rfl (qo rfl rfl) (zo (zD (zf (zh (zg rfl rfl (zV rfl rfl rfl ⟨(by omega), (by omega)⟩) (zg rfl rfl (zi rfl rfl) (zo ?_)))))))
    exact ⟨⟨q + 1, by omega⟩, by dsimp only; omega, zt _ ⟨rfl, rfl, rfl, rfl, trivial⟩ (congrArg (fun z => [PO.row z]) (zCm hlt).symm)⟩
   ·
    have hge : (vV m).length <= q := by simpa using h1
    have hk2 : q = (vV m).length := by omega
    subst hk2
    refine qp (zL (zL (qw (zf (zl (zh (zg rfl rfl (zI rfl rfl) (zg rfl rfl (qo rfl rfl) (zg rfl rfl (zn rfl rfl) (zo (zf ?_)))))))))))
    refine zP ?_
    exact ⟨.inr rfl, ⟨_, rfl, ⟨_, _, rfl, ⟨((jQ m).map fun s => [eS s]), by show some (PO.row _) = some (PO.row _); simp [jQ, Function.comp_def], by simp [jQ], rfl⟩, ⟨_, _, rfl, AVle.refl _, rfl⟩⟩⟩⟩
theorem f21 (c : Cod) : ACall Tryz.prog G 21 [.agg (qK c)] (.v (.bool (decide (c.fields.length <= 6) && decide (c.turns.length <= 14)))) := by
 refine zS Tryz.func21 rfl (by kernel_rfl) rfl ?_
 refine zl (zh (zg rfl rfl (jf rfl (zY rfl)) (zg rfl rfl (zn rfl rfl) (zo (zf (zl (zh (zg rfl rfl (zu rfl rfl jS) (zg rfl rfl (zA rfl rfl rfl zah) (zg rfl rfl (qh rfl rfl rfl Tryz.underlying22) (zg rfl rfl (zaq rfl rfl rfl) ?_)))))))))))
 refine zg rfl rfl (zi rfl rfl) (zk rfl rfl rfl (fun hg => zu rfl rfl kU) (zk rfl rfl rfl (fun hg => zA rfl (if_pos hg) rfl jO) (zk rfl rfl rfl (fun hg => qh rfl rfl (if_pos hg) Tryz.underlying23) (zk rfl rfl rfl (fun hg => zaq rfl (if_pos hg) rfl) (zg rfl rfl (qI rfl rfl rfl rfl) (zg rfl rfl (zn rfl rfl) (zo (zf (zP ?_)))))))))
 exact ⟨.inr rfl, AVle.of (by simp only [zO, List.length_map]; exact congrArg (fun x : Bool => AV.v (Value.bool x)) (congr (congrArg (fun a b : Bool => a && b) (decide_eq_decide.2 (by omega))) (decide_eq_decide.2 (by omega))))⟩
end Go.Av
end
