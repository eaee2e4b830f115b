
import Derived.Test.YtaphehlgijlfeaaGreatDoorWiB
set_option linter.unusedVariables false
set_option linter.unusedSimpArgs false
section
namespace Go.Av
open Go.Proofs
set_option maxRecDepth 100000
set_option maxHeartbeats 1000000
variable {G : Glob}
theorem zqL : Tryz.prog.info? 118 = some Tryz.t118 := by kernel_rfl
theorem zqX : elemIs Tryz.prog 145 118 5 40 := ⟨Tryz.underlying145, Tryz.t118, _, by kernel_rfl, rfl, rfl, rfl, rfl, by decide⟩
def chk (m : List Int) : G5 := m.foldl (fun s n => ⟨(s.a + (qB n).a) % 10, (s.b + (qB n).b) % 10, (s.c + (qB n).c) % 10, (s.d + (qB n).d) % 10, (s.e + (qB n).e) % 10⟩) ⟨0, 0, 0, 0, 0⟩
def vV (m : List Int) : List G5 := m.map qB ++ [chk m]
def iFg (g : G5) : List EV := [I g.a, I g.b, I g.c, I g.d, I g.e]
theorem zoJ {m : List Int} {k : Nat} (h : k < m.length) : chk (m.take (k + 1)) = ⟨((chk (m.take k)).a + (qB m[k]).a) % 10, ((chk (m.take k)).b + (qB m[k]).b) % 10, ((chk (m.take k)).c + (qB m[k]).c) % 10, ((chk (m.take k)).d + (qB m[k]).d) % 10, ((chk (m.take k)).e + (qB m[k]).e) % 10⟩ := by
 unfold chk; rw [List.take_succ_eq_append_getElem h, List.foldl_append]; rfl
theorem zno : ∀ m : List Int, (chk m).ok := by
 have key : ∀ (m : List Int) (s : G5), s.ok -> (m.foldl (fun s n => (⟨(s.a + (qB n).a) % 10, (s.b + (qB n).b) % 10, (s.c + (qB n).c) % 10, (s.d + (qB n).d) % 10, (s.e + (qB n).e) % 10⟩ : G5)) s).ok := by
  intro m
  induction m with
  | nil => exact fun s h => h
  | cons n m ih => exact fun s h => ih _ (by unfold G5.ok; dsimp only; omega)
 exact fun m => key m _ (by unfold G5.ok; dsimp only; omega)
theorem zne {m : List Int} {k : Nat} (h : k < m.length) : (m.take (k + 1)).map (fun n => iFg (qB n)) = (m.take k).map (fun n => iFg (qB n)) ++ [iFg (qB m[k])] := by
 rw [List.take_succ_eq_append_getElem h, List.map_append]; rfl
theorem f99 (m : List Int) (hl : m.length <= 1000) (hm : ∀ n ∈ m, 0 <= n /\ n <= 1000000000000) : ACall Tryz.prog G 99 [zO m] (.sl ((vV m).map eFg)) := by
 refine zS Tryz.func99 rfl (by kernel_rfl) rfl ?_
 refine zl (zh (zg rfl rfl (zn rfl rfl) (zo (zf (zl (zh (zg rfl rfl (zn rfl rfl) (zo (zf (zl (zh ?_)))))))))))
 refine jb rfl (wJ rfl rfl ziu rfl rfl) (zo (zf (zl (zl (zh (zg rfl rfl (zq rfl rfl) (zg rfl rfl (qh rfl rfl rfl Tryz.underlying23) (zg rfl rfl (zi rfl rfl) (zo (zf (zB ?_)))))))))))
 refine qx (kG 3 rfl) ?_
 refine qy (ι := { q : Nat // q <= m.length }) (fun q => ⟨Tryz.f99.ntmps, frL [(3, .psl 1 q.1), (4, .pp 0 1 0 0), (9, .pub (zO m)), (10, I (m.length : Int)), (11, I (q.1 : Int))], [.row [iFg (chk (m.take q.1))], .row ((m.take q.1).map fun n => iFg (qB n))]⟩) (fun q => m.length - q.1) (⟨0, by omega⟩) ?_ ?_
 ·
  exact zt _ ⟨rfl, rfl, rfl, (congrArg (fun x : Nat => I (x : Int)) (List.length_map _)), rfl, trivial⟩ (rfl)
 ·
  rintro ⟨q, hq⟩
  dsimp only
  refine zl (zh (zg rfl rfl (qi rfl rfl rfl) (zo (zf (zl (zx rfl (fun h0 => ?_) (fun h0 => ?_)))))))
  ·
   have hlt : q < m.length := by simpa using h0
   have v1 := hm _ (List.getElem_mem hlt)
   have cb := zno (m.take q)
   have fb := zlN m[q]
   unfold G5.ok at cb fb
   refine zC (zf (zl (zB (zl (zh (zg rfl rfl (zG rfl rfl rfl jv (by omega) (wu hlt) jC) (zg rfl rfl (zA rfl rfl rfl ty3) (zg rfl rfl (zn rfl rfl) (zo (zf (zl ?_)))))))))))
   refine zh (zg rfl rfl (zi rfl rfl) (zg rfl rfl (zy (av := [_]) rfl ⟨rfl, trivial⟩ (f86 m[q] v1)) ?_))
   refine vI  rfl rfl rfl rfl rfl rfl rfl ziu zck rfl (by rfl) (zY rfl) rfl ?_
   refine zo (zf (zl (zh (zg rfl rfl (zI rfl rfl) (zg rfl rfl (zZ rfl rfl zck (by exact zLb rfl)) ?_)))))
   refine zg rfl rfl (qg (size := 5) (rows := [[_, _, _, _, _]]) rfl Tryz.underlying145 zqL rfl (by decide) rfl (by decide) ⟨_, _, rfl, (zY rfl), rfl⟩ (by rfl) (by simp [ofV]) rfl (by simp)) ?_
   refine jb rfl (vS rfl rfl rfl rfl (by simp; omega) rfl zqX (by intro r hr; obtain ⟨n, _, rfl⟩ := List.mem_map.1 hr; rfl) (by simp) (by simp; omega) (by unfold maxLen; simp; omega)) ?_
   refine zg rfl rfl (qo rfl rfl) (zo (zf (zl (zh (zg rfl rfl (zi rfl rfl) (zo (zf (zB ?_))))))))
   refine qy (ι := { k : Nat // k < 6 }) (fun k => match k.1 with | 0 => ⟨Tryz.f99.ntmps, frL [(3, .psl 1 (q + 1)), (4, .pp 0 1 0 0), (7, .pub (.ptr (eFg (qB m[q])))), (9, .pub (zO m)), (10, I (m.length : Int)), (11, I (q : Int)), (21, I 0)], [.row [[I (chk (m.take q)).a, I (chk (m.take q)).b, I (chk (m.take q)).c, I (chk (m.take q)).d, I (chk (m.take q)).e]], .row ((m.take q).map (fun n => iFg (qB n)) ++ [iFg (qB m[q])])]⟩ | 1 => ⟨Tryz.f99.ntmps, frL [(3, .psl 1 (q + 1)), (4, .pp 0 1 0 0), (7, .pub (.ptr (eFg (qB m[q])))), (9, .pub (zO m)), (10, I (m.length : Int)), (11, I (q : Int)), (21, I 1)], [.row [[I (((chk (m.take q)).a + (qB m[q]).a) % 10), I (chk (m.take q)).b, I (chk (m.take q)).c, I (chk (m.take q)).d, I (chk (m.take q)).e]], .row ((m.take q).map (fun n => iFg (qB n)) ++ [iFg (qB m[q])])]⟩ | 2 => ⟨Tryz.f99.ntmps, frL [(3, .psl 1 (q + 1)), (4, .pp 0 1 0 0), (7, .pub (.ptr (eFg (qB m[q])))), (9, .pub (zO m)), (10, I (m.length : Int)), (11, I (q : Int)), (21, I 2)], [.row [[I (((chk (m.take q)).a + (qB m[q]).a) % 10), I (((chk (m.take q)).b + (qB m[q]).b) % 10), I (chk (m.take q)).c, I (chk (m.take q)).d, I (chk (m.take q)).e]], .row ((m.take q).map (fun n => iFg (qB n)) ++ [iFg (qB m[q])])]⟩ | 3 => ⟨Tryz.f99.ntmps, frL [(3, .psl 1 (q + 1)), (4, .pp 0 1 0 0), (7, .pub (.ptr (eFg (qB m[q])))), (9, .pub (zO m)), (10, I (m.length : Int)), (11, I (q : Int)), (21, I 3)], [.row [[I (((chk (m.take q)).a + (qB m[q]).a) % 10), I (((chk (m.take q)).b + (qB m[q]).b) % 10), I (((chk (m.take q)).c + (qB m[q]).c) % 10), I (chk (m.take q)).d, I (chk (m.take q)).e]], .row ((m.take q).map (fun n => iFg (qB n)) ++ [iFg (qB m[q])])]⟩ | 4 => ⟨Tryz.f99.ntmps, frL [(3, .psl 1 (q + 1)), (4, .pp 0 1 0 0), (7, .pub (.ptr (eFg (qB m[q])))), (9, .pub (zO m)), (10, I (m.length : Int)), (11, I (q : Int)), (21, I 4)], [.row [[I (((chk (m.take q)).a + (qB m[q]).a) % 10), I (((chk (m.take q)).b + (qB m[q]).b) % 10), I (((chk (m.take q)).c + (qB m[q]).c) % 10), I (((chk (m.take q)).d + (qB m[q]).d) % 10), I (chk (m.take q)).e]], .row ((m.take q).map (fun n => iFg (qB n)) ++ [iFg (qB m[q])])]⟩ | _ => ⟨Tryz.f99.ntmps, frL [(3, .psl 1 (q + 1)), (4, .pp 0 1 0 0), (7, .pub (.ptr (eFg (qB m[q])))), (9, .pub (zO m)), (10, I (m.length : Int)), (11, I (q : Int)), (21, I 5)], [.row [[I (((chk (m.take q)).a + (qB m[q]).a) % 10), I (((chk (m.take q)).b + (qB m[q]).b) % 10), I (((chk (m.take q)).c + (qB m[q]).c) % 10), I (((chk (m.take q)).d + (qB m[q]).d) % 10), I (((chk (m.take q)).e + (qB m[q]).e) % 10)]], .row ((m.take q).map (fun n => iFg (qB n)) ++ [iFg (qB m[q])])]⟩) (fun k => 6 - k.1) (⟨0, by omega⟩) ?_ ?_
   ·
    exact zt _ ⟨rfl, rfl, rfl, rfl, rfl, rfl, rfl, trivial⟩ (rfl)
   ·
    rintro ⟨k, hk⟩
    have hk3 : k = 0 ∨ k = 1 ∨ k = 2 ∨ k = 3 ∨ k = 4 ∨ k = 5 := by omega
    rcases hk3 with rfl | rfl | rfl | rfl | rfl | rfl
    ·
     dsimp only
     refine zl (zh (zg rfl rfl (qi rfl rfl rfl) (zo (zf (zl (zx rfl (fun h1 => ?_) (fun h1 => ?_)))))))
     ·
      refine zC (zf (zl (zB (zl (zh (zg rfl rfl (zi rfl rfl) (zg rfl rfl (zn rfl rfl) (zo (zf ?_)))))))))
      refine wR (fun _ => True) (fun k => match k with | 10 => .writes | _ => .here) mixed (by kernel_rfl) rfl (by kernel_rfl) trivial ?_
      refine zX rfl rfl (zi rfl rfl) (zX rfl rfl (zi rfl rfl) (zX rfl rfl (zJ rfl rfl rfl rfl rfl vw (by omega) (by omega)) (zX rfl rfl (zK rfl rfl rfl rfl rfl rfl ty3) (zX rfl rfl (zi rfl rfl) (zX rfl rfl (vP rfl rfl rfl vw (by omega) (by omega)) (zX rfl rfl (zA rfl rfl rfl ty3) (zX rfl rfl (zV rfl rfl rfl ⟨(by omega), (by omega)⟩) (zX rfl rfl (yA rfl rfl rfl ⟨(by omega), (by omega)⟩) (zX rfl rfl (zJ rfl rfl rfl rfl rfl vw (by omega) (by omega)) ?_)))))))))
      refine zaw rfl rfl (jk rfl rfl rfl rfl rfl rfl (jF rfl) ty3 (by rfl) (by rfl)) trivial ?_
      refine wQ (zD (zf (zh (zg rfl rfl (zV rfl rfl rfl ⟨(by omega), (by omega)⟩) (zg rfl rfl (zi rfl rfl) (zo ?_))))))
      exact ⟨⟨1, by omega⟩, by dsimp only; omega, (by refine zt (mem' := [.row [[I (((chk (m.take q)).a + (qB m[q]).a) % 10), I (chk (m.take q)).b, I (chk (m.take q)).c, I (chk (m.take q)).d, I (chk (m.take q)).e]], .row ((m.take q).map (fun n => iFg (qB n)) ++ [iFg (qB m[q])])]) [(3, .psl 1 (q + 1)), (4, .pp 0 1 0 0), (7, .pub (.ptr (eFg (qB m[q])))), (9, .pub (zO m)), (10, I (m.length : Int)), (11, I (q : Int)), (21, I 1)] ?_ ?_; exact ⟨rfl, rfl, rfl, rfl, rfl, rfl, rfl, trivial⟩; exact (rfl))⟩
     ·
      exfalso; simp at h1
    ·
     dsimp only
     refine zl (zh (zg rfl rfl (qi rfl rfl rfl) (zo (zf (zl (zx rfl (fun h1 => ?_) (fun h1 => ?_)))))))
     ·
      refine zC (zf (zl (zB (zl (zh (zg rfl rfl (zi rfl rfl) (zg rfl rfl (zn rfl rfl) (zo (zf ?_)))))))))
      refine wR (fun _ => True) (fun k => match k with | 10 => .writes | _ => .here) mixed (by kernel_rfl) rfl (by kernel_rfl) trivial ?_
      refine zX rfl rfl (zi rfl rfl) (zX rfl rfl (zi rfl rfl) (zX rfl rfl (zJ rfl rfl rfl rfl rfl vw (by omega) (by omega)) (zX rfl rfl (zK rfl rfl rfl rfl rfl rfl ty3) (zX rfl rfl (zi rfl rfl) (zX rfl rfl (vP rfl rfl rfl vw (by omega) (by omega)) (zX rfl rfl (zA rfl rfl rfl ty3) (zX rfl rfl (zV rfl rfl rfl ⟨(by omega), (by omega)⟩) (zX rfl rfl (yA rfl rfl rfl ⟨(by omega), (by omega)⟩) (zX rfl rfl (zJ rfl rfl rfl rfl rfl vw (by omega) (by omega)) ?_)))))))))
      refine zaw rfl rfl (jk rfl rfl rfl rfl rfl rfl (jF rfl) ty3 (by rfl) (by rfl)) trivial ?_
      refine wQ (zD (zf (zh (zg rfl rfl (zV rfl rfl rfl ⟨(by omega), (by omega)⟩) (zg rfl rfl (zi rfl rfl) (zo ?_))))))
      exact ⟨⟨2, by omega⟩, by dsimp only; omega, (by refine zt (mem' := [.row [[I (((chk (m.take q)).a + (qB m[q]).a) % 10), I (((chk (m.take q)).b + (qB m[q]).b) % 10), I (chk (m.take q)).c, I (chk (m.take q)).d, I (chk (m.take q)).e]], .row ((m.take q).map (fun n => iFg (qB n)) ++ [iFg (qB m[q])])]) [(3, .psl 1 (q + 1)), (4, .pp 0 1 0 0), (7, .pub (.ptr (eFg (qB m[q])))), (9, .pub (zO m)), (10, I (m.length : Int)), (11, I (q : Int)), (21, I 2)] ?_ ?_; exact ⟨rfl, rfl, rfl, rfl, rfl, rfl, rfl, trivial⟩; exact (rfl))⟩
     ·
      exfalso; simp at h1
    ·
     dsimp only
     refine zl (zh (zg rfl rfl (qi rfl rfl rfl) (zo (zf (zl (zx rfl (fun h1 => ?_) (fun h1 => ?_)))))))
     ·
      refine zC (zf (zl (zB (zl (zh (zg rfl rfl (zi rfl rfl) (zg rfl rfl (zn rfl rfl) (zo (zf ?_)))))))))
      refine wR (fun _ => True) (fun k => match k with | 10 => .writes | _ => .here) mixed (by kernel_rfl) rfl (by kernel_rfl) trivial ?_
      refine zX rfl rfl (zi rfl rfl) (zX rfl rfl (zi rfl rfl) (zX rfl rfl (zJ rfl rfl rfl rfl rfl vw (by omega) (by omega)) (zX rfl rfl (zK rfl rfl rfl rfl rfl rfl ty3) (zX rfl rfl (zi rfl rfl) (zX rfl rfl (vP rfl rfl rfl vw (by omega) (by omega)) (zX rfl rfl (zA rfl rfl rfl ty3) (zX rfl rfl (zV rfl rfl rfl ⟨(by omega), (by omega)⟩) (zX rfl rfl (yA rfl rfl rfl ⟨(by omega), (by omega)⟩) (zX rfl rfl (zJ rfl rfl rfl rfl rfl vw (by omega) (by omega)) ?_)))))))))
      refine zaw rfl rfl (jk rfl rfl rfl rfl rfl rfl (jF rfl) ty3 (by rfl) (by rfl)) trivial ?_
      refine wQ (zD (zf (zh (zg rfl rfl (zV rfl rfl rfl ⟨(by omega), (by omega)⟩) (zg rfl rfl (zi rfl rfl) (zo ?_))))))
      exact ⟨⟨3, by omega⟩, by dsimp only; omega, (by refine zt (mem' := [.row [[I (((chk (m.take q)).a + (qB m[q]).a) % 10), I (((chk (m.take q)).b + (qB m[q]).b) % 10), I (((chk (m.take q)).c + (qB m[q]).c) % 10), I (chk (m.take q)).d, I (chk (m.take q)).e]], .row ((m.take q).map (fun n => iFg (qB n)) ++ [iFg (qB m[q])])]) [(3, .psl 1 (q + 1)), (4, .pp 0 1 0 0), (7, .pub (.ptr (eFg (qB m[q])))), (9, .pub (zO m)), (10, I (m.length : Int)), (11, I (q : Int)), (21, I 3)] ?_ ?_; exact ⟨rfl, rfl, rfl, rfl, rfl, rfl, rfl, trivial⟩; exact (rfl))⟩
     ·
      exfalso; simp at h1
    ·
     dsimp only
     refine zl (zh (zg rfl rfl (qi rfl rfl rfl) (zo (zf (zl (zx rfl (fun h1 => ?_) (fun h1 => ?_)))))))
     ·
      refine zC (zf (zl (zB (zl (zh (zg rfl rfl (zi rfl rfl) (zg rfl rfl (zn rfl rfl) (zo (zf ?_)))))))))
      refine wR (fun _ => True) (fun k => match k with | 10 => .writes | _ => .here) mixed (by kernel_rfl) rfl (by kernel_rfl) trivial ?_
      refine zX rfl rfl (zi rfl rfl) (zX rfl rfl (zi rfl rfl) (zX rfl rfl (zJ rfl rfl rfl rfl rfl vw (by omega) (by omega)) (zX rfl rfl (zK rfl rfl rfl rfl rfl rfl ty3) (zX rfl rfl (zi rfl rfl) (zX rfl rfl (vP rfl rfl rfl vw (by omega) (by omega)) (zX rfl rfl (zA rfl rfl rfl ty3) (zX rfl rfl (zV rfl rfl rfl ⟨(by omega), (by omega)⟩) (zX rfl rfl (yA rfl rfl rfl ⟨(by omega), (by omega)⟩) (zX rfl rfl (zJ rfl rfl rfl rfl rfl vw (by omega) (by omega)) ?_)))))))))
      refine zaw rfl rfl (jk rfl rfl rfl rfl rfl rfl (jF rfl) ty3 (by rfl) (by rfl)) trivial ?_
      refine wQ (zD (zf (zh (zg rfl rfl (zV rfl rfl rfl ⟨(by omega), (by omega)⟩) (zg rfl rfl (zi rfl rfl) (zo ?_))))))
      exact ⟨⟨4, by omega⟩, by dsimp only; omega, (by refine zt (mem' := [.row [[I (((chk (m.take q)).a + (qB m[q]).a) % 10), I (((chk (m.take q)).b + (qB m[q]).b) % 10), I (((chk (m.take q)).c + (qB m[q]).c) % 10), I (((chk (m.take q)).d + (qB m[q]).d) % 10), I (chk (m.take q)).e]], .row ((m.take q).map (fun n => iFg (qB n)) ++ [iFg (qB m[q])])]) [(3, .psl 1 (q + 1)), (4, .pp 0 1 0 0), (7, .pub (.ptr (eFg (qB m[q])))), (9, .pub (zO m)), (10, I (m.length : Int)), (11, I (q : Int)), (21, I 4)] ?_ ?_; exact ⟨rfl, rfl, rfl, rfl, rfl, rfl, rfl, trivial⟩; exact (rfl))⟩
     ·
      exfalso; simp at h1
    ·
     dsimp only
     refine zl (zh (zg rfl rfl (qi rfl rfl rfl) (zo (zf (zl (zx rfl (fun h1 => ?_) (fun h1 => ?_)))))))
     ·
      refine zC (zf (zl (zB (zl (zh (zg rfl rfl (zi rfl rfl) (zg rfl rfl (zn rfl rfl) (zo (zf ?_)))))))))
      refine wR (fun _ => True) (fun k => match k with | 10 => .writes | _ => .here) mixed (by kernel_rfl) rfl (by kernel_rfl) trivial ?_
      refine zX rfl rfl (zi rfl rfl) (zX rfl rfl (zi rfl rfl) (zX rfl rfl (zJ rfl rfl rfl rfl rfl vw (by omega) (by omega)) (zX rfl rfl (zK rfl rfl rfl rfl rfl rfl ty3) (zX rfl rfl (zi rfl rfl) (zX rfl rfl (vP rfl rfl rfl vw (by omega) (by omega)) (zX rfl rfl (zA rfl rfl rfl ty3) (zX rfl rfl (zV rfl rfl rfl ⟨(by omega), (by omega)⟩) (zX rfl rfl (yA rfl rfl rfl ⟨(by omega), (by omega)⟩) (zX rfl rfl (zJ rfl rfl rfl rfl rfl vw (by omega) (by omega)) ?_)))))))))
      refine zaw rfl rfl (jk rfl rfl rfl rfl rfl rfl (jF rfl) ty3 (by rfl) (by rfl)) trivial ?_
      refine wQ (zD (zf (zh (zg rfl rfl (zV rfl rfl rfl ⟨(by omega), (by omega)⟩) (zg rfl rfl (zi rfl rfl) (zo ?_))))))
      exact ⟨⟨5, by omega⟩, by dsimp only; omega, (by refine zt (mem' := [.row [[I (((chk (m.take q)).a + (qB m[q]).a) % 10), I (((chk (m.take q)).b + (qB m[q]).b) % 10), I (((chk (m.take q)).c + (qB m[q]).c) % 10), I (((chk (m.take q)).d + (qB m[q]).d) % 10), I (((chk (m.take q)).e + (qB m[q]).e) % 10)]], .row ((m.take q).map (fun n => iFg (qB n)) ++ [iFg (qB m[q])])]) [(3, .psl 1 (q + 1)), (4, .pp 0 1 0 0), (7, .pub (.ptr (eFg (qB m[q])))), (9, .pub (zO m)), (10, I (m.length : Int)), (11, I (q : Int)), (21, I 5)] ?_ ?_; exact ⟨rfl, rfl, rfl, rfl, rfl, rfl, rfl, trivial⟩; exact (rfl))⟩
     ·
      exfalso; simp at h1
    ·
     dsimp only
     refine zl (zh (zg rfl rfl (qi rfl rfl rfl) (zo (zf (zl (zx rfl (fun h1 => ?_) (fun h1 => ?_)))))))
     ·
      exfalso; simp at h1
     ·
      refine qp (zL (zL (qw (zD (zf (zh (zg rfl rfl (zV rfl rfl rfl ⟨(by omega), (by omega)⟩) (zg rfl rfl (zi rfl rfl) (zo ?_)))))))))
      exact ⟨⟨q + 1, by omega⟩, by dsimp only; omega, zt _ ⟨rfl, rfl, rfl, rfl, rfl, trivial⟩ (by rw [zoJ hlt, zne hlt]; rfl)⟩
  ·
   have hge : m.length <= q := by simpa using h0
   have hk2 : q = m.length := by omega
   subst hk2
   refine qp (zL (zL (qw (zf (zl (zh (zg rfl rfl (zI rfl rfl) (zg rfl rfl (qN (cs := [_, _, _, _, _]) rfl rfl rfl rfl rfl (by exact zLb rfl) rfl zck) ?_))))))))
   refine zg rfl rfl (qg (size := 5) (rows := [[_, _, _, _, _]]) rfl Tryz.underlying145 zqL rfl (by decide) rfl (by decide) ⟨_, _, rfl, (zY rfl), rfl⟩ (by rfl) (by simp [ofV]) rfl (by simp)) ?_
   refine jb rfl (vS rfl rfl rfl rfl (by simp) rfl zqX (by intro r hr; obtain ⟨n, _, rfl⟩ := List.mem_map.1 hr; rfl) (by simp) (by simp; omega) (by unfold maxLen; simp; omega)) ?_
   refine zg rfl rfl (qo rfl rfl) (zo (zf (zP ?_)))
   exact ⟨.inr rfl, ⟨((vV m).map eFg), by show some (PO.row _) = some (PO.row _); simp [vV, iFg, eFg, Function.comp_def], by simp [vV], rfl⟩⟩
end Go.Av
end
section
namespace Go.Av
open Go.Proofs
set_option maxRecDepth 100000
set_option maxHeartbeats 1000000
variable {G : Glob}
theorem ti9 : Tryz.prog.info? 9 = some Tryz.t9 := by kernel_rfl
theorem zrL : elemIs Tryz.prog 34 9 1 16 := ⟨Tryz.underlying34, Tryz.t9, _, by kernel_rfl, rfl, rfl, rfl, rfl, by decide⟩
theorem zrY : zau Tryz.prog 145 5 = true := by kernel_rfl
theorem yJ : zau Tryz.prog 34 1 = true := by kernel_rfl
theorem ty9 : tyIs Tryz.prog 9 false 1 = true := by kernel_rfl
def yU (m : List Int) (j : Nat) : Int := m.foldl (fun s n => s + dig n j) 0
def ckN (m : List Int) : Nat -> Int
 | 0 => 0
 | j + 1 => 10 * ckN m j + yU m j % 10
theorem zay {m : List Int} {j k : Nat} (h : k < m.length) : yU (m.take (k + 1)) j = yU (m.take k) j + dig m[k] j := by
 unfold yU; rw [List.take_succ_eq_append_getElem h, List.foldl_append]; rfl
theorem zc1 (m : List Int) (j : Nat) : 0 <= yU m j /\ yU m j <= 9 * m.length := by
 have key : ∀ (m : List Int) (t : Int), t <= m.foldl (fun s n => s + dig n j) t /\ m.foldl (fun s n => s + dig n j) t <= t + 9 * m.length := by
  intro m
  induction m with
  | nil => intro t; simp
  | cons n m ih =>
   intro t
   have h1 := ih (t + dig n j)
   have h2 := jq (n := n) j
   simp only [List.foldl_cons, List.length_cons]
   omega
 have := key m 0
 unfold yU; omega
theorem zrD (m : List Int) : 0 <= ckN m 5 /\ ckN m 5 <= 99999 /\ (0 <= ckN m 0 /\ ckN m 0 <= 0) /\ (0 <= ckN m 1 /\ ckN m 1 <= 9) /\ (0 <= ckN m 2 /\ ckN m 2 <= 99) /\ (0 <= ckN m 3 /\ ckN m 3 <= 999) /\ (0 <= ckN m 4 /\ ckN m 4 <= 9999) := by
 simp only [ckN]; omega
theorem zq7 : ∀ (m : List Int) (s : G5) (t : Int), s.a = t % 10 -> (m.foldl (fun s n => (⟨(s.a + (qB n).a) % 10, (s.b + (qB n).b) % 10, (s.c + (qB n).c) % 10, (s.d + (qB n).d) % 10, (s.e + (qB n).e) % 10⟩ : G5)) s).a = (m.foldl (fun s n => s + dig n 0) t) % 10
 | [], _, _, h => h
 | n :: m, s, t, h => zq7 m _ _ (by show (s.a + (qB n).a) % 10 = (t + (qB n).a) % 10; rw [h]; omega)
theorem zqN : ∀ (m : List Int) (s : G5) (t : Int), s.b = t % 10 -> (m.foldl (fun s n => (⟨(s.a + (qB n).a) % 10, (s.b + (qB n).b) % 10, (s.c + (qB n).c) % 10, (s.d + (qB n).d) % 10, (s.e + (qB n).e) % 10⟩ : G5)) s).b = (m.foldl (fun s n => s + dig n 1) t) % 10
 | [], _, _, h => h
 | n :: m, s, t, h => zqN m _ _ (by show (s.b + (qB n).b) % 10 = (t + (qB n).b) % 10; rw [h]; omega)
theorem zra : ∀ (m : List Int) (s : G5) (t : Int), s.c = t % 10 -> (m.foldl (fun s n => (⟨(s.a + (qB n).a) % 10, (s.b + (qB n).b) % 10, (s.c + (qB n).c) % 10, (s.d + (qB n).d) % 10, (s.e + (qB n).e) % 10⟩ : G5)) s).c = (m.foldl (fun s n => s + dig n 2) t) % 10
 | [], _, _, h => h
 | n :: m, s, t, h => zra m _ _ (by show (s.c + (qB n).c) % 10 = (t + (qB n).c) % 10; rw [h]; omega)
theorem zqQ : ∀ (m : List Int) (s : G5) (t : Int), s.d = t % 10 -> (m.foldl (fun s n => (⟨(s.a + (qB n).a) % 10, (s.b + (qB n).b) % 10, (s.c + (qB n).c) % 10, (s.d + (qB n).d) % 10, (s.e + (qB n).e) % 10⟩ : G5)) s).d = (m.foldl (fun s n => s + dig n 3) t) % 10
 | [], _, _, h => h
 | n :: m, s, t, h => zqQ m _ _ (by show (s.d + (qB n).d) % 10 = (t + (qB n).d) % 10; rw [h]; omega)
theorem zqZ : ∀ (m : List Int) (s : G5) (t : Int), s.e = t % 10 -> (m.foldl (fun s n => (⟨(s.a + (qB n).a) % 10, (s.b + (qB n).b) % 10, (s.c + (qB n).c) % 10, (s.d + (qB n).d) % 10, (s.e + (qB n).e) % 10⟩ : G5)) s).e = (m.foldl (fun s n => s + dig n 4) t) % 10
 | [], _, _, h => h
 | n :: m, s, t, h => zqZ m _ _ (by show (s.e + (qB n).e) % 10 = (t + (qB n).e) % 10; rw [h]; omega)
theorem zk0 (m : List Int) : qB (ckN m 5) = chk m := by
 have e : qB (ckN m 5) = ⟨yU m 0 % 10, yU m 1 % 10, yU m 2 % 10, yU m 3 % 10, yU m 4 % 10⟩ := by
  simp only [qB, ckN]
  congr 1 <;> omega
 have ha := zq7 m ⟨0, 0, 0, 0, 0⟩ 0 rfl
 have hb := zqN m ⟨0, 0, 0, 0, 0⟩ 0 rfl
 have hc := zra m ⟨0, 0, 0, 0, 0⟩ 0 rfl
 have hd := zqQ m ⟨0, 0, 0, 0, 0⟩ 0 rfl
 have he := zqZ m ⟨0, 0, 0, 0, 0⟩ 0 rfl
 rw [e]
 cases hk : chk m
 simp only [chk] at hk
 rw [hk] at ha hb hc hd he
 simp only at ha hb hc hd he
 subst ha; subst hb; subst hc; subst hd; subst he
 rfl
def jQ (m : List Int) : List (List UInt8) := (vV m).map G5.chs
theorem znr {m : List Int} {k : Nat} (h : k < m.length) : (m.take (k + 1)).map (fun n => [SL (grp n)]) = (m.take k).map (fun n => [SL (grp n)]) ++ [[SL (grp m[k])]] := by
 rw [List.take_succ_eq_append_getElem h, List.map_append]; rfl
theorem zsV {l : List G5} : ∀ q ∈ l.map eFg, q.length = 5 := fun q hq => by obtain ⟨p, _, rfl⟩ := List.mem_map.1 hq; rfl
theorem xI {l : List (List UInt8)} {k : Nat} (h : k < l.length) : (l.map fun s => [eS s])[k]? = some [eS l[k]] := by simp [h]
theorem vZ {l : List (List UInt8)} : ∀ q ∈ l.map (fun s => [eS s]), q.length = 1 := by simp
theorem f35 (m : List Int) (hl : m.length <= 1000) (hm : ∀ n ∈ m, 0 <= n /\ n <= 1000000000000) : ACall Tryz.prog G 35 [zO m] (jD (jQ m)) := by
 have cb := zrD m
 refine zS Tryz.func35 rfl (by kernel_rfl) rfl ?_
 refine zl (zh (zg rfl rfl (zn rfl rfl) (zo (zf (zl (zh (zg rfl rfl (zn rfl rfl) (zo (zf (zl (zh ?_)))))))))))
 refine zg rfl rfl (zn rfl rfl) (zo (zf (zl (zl (zh (zg rfl rfl (zn rfl rfl) (zo (zf (zB ?_)))))))))
 refine qy (ι := { k : Nat // k < 6 }) (fun k => match k.1 with | 0 => ⟨Tryz.f35.ntmps, frL [(0, .pub (zO m)), (3, wZ), (4, I (ckN m 0)), (5, I 0)], []⟩ | 1 => ⟨Tryz.f35.ntmps, frL [(0, .pub (zO m)), (3, wZ), (4, I (ckN m 1)), (5, I 1)], []⟩ | 2 => ⟨Tryz.f35.ntmps, frL [(0, .pub (zO m)), (3, wZ), (4, I (ckN m 2)), (5, I 2)], []⟩ | 3 => ⟨Tryz.f35.ntmps, frL [(0, .pub (zO m)), (3, wZ), (4, I (ckN m 3)), (5, I 3)], []⟩ | 4 => ⟨Tryz.f35.ntmps, frL [(0, .pub (zO m)), (3, wZ), (4, I (ckN m 4)), (5, I 4)], []⟩ | _ => ⟨Tryz.f35.ntmps, frL [(0, .pub (zO m)), (3, wZ), (4, I (ckN m 5)), (5, I 5)], []⟩) (fun k => 6 - k.1) (⟨0, by omega⟩) ?_ ?_
 ·
  exact zt _ ⟨rfl, rfl, rfl, rfl, trivial⟩ (rfl)
 ·
  rintro ⟨k, hk⟩
  have hk3 : k = 0 ∨ k = 1 ∨ k = 2 ∨ k = 3 ∨ k = 4 ∨ k = 5 := by omega
  rcases hk3 with rfl | rfl | rfl | rfl | rfl | rfl
  ·
   dsimp only
   refine zl (zl (zh (zg rfl rfl (zi rfl rfl) (zg rfl rfl (qi rfl rfl rfl) (zo (zf (zx rfl (fun h0 => ?_) (fun h0 => ?_))))))))
   ·
    refine zC (zf (zl (zB (zl (zh (zg rfl rfl (zn rfl rfl) (zo (zf (zl (zl (zh ?_)))))))))))
    refine zg rfl rfl (zn rfl rfl) (zo (zf (zB ?_)))
    refine qy (ι := { q : Nat // q <= m.length }) (fun q => ⟨Tryz.f35.ntmps, frL [(0, .pub (zO m)), (3, wZ), (4, I (ckN m 0)), (5, I 0), (6, I (yU (m.take q.1) 0)), (7, I (q.1 : Int))], []⟩) (fun q => m.length - q.1) (⟨0, by omega⟩) ?_ ?_
    ·
     exact zt _ ⟨rfl, rfl, rfl, rfl, rfl, rfl, trivial⟩ (rfl)
    ·
     rintro ⟨q, hq⟩
     dsimp only
     have sb := zc1 (m.take q) 0
     have sl : (m.take q).length <= q := by simp; omega
     refine zl (zl (zh (zg rfl rfl (zi rfl rfl) (zg rfl rfl (zq rfl rfl) (zg rfl rfl (qh rfl rfl rfl Tryz.underlying23) (zg rfl rfl (qi rfl rfl rfl) (zo (zf (zx rfl (fun h1 => ?_) (fun h1 => ?_))))))))))
     ·
      have hlt : q < m.length := by simpa [zO] using h1
      have v1 := hm _ (List.getElem_mem hlt)
      have db := jq (n := m[q]) 0
      have db1 := jq (n := m[q]) 1
      have db2 := jq (n := m[q]) 2
      have db3 := jq (n := m[q]) 3
      have db4 := jq (n := m[q]) 4
      refine zC (zf (zl (zB (zh (zg rfl rfl (zi rfl rfl) (zg rfl rfl (zq rfl rfl) (zg rfl rfl (zi rfl rfl) (zg rfl rfl (zG rfl rfl rfl jv (by omega) (wu hlt) jC) (zg rfl rfl (zA rfl rfl rfl ty3) (zg rfl rfl (zi rfl rfl) (zg rfl rfl (zy (av := [_, _]) rfl ⟨rfl, rfl, trivial⟩ (f92 m[q] 0 v1 (by omega))) ?_)))))))))))
      refine zg rfl rfl (zV rfl rfl rfl ⟨(by omega), (by omega)⟩) (zg rfl rfl (zn rfl rfl) (zo (zD (zf (zh (zg rfl rfl (zi rfl rfl) (zg rfl rfl (zV rfl rfl rfl ⟨(by omega), (by omega)⟩) (zg rfl rfl (zn rfl rfl) (zo ?_)))))))))
      exact ⟨⟨q + 1, by omega⟩, by dsimp only; omega, zt _ ⟨rfl, rfl, rfl, rfl, (congrArg (fun x : Int => I x) (zay hlt).symm), rfl, trivial⟩ (rfl)⟩
     ·
      have hge : m.length <= q := by simpa [zO] using h1
      have hk2 : q = m.length := by omega
      subst hk2
      refine qp (zL (zL (qw (zf (zh (zg rfl rfl (zi rfl rfl) (zg rfl rfl (zcY rfl rfl rfl ⟨(by omega), (by omega)⟩) (zg rfl rfl (zi rfl rfl) (zg rfl rfl (yA rfl rfl rfl ⟨(by omega), (by omega)⟩) (zg rfl rfl (zV rfl rfl rfl ⟨(by omega), (by omega)⟩) (zg rfl rfl (zn rfl rfl) ?_)))))))))))
      refine zo (zD (zf (zh (zg rfl rfl (zi rfl rfl) (zg rfl rfl (zV rfl rfl rfl ⟨(by omega), (by omega)⟩) (zg rfl rfl (zn rfl rfl) (zo ?_)))))))
      exact ⟨⟨1, by omega⟩, by dsimp only; omega, (by refine zt (mem' := []) [(0, .pub (zO m)), (3, wZ), (4, I (ckN m 1)), (5, I 1)] ?_ ?_; exact ⟨rfl, rfl, (congrArg (fun x => I (10 * ckN m 0 + yU x 0 % 10)) (List.take_length ..)), rfl, trivial⟩; exact (rfl))⟩
   ·
    exfalso; simp at h0
  ·
   dsimp only
   refine zl (zl (zh (zg rfl rfl (zi rfl rfl) (zg rfl rfl (qi rfl rfl rfl) (zo (zf (zx rfl (fun h0 => ?_) (fun h0 => ?_))))))))
   ·
    refine zC (zf (zl (zB (zl (zh (zg rfl rfl (zn rfl rfl) (zo (zf (zl (zl (zh ?_)))))))))))
    refine zg rfl rfl (zn rfl rfl) (zo (zf (zB ?_)))
    refine qy (ι := { q : Nat // q <= m.length }) (fun q => ⟨Tryz.f35.ntmps, frL [(0, .pub (zO m)), (3, wZ), (4, I (ckN m 1)), (5, I 1), (6, I (yU (m.take q.1) 1)), (7, I (q.1 : Int))], []⟩) (fun q => m.length - q.1) (⟨0, by omega⟩) ?_ ?_
    ·
     exact zt _ ⟨rfl, rfl, rfl, rfl, rfl, rfl, trivial⟩ (rfl)
    ·
     rintro ⟨q, hq⟩
     dsimp only
     have sb := zc1 (m.take q) 1
     have sl : (m.take q).length <= q := by simp; omega
     refine zl (zl (zh (zg rfl rfl (zi rfl rfl) (zg rfl rfl (zq rfl rfl) (zg rfl rfl (qh rfl rfl rfl Tryz.underlying23) (zg rfl rfl (qi rfl rfl rfl) (zo (zf (zx rfl (fun h1 => ?_) (fun h1 => ?_))))))))))
     ·
      have hlt : q < m.length := by simpa [zO] using h1
      have v1 := hm _ (List.getElem_mem hlt)
      have db := jq (n := m[q]) 0
      have db1 := jq (n := m[q]) 1
      have db2 := jq (n := m[q]) 2
      have db3 := jq (n := m[q]) 3
      have db4 := jq (n := m[q]) 4
      refine zC (zf (zl (zB (zh (zg rfl rfl (zi rfl rfl) (zg rfl rfl (zq rfl rfl) (zg rfl rfl (zi rfl rfl) (zg rfl rfl (zG rfl rfl rfl jv (by omega) (wu hlt) jC) (zg rfl rfl (zA rfl rfl rfl ty3) (zg rfl rfl (zi rfl rfl) (zg rfl rfl (zy (av := [_, _]) rfl ⟨rfl, rfl, trivial⟩ (f92 m[q] 1 v1 (by omega))) ?_)))))))))))
      refine zg rfl rfl (zV rfl rfl rfl ⟨(by omega), (by omega)⟩) (zg rfl rfl (zn rfl rfl) (zo (zD (zf (zh (zg rfl rfl (zi rfl rfl) (zg rfl rfl (zV rfl rfl rfl ⟨(by omega), (by omega)⟩) (zg rfl rfl (zn rfl rfl) (zo ?_)))))))))
      exact ⟨⟨q + 1, by omega⟩, by dsimp only; omega, zt _ ⟨rfl, rfl, rfl, rfl, (congrArg (fun x : Int => I x) (zay hlt).symm), rfl, trivial⟩ (rfl)⟩
     ·
      have hge : m.length <= q := by simpa [zO] using h1
      have hk2 : q = m.length := by omega
      subst hk2
      refine qp (zL (zL (qw (zf (zh (zg rfl rfl (zi rfl rfl) (zg rfl rfl (zcY rfl rfl rfl ⟨(by omega), (by omega)⟩) (zg rfl rfl (zi rfl rfl) (zg rfl rfl (yA rfl rfl rfl ⟨(by omega), (by omega)⟩) (zg rfl rfl (zV rfl rfl rfl ⟨(by omega), (by omega)⟩) (zg rfl rfl (zn rfl rfl) ?_)))))))))))
      refine zo (zD (zf (zh (zg rfl rfl (zi rfl rfl) (zg rfl rfl (zV rfl rfl rfl ⟨(by omega), (by omega)⟩) (zg rfl rfl (zn rfl rfl) (zo ?_)))))))
      exact ⟨⟨2, by omega⟩, by dsimp only; omega, (by refine zt (mem' := []) [(0, .pub (zO m)), (3, wZ), (4, I (ckN m 2)), (5, I 2)] ?_ ?_; exact ⟨rfl, rfl, (congrArg (fun x => I (10 * ckN m 1 + yU x 1 % 10)) (List.take_length ..)), rfl, trivial⟩; exact (rfl))⟩
   ·
    exfalso; simp at h0
  ·
   dsimp only
   refine zl (zl (zh (zg rfl rfl (zi rfl rfl) (zg rfl rfl (qi rfl rfl rfl) (zo (zf (zx rfl (fun h0 => ?_) (fun h0 => ?_))))))))
   ·
    refine zC (zf (zl (zB (zl (zh (zg rfl rfl (zn rfl rfl) (zo (zf (zl (zl (zh ?_)))))))))))
    refine zg rfl rfl (zn rfl rfl) (zo (zf (zB ?_)))
    refine qy (ι := { q : Nat // q <= m.length }) (fun q => ⟨Tryz.f35.ntmps, frL [(0, .pub (zO m)), (3, wZ), (4, I (ckN m 2)), (5, I 2), (6, I (yU (m.take q.1) 2)), (7, I (q.1 : Int))], []⟩) (fun q => m.length - q.1) (⟨0, by omega⟩) ?_ ?_
    ·
     exact zt _ ⟨rfl, rfl, rfl, rfl, rfl, rfl, trivial⟩ (rfl)
    ·
     rintro ⟨q, hq⟩
     dsimp only
     have sb := zc1 (m.take q) 2
     have sl : (m.take q).length <= q := by simp; omega
     refine zl (zl (zh (zg rfl rfl (zi rfl rfl) (zg rfl rfl (zq rfl rfl) (zg rfl rfl (qh rfl rfl rfl Tryz.underlying23) (zg rfl rfl (qi rfl rfl rfl) (zo (zf (zx rfl (fun h1 => ?_) (fun h1 => ?_))))))))))
     ·
      have hlt : q < m.length := by simpa [zO] using h1
      have v1 := hm _ (List.getElem_mem hlt)
      have db := jq (n := m[q]) 0
      have db1 := jq (n := m[q]) 1
      have db2 := jq (n := m[q]) 2
      have db3 := jq (n := m[q]) 3
      have db4 := jq (n := m[q]) 4
      refine zC (zf (zl (zB (zh (zg rfl rfl (zi rfl rfl) (zg rfl rfl (zq rfl rfl) (zg rfl rfl (zi rfl rfl) (zg rfl rfl (zG rfl rfl rfl jv (by omega) (wu hlt) jC) (zg rfl rfl (zA rfl rfl rfl ty3) (zg rfl rfl (zi rfl rfl) (zg rfl rfl (zy (av := [_, _]) rfl ⟨rfl, rfl, trivial⟩ (f92 m[q] 2 v1 (by omega))) ?_)))))))))))
      refine zg rfl rfl (zV rfl rfl rfl ⟨(by omega), (by omega)⟩) (zg rfl rfl (zn rfl rfl) (zo (zD (zf (zh (zg rfl rfl (zi rfl rfl) (zg rfl rfl (zV rfl rfl rfl ⟨(by omega), (by omega)⟩) (zg rfl rfl (zn rfl rfl) (zo ?_)))))))))
      exact ⟨⟨q + 1, by omega⟩, by dsimp only; omega, zt _ ⟨rfl, rfl, rfl, rfl, (congrArg (fun x : Int => I x) (zay hlt).symm), rfl, trivial⟩ (rfl)⟩
     ·
      have hge : m.length <= q := by simpa [zO] using h1
      have hk2 : q = m.length := by omega
      subst hk2
      refine qp (zL (zL (qw (zf (zh (zg rfl rfl (zi rfl rfl) (zg rfl rfl (zcY rfl rfl rfl ⟨(by omega), (by omega)⟩) (zg rfl rfl (zi rfl rfl) (zg rfl rfl (yA rfl rfl rfl ⟨(by omega), (by omega)⟩) (zg rfl rfl (zV rfl rfl rfl ⟨(by omega), (by omega)⟩) (zg rfl rfl (zn rfl rfl) ?_)))))))))))
      refine zo (zD (zf (zh (zg rfl rfl (zi rfl rfl) (zg rfl rfl (zV rfl rfl rfl ⟨(by omega), (by omega)⟩) (zg rfl rfl (zn rfl rfl) (zo ?_)))))))
      exact ⟨⟨3, by omega⟩, by dsimp only; omega, (by refine zt (mem' := []) [(0, .pub (zO m)), (3, wZ), (4, I (ckN m 3)), (5, I 3)] ?_ ?_; exact ⟨rfl, rfl, (congrArg (fun x => I (10 * ckN m 2 + yU x 2 % 10)) (List.take_length ..)), rfl, trivial⟩; exact (rfl))⟩
   ·
    exfalso; simp at h0
  ·
   dsimp only
   refine zl (zl (zh (zg rfl rfl (zi rfl rfl) (zg rfl rfl (qi rfl rfl rfl) (zo (zf (zx rfl (fun h0 => ?_) (fun h0 => ?_))))))))
   ·
    refine zC (zf (zl (zB (zl (zh (zg rfl rfl (zn rfl rfl) (zo (zf (zl (zl (zh ?_)))))))))))
    refine zg rfl rfl (zn rfl rfl) (zo (zf (zB ?_)))
    refine qy (ι := { q : Nat // q <= m.length }) (fun q => ⟨Tryz.f35.ntmps, frL [(0, .pub (zO m)), (3, wZ), (4, I (ckN m 3)), (5, I 3), (6, I (yU (m.take q.1) 3)), (7, I (q.1 : Int))], []⟩) (fun q => m.length - q.1) (⟨0, by omega⟩) ?_ ?_
    ·
     exact zt _ ⟨rfl, rfl, rfl, rfl, rfl, rfl, trivial⟩ (rfl)
    ·
     rintro ⟨q, hq⟩
     dsimp only
     have sb := zc1 (m.take q) 3
     have sl : (m.take q).length <= q := by simp; omega
     refine zl (zl (zh (zg rfl rfl (zi rfl rfl) (zg rfl rfl (zq rfl rfl) (zg rfl rfl (qh rfl rfl rfl Tryz.underlying23) (zg rfl rfl (qi rfl rfl rfl) (zo (zf (zx rfl (fun h1 => ?_) (fun h1 => ?_))))))))))
     ·
      have hlt : q < m.length := by simpa [zO] using h1
      have v1 := hm _ (List.getElem_mem hlt)
      have db := jq (n := m[q]) 0
      have db1 := jq (n := m[q]) 1
      have db2 := jq (n := m[q]) 2
      have db3 := jq (n := m[q]) 3
      have db4 := jq (n := m[q]) 4
      refine zC (zf (zl (zB (zh (zg rfl rfl (zi rfl rfl) (zg rfl rfl (zq rfl rfl) (zg rfl rfl (zi rfl rfl) (zg rfl rfl (zG rfl rfl rfl jv (by omega) (wu hlt) jC) (zg rfl rfl (zA rfl rfl rfl ty3) (zg rfl rfl (zi rfl rfl) (zg rfl rfl (zy (av := [_, _]) rfl ⟨rfl, rfl, trivial⟩ (f92 m[q] 3 v1 (by omega))) ?_)))))))))))
      refine zg rfl rfl (zV rfl rfl rfl ⟨(by omega), (by omega)⟩) (zg rfl rfl (zn rfl rfl) (zo (zD (zf (zh (zg rfl rfl (zi rfl rfl) (zg rfl rfl (zV rfl rfl rfl ⟨(by omega), (by omega)⟩) (zg rfl rfl (zn rfl rfl) (zo ?_)))))))))
      exact ⟨⟨q + 1, by omega⟩, by dsimp only; omega, zt _ ⟨rfl, rfl, rfl, rfl, (congrArg (fun x : Int => I x) (zay hlt).symm), rfl, trivial⟩ (rfl)⟩
     ·
      have hge : m.length <= q := by simpa [zO] using h1
      have hk2 : q = m.length := by omega
      subst hk2
      refine qp (zL (zL (qw (zf (zh (zg rfl rfl (zi rfl rfl) (zg rfl rfl (zcY rfl rfl rfl ⟨(by omega), (by omega)⟩) (zg rfl rfl (zi rfl rfl) (zg rfl rfl (yA rfl rfl rfl ⟨(by omega), (by omega)⟩) (zg rfl rfl (zV rfl rfl rfl ⟨(by omega), (by omega)⟩) (zg rfl rfl (zn rfl rfl) ?_)))))))))))
      refine zo (zD (zf (zh (zg rfl rfl (zi rfl rfl) (zg rfl rfl (zV rfl rfl rfl ⟨(by omega), (by omega)⟩) (zg rfl rfl (zn rfl rfl) (zo ?_)))))))
      exact ⟨⟨4, by omega⟩, by dsimp only; omega, (by refine zt (mem' := []) [(0, .pub (zO m)), (3, wZ), (4, I (ckN m 4)), (5, I 4)] ?_ ?_; exact ⟨rfl, rfl, (congrArg (fun x => I (10 * ckN m 3 + yU x 3 % 10)) (List.take_length ..)), rfl, trivial⟩; exact (rfl))⟩
   ·
    exfalso; simp at h0
  ·
   dsimp only
   refine zl (zl (zh (zg rfl rfl (zi rfl rfl) (zg rfl rfl (qi rfl rfl rfl) (zo (zf (zx rfl (fun h0 => ?_) (fun h0 => ?_))))))))
   ·
    refine zC (zf (zl (zB (zl (zh (zg rfl rfl (zn rfl rfl) (zo (zf (zl (zl (zh ?_)))))))))))
    refine zg rfl rfl (zn rfl rfl) (zo (zf (zB ?_)))
    refine qy (ι := { q : Nat // q <= m.length }) (fun q => ⟨Tryz.f35.ntmps, frL [(0, .pub (zO m)), (3, wZ), (4, I (ckN m 4)), (5, I 4), (6, I (yU (m.take q.1) 4)), (7, I (q.1 : Int))], []⟩) (fun q => m.length - q.1) (⟨0, by omega⟩) ?_ ?_
    ·
     exact zt _ ⟨rfl, rfl, rfl, rfl, rfl, rfl, trivial⟩ (rfl)
    ·
     rintro ⟨q, hq⟩
     dsimp only
     have sb := zc1 (m.take q) 4
     have sl : (m.take q).length <= q := by simp; omega
     refine zl (zl (zh (zg rfl rfl (zi rfl rfl) (zg rfl rfl (zq rfl rfl) (zg rfl rfl (qh rfl rfl rfl Tryz.underlying23) (zg rfl rfl (qi rfl rfl rfl) (zo (zf (zx rfl (fun h1 => ?_) (fun h1 => ?_))))))))))
     ·
      have hlt : q < m.length := by simpa [zO] using h1
      have v1 := hm _ (List.getElem_mem hlt)
      have db := jq (n := m[q]) 0
      have db1 := jq (n := m[q]) 1
      have db2 := jq (n := m[q]) 2
      have db3 := jq (n := m[q]) 3
      have db4 := jq (n := m[q]) 4
      refine zC (zf (zl (zB (zh (zg rfl rfl (zi rfl rfl) (zg rfl rfl (zq rfl rfl) (zg rfl rfl (zi rfl rfl) (zg rfl rfl (zG rfl rfl rfl jv (by omega) (wu hlt) jC) (zg rfl rfl (zA rfl rfl rfl ty3) (zg rfl rfl (zi rfl rfl) (zg rfl rfl (zy (av := [_, _]) rfl ⟨rfl, rfl, trivial⟩ (f92 m[q] 4 v1 (by omega))) ?_)))))))))))
      refine zg rfl rfl (zV rfl rfl rfl ⟨(by omega), (by omega)⟩) (zg rfl rfl (zn rfl rfl) (zo (zD (zf (zh (zg rfl rfl (zi rfl rfl) (zg rfl rfl (zV rfl rfl rfl ⟨(by omega), (by omega)⟩) (zg rfl rfl (zn rfl rfl) (zo ?_)))))))))
      exact ⟨⟨q + 1, by omega⟩, by dsimp only; omega, zt _ ⟨rfl, rfl, rfl, rfl, (congrArg (fun x : Int => I x) (zay hlt).symm), rfl, trivial⟩ (rfl)⟩
     ·
      have hge : m.length <= q := by simpa [zO] using h1
      have hk2 : q = m.length := by omega
      subst hk2
      refine qp (zL (zL (qw (zf (zh (zg rfl rfl (zi rfl rfl) (zg rfl rfl (zcY rfl rfl rfl ⟨(by omega), (by omega)⟩) (zg rfl rfl (zi rfl rfl) (zg rfl rfl (yA rfl rfl rfl ⟨(by omega), (by omega)⟩) (zg rfl rfl (zV rfl rfl rfl ⟨(by omega), (by omega)⟩) (zg rfl rfl (zn rfl rfl) ?_)))))))))))
      refine zo (zD (zf (zh (zg rfl rfl (zi rfl rfl) (zg rfl rfl (zV rfl rfl rfl ⟨(by omega), (by omega)⟩) (zg rfl rfl (zn rfl rfl) (zo ?_)))))))
      exact ⟨⟨5, by omega⟩, by dsimp only; omega, (by refine zt (mem' := []) [(0, .pub (zO m)), (3, wZ), (4, I (ckN m 5)), (5, I 5)] ?_ ?_; exact ⟨rfl, rfl, (congrArg (fun x => I (10 * ckN m 4 + yU x 4 % 10)) (List.take_length ..)), rfl, trivial⟩; exact (rfl))⟩
   ·
    exfalso; simp at h0
  ·
   dsimp only
   refine zl (zl (zh (zg rfl rfl (zi rfl rfl) (zg rfl rfl (qi rfl rfl rfl) (zo (zf (zx rfl (fun h0 => ?_) (fun h0 => ?_))))))))
   ·
    exfalso; simp at h0
   ·
    refine qp (zL (zL (qw (zf (zl (zl (zh (zg rfl rfl (zn rfl rfl) (zo (zf (zB ?_)))))))))))
    refine qx (kG 3 rfl) ?_
    refine qy (ι := { r : Nat // r <= m.length }) (fun r => ⟨Tryz.f35.ntmps, frL [(0, .pub (zO m)), (3, .psl 0 r.1), (4, I (ckN m 5)), (8, I (r.1 : Int))], [.row ((m.take r.1).map fun n => [SL (grp n)])]⟩) (fun r => m.length - r.1) (⟨0, by omega⟩) ?_ ?_
    ·
     exact zt _ ⟨rfl, rfl, rfl, rfl, trivial⟩ (rfl)
    ·
     rintro ⟨r, hr⟩
     dsimp only
     refine zl (zl (zh (zg rfl rfl (zi rfl rfl) (zg rfl rfl (zq rfl rfl) (zg rfl rfl (qh rfl rfl rfl Tryz.underlying23) (zg rfl rfl (qi rfl rfl rfl) (zo (zf (zx rfl (fun h2 => ?_) (fun h2 => ?_))))))))))
     ·
      have hlt : r < m.length := by simpa [zO] using h2
      have v1 := hm _ (List.getElem_mem hlt)
      refine zC (zf (zl (zB (zh (zg rfl rfl (zI rfl rfl) (zg rfl rfl (zq rfl rfl) (zg rfl rfl (zi rfl rfl) (zg rfl rfl (zG rfl rfl rfl jv (by omega) (wu hlt) jC) (zg rfl rfl (zA rfl rfl rfl ty3) (zg rfl rfl (zy (av := [_]) rfl ⟨rfl, trivial⟩ (f94 m[r] v1)) ?_))))))))))
      refine zg rfl rfl (qg (size := 1) (rows := [[_]]) rfl Tryz.underlying34 ti9 rfl (by decide) rfl (by decide) ⟨_, _, rfl, (jF rfl), rfl⟩ (by rfl) (by simp [ofV]) rfl (by simp)) ?_
      refine jb rfl (vS rfl rfl rfl rfl (by simp; omega) rfl zrL (by intro r hr; obtain ⟨n, _, rfl⟩ := List.mem_map.1 hr; rfl) (by simp) (by simp; omega) (by unfold maxLen; simp; omega)) ?_
      refine zg rfl rfl (qo rfl rfl) (zo (zD (zf (zh (zg rfl rfl (zi rfl rfl) (zg rfl rfl (zV rfl rfl rfl ⟨(by omega), (by omega)⟩) (zg rfl rfl (zn rfl rfl) (zo ?_))))))))
      exact ⟨⟨r + 1, by omega⟩, by dsimp only; omega, zt _ ⟨rfl, rfl, rfl, rfl, trivial⟩ (congrArg (fun z => [PO.row z]) (znr hlt).symm)⟩
     ·
      have hge : m.length <= r := by simpa [zO] using h2
      have hk2 : r = m.length := by omega
      subst hk2
      refine qp (zL (zL (qw (zf (zl (zh (zg rfl rfl (zI rfl rfl) (zg rfl rfl (zi rfl rfl) (zg rfl rfl (zy (av := [_]) rfl ⟨rfl, trivial⟩ (f94 (ckN m 5) (by omega))) ?_)))))))))
      refine zg rfl rfl (qg (size := 1) (rows := [[_]]) rfl Tryz.underlying34 ti9 rfl (by decide) rfl (by decide) ⟨_, _, rfl, (jF rfl), rfl⟩ (by rfl) (by simp [ofV]) rfl (by simp)) ?_
      refine jb rfl (vS rfl rfl rfl rfl (by simp) rfl zrL (by intro r hr; obtain ⟨n, _, rfl⟩ := List.mem_map.1 hr; rfl) (by simp) (by simp; omega) (by unfold maxLen; simp; omega)) ?_
      refine zg rfl rfl (qo rfl rfl) (zo (zf (zP ?_)))
      exact ⟨.inr rfl, ⟨((jQ m).map fun s => [eS s]), by show some (PO.row _) = some (PO.row _); simp [jQ, vV, grp, zk0, Function.comp_def], by simp [jQ, vV], rfl⟩⟩
theorem f29 (a b : List (List UInt8)) (ha : a.length <= 1000) : ACall Tryz.prog G 29 [jD a, jD b] (.v (.bool (decide (a = b)))) := by
 refine zS Tryz.func29 rfl (by kernel_rfl) rfl ?_
 refine zl (zh (zg rfl rfl (zn rfl rfl) (zo (zf (zl (zl (zh (zg rfl rfl (zq rfl rfl) (zg rfl rfl (qh rfl rfl rfl Tryz.underlying34) (zg rfl rfl (zq rfl rfl) (zg rfl rfl (qh rfl rfl rfl Tryz.underlying34) ?_)))))))))))
 refine zg rfl rfl (vg rfl rfl rfl) (zo (zf (zx rfl (fun h0 => ?_) (fun h0 => ?_))))
 ·
  have hne : a.length ≠ b.length := by simp [jD] at h0; omega
  refine zl (zh (zg rfl rfl (zn rfl rfl) (zo (zf (zP (zQ ?_))))))
  exact ⟨.inr rfl, AVle.of (by rw [decide_eq_false (fun e : a = b => hne (by rw [e]))])⟩
 ·
  have hle : a.length = b.length := by simp [jD] at h0; omega
  refine zC (zf (zl (zl (zh (zg rfl rfl (zn rfl rfl) (zo (zf (zB ?_))))))))
  refine qy (ι := { q : Nat // q <= a.length /\ a.take q = b.take q }) (fun q => ⟨Tryz.f29.ntmps, frL [(0, .pub (jD a)), (1, .pub (jD b)), (5, I (q.1 : Int))], []⟩) (fun q => a.length - q.1) (⟨0, by simp⟩) ?_ ?_
  ·
   exact zt _ ⟨rfl, rfl, rfl, trivial⟩ (rfl)
  ·
   rintro ⟨q, hq⟩
   dsimp only
   refine zl (zl (zh (zg rfl rfl (zi rfl rfl) (zg rfl rfl (zq rfl rfl) (zg rfl rfl (qh rfl rfl rfl Tryz.underlying34) (zg rfl rfl (qi rfl rfl rfl) (zo (zf (zx rfl (fun h1 => ?_) (fun h1 => ?_))))))))))
   ·
    have hlt : q < a.length := by simpa [jD] using h1
    have hlb : q < b.length := by omega
    refine zC (zf (zl (zB (zl ?_))))
    refine qY mixed (by kernel_rfl) rfl ?_
    refine zH rfl (zq rfl rfl) (zH rfl (zi rfl rfl) (zH rfl (zG rfl rfl rfl yJ (by omega) (xI hlt) vZ) (zH rfl (zA rfl rfl rfl ty9) (zH rfl (zq rfl rfl) (zH rfl (zi rfl rfl) (zH rfl (zG rfl rfl rfl yJ (by omega) (xI hlb) vZ) (zH rfl (zA rfl rfl rfl ty9) (zH rfl (zue rfl rfl rfl) (jw (zf (zx rfl (fun h2 => ?_) (fun h2 => ?_))))))))))))
    ·
     have hb : a[q] ≠ b[q] := by simpa using h2
     refine zl (zh (zg rfl rfl (zn rfl rfl) (zo (zf (zP (qF (zQ (zQ (qF (zQ ?_))))))))))
     exact ⟨.inr rfl, AVle.of (by rw [decide_eq_false (fun e : a = b => hb (by subst e; rfl))])⟩
    ·
     have hb : a[q] = b[q] := by simpa using h2
     refine zC (zD (zf (zh (zg rfl rfl (zi rfl rfl) (zg rfl rfl (zV rfl rfl rfl ⟨(by omega), (by omega)⟩) (zg rfl rfl (zn rfl rfl) (zo ?_)))))))
     exact ⟨⟨q + 1, by omega, by rw [List.take_succ_eq_append_getElem hlt, List.take_succ_eq_append_getElem hlb, hq.2, hb]⟩, by dsimp only; omega, zt _ ⟨rfl, rfl, rfl, trivial⟩ (rfl)⟩
   ·
    have hge : a.length <= q := by simpa [jD] using h1
    refine qp (zL (zL (qw (zf (zl (zh (zg rfl rfl (zn rfl rfl) (zo (zf (zP ?_))))))))))
    exact ⟨.inr rfl, AVle.of (by rw [List.take_of_length_le hge, List.take_of_length_le (by omega)] at hq; rw [decide_eq_true hq.2])⟩
theorem f21 (c : Cod) : ACall Tryz.prog G 21 [.agg (qK c)] (.v (.bool (decide (c.fields.length <= 6) && decide (c.turns.length <= 14)))) := by
 refine zS Tryz.func21 rfl (by kernel_rfl) rfl ?_
 refine zl (zh (zg rfl rfl (jf rfl (zY rfl)) (zg rfl rfl (zn rfl rfl) (zo (zf (zl (zh (zg rfl rfl (zu rfl rfl jS) (zg rfl rfl (zA rfl rfl rfl zah) (zg rfl rfl (qh rfl rfl rfl Tryz.underlying22) (zg rfl rfl (zaq rfl rfl rfl) ?_)))))))))))
 refine zg rfl rfl (zi rfl rfl) (zk rfl rfl rfl (fun hg => zu rfl rfl kU) (zk rfl rfl rfl (fun hg => zA rfl (if_pos hg) rfl jO) (zk rfl rfl rfl (fun hg => qh rfl rfl (if_pos hg) Tryz.underlying23) (zk rfl rfl rfl (fun hg => zaq rfl (if_pos hg) rfl) (zg rfl rfl (qI rfl rfl rfl rfl) (zg rfl rfl (zn rfl rfl) (zo (zf (zP ?_)))))))))
 exact ⟨.inr rfl, AVle.of (by simp only [zO, List.length_map]; exact congrArg (fun x : Bool => AV.v (Value.bool x)) (congr (congrArg (fun a b : Bool => a && b) (decide_eq_decide.2 (by omega))) (decide_eq_decide.2 (by omega))))⟩
end Go.Av
end
