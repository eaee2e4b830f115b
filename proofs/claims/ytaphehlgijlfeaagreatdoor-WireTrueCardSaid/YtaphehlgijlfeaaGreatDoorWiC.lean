
import Derived.Test.YtaphehlgijlfeaaGreatDoorWiB
set_option linter.unusedVariables false
set_option linter.unusedSimpArgs false
section
namespace Go.Av
open Go.Proofs
set_option maxRecDepth 100000
set_option maxHeartbeats 1000000
variable {G : Glob}
theorem zqL : Tryz.prog.info? 118 = some Tryz.t118 := by kernel_rfl
theorem zqX : elemIs Tryz.prog 145 118 5 40 := ⟨Tryz.underlying145, Tryz.t118, _, by kernel_rfl, rfl, rfl, rfl, rfl, by decide⟩
def chk (m : List Int) : G5 := m.foldl (fun s n => ⟨(s.a + (qB n).a) % 10, (s.b + (qB n).b) % 10, (s.c + (qB n).c) % 10, (s.d + (qB n).d) % 10, (s.e + (qB n).e) % 10⟩) ⟨0, 0, 0, 0, 0⟩
def vV (m : List Int) : List G5 := m.map qB ++ [chk m]
def iFg (g : G5) : List EV := [I g.a, I g.b, I g.c, I g.d, I g.e]
theorem zoJ {m : List Int} {k : Nat} (h : k < m.length) : chk (m.take (k + 1)) = ⟨((chk (m.take k)).a + (qB m[k]).a) % 10, ((chk (m.take k)).b + (qB m[k]).b) % 10, ((chk (m.take k)).c + (qB m[k]).c) % 10, ((chk (m.take k)).d + (qB m[k]).d) % 10, ((chk (m.take k)).e + (qB m[k]).e) % 10⟩ := by
 unfold chk; rw [List.take_succ_eq_append_getElem h, List.foldl_append]; rfl
theorem zno : ∀ m : List Int, (chk m).ok := by
 have key : ∀ (m : List Int) (s : G5), s.ok -> (m.foldl (fun s n => (⟨(s.a + (qB n).a) % 10, (s.b + (qB n).b) % 10, (s.c + (qB n).c) % 10, (s.d + (qB n).d) % 10, (s.e + (qB n).e) % 10⟩ : G5)) s).ok := by
  intro m
  induction m with
  | nil => exact fun s h => h
  | cons n m ih => exact fun s h => ih _ (by unfold G5.ok; dsimp only; omega)
 exact fun m => key m _ (by unfold G5.ok; dsimp only; omega)
theorem zpI {m : List Int} : ∀ g ∈ vV m, g.ok := fun g hg => by
 rcases List.mem_append.1 hg with h | h
 ·
  obtain ⟨n, _, rfl⟩ := List.mem_map.1 h; exact zlN n
 ·
  rw [List.mem_singleton.1 h]; exact zno m
theorem zne {m : List Int} {k : Nat} (h : k < m.length) : (m.take (k + 1)).map (fun n => iFg (qB n)) = (m.take k).map (fun n => iFg (qB n)) ++ [iFg (qB m[k])] := by
 rw [List.take_succ_eq_append_getElem h, List.map_append]; rfl
theorem f99 (m : List Int) (hl : m.length <= 1000) (hm : ∀ n ∈ m, 0 <= n /\ n <= 1000000000000) : ACall Tryz.prog G 99 [zO m] (.sl ((vV m).map eFg)) := by
 refine zS Tryz.func99 Y (by kernel_rfl) Y ?_
 refine zuy (zh (zE8 (zn Y Y) (zo (zf (zuy (zh (zE8 (zn Y Y) (zo (zf (zuy (zh ?_)))))))))))
 refine jb Y (wJ Y Y ziu Y Y) (zo (zf (zuy (zuy (zh (zE8 (zq Y Y) (zE8 (qh Y Y Y Tryz.underlying23) (zE8 (zi Y Y) (zo (zf (zB ?_)))))))))))
 refine qx (kG 3 Y) ?_
 refine qy (ι := { q : Nat // q <= m.length }) (fun q => ⟨Tryz.f99.ntmps, frL [(3, .psl 1 q.1), (4, .pp 0 1 0 0), (9, .pub (zO m)), (10, I (m.length : Int)), (11, I (q.1 : Int))], [.row [iFg (chk (m.take q.1))], .row ((m.take q.1).map fun n => iFg (qB n))]⟩) (fun q => m.length - q.1) (⟨0, by omega⟩) ?_ ?_
 ·
  exact zt _ ⟨Y, Y, Y, (congrArg (fun x : Nat => I (x : Int)) (List.length_map _)), Y, trivial⟩ (Y)
 ·
  rintro ⟨q, hq⟩
  dsimp only
  refine zuy (zh (zE8 (qi Y Y Y) (zo (zf (zuy (zx Y (fun h0 => ?_) (fun h0 => ?_)))))))
  ·
   have hlt : q < m.length := by simpa using h0
   have v1 := hm _ (List.getElem_mem hlt)
   have cb := zno (m.take q)
   have fb := zlN m[q]
   unfold G5.ok at cb fb
   refine zC (zf (zuy (zB (zuy (zh (zE8 (zG Y Y Y jv (by omega) (wu hlt) jC) (zE8 (zA Y Y Y ty3) (zE8 (zn Y Y) (zo (zf (zuy ?_)))))))))))
   refine zh (zE8 (zi Y Y) (zE8 (zy (av := [_]) Y ⟨Y, trivial⟩ (f86 m[q] v1)) ?_))
   refine vI  Y Y Y Y Y Y Y ziu zck Y (by rfl) (zY Y) Y ?_
   refine zo (zf (zuy (zh (zE8 (zI Y Y) (zE8 (zZ Y Y zck (by exact zLb Y)) ?_)))))
   refine zE8 (qg (size := 5) (rows := [[_, _, _, _, _]]) Y Tryz.underlying145 zqL Y (by decide) Y (by decide) ⟨_, _, Y, (zY Y), Y⟩ (by rfl) (by simp [ofV]) Y (by simp)) ?_
   refine jb rfl (vS rfl rfl rfl rfl (by simp; omega) rfl zqX (by intro r hr; obtain ⟨n, _, rfl⟩ := List.mem_map.1 hr; rfl) (by simp) (by simp; omega) (by unfold maxLen; simp; omega)) ?_
   refine zE8 (qo Y Y) (zo (zf (zuy (zh (zE8 (zi Y Y) (zo (zf (zB ?_))))))))
   refine qy (ι := { k : Nat // k < 6 }) (fun k => match k.1 with | 0 => ⟨Tryz.f99.ntmps, frL [(3, .psl 1 (q + 1)), (4, .pp 0 1 0 0), (7, .pub (.ptr (eFg (qB m[q])))), (9, .pub (zO m)), (10, I (m.length : Int)), (11, I (q : Int)), (21, I 0)], [.row [[I (chk (m.take q)).a, I (chk (m.take q)).b, I (chk (m.take q)).c, I (chk (m.take q)).d, I (chk (m.take q)).e]], .row ((m.take q).map (fun n => iFg (qB n)) ++ [iFg (qB m[q])])]⟩ | 1 => ⟨Tryz.f99.ntmps, frL [(3, .psl 1 (q + 1)), (4, .pp 0 1 0 0), (7, .pub (.ptr (eFg (qB m[q])))), (9, .pub (zO m)), (10, I (m.length : Int)), (11, I (q : Int)), (21, I 1)], [.row [[I (((chk (m.take q)).a + (qB m[q]).a) % 10), I (chk (m.take q)).b, I (chk (m.take q)).c, I (chk (m.take q)).d, I (chk (m.take q)).e]], .row ((m.take q).map (fun n => iFg (qB n)) ++ [iFg (qB m[q])])]⟩ | 2 => ⟨Tryz.f99.ntmps, frL [(3, .psl 1 (q + 1)), (4, .pp 0 1 0 0), (7, .pub (.ptr (eFg (qB m[q])))), (9, .pub (zO m)), (10, I (m.length : Int)), (11, I (q : Int)), (21, I 2)], [.row [[I (((chk (m.take q)).a + (qB m[q]).a) % 10), I (((chk (m.take q)).b + (qB m[q]).b) % 10), I (chk (m.take q)).c, I (chk (m.take q)).d, I (chk (m.take q)).e]], .row ((m.take q).map (fun n => iFg (qB n)) ++ [iFg (qB m[q])])]⟩ | 3 => ⟨Tryz.f99.ntmps, frL [(3, .psl 1 (q + 1)), (4, .pp 0 1 0 0), (7, .pub (.ptr (eFg (qB m[q])))), (9, .pub (zO m)), (10, I (m.length : Int)), (11, I (q : Int)), (21, I 3)], [.row [[I (((chk (m.take q)).a + (qB m[q]).a) % 10), I (((chk (m.take q)).b + (qB m[q]).b) % 10), I (((chk (m.take q)).c + (qB m[q]).c) % 10), I (chk (m.take q)).d, I (chk (m.take q)).e]], .row ((m.take q).map (fun n => iFg (qB n)) ++ [iFg (qB m[q])])]⟩ | 4 => ⟨Tryz.f99.ntmps, frL [(3, .psl 1 (q + 1)), (4, .pp 0 1 0 0), (7, .pub (.ptr (eFg (qB m[q])))), (9, .pub (zO m)), (10, I (m.length : Int)), (11, I (q : Int)), (21, I 4)], [.row [[I (((chk (m.take q)).a + (qB m[q]).a) % 10), I (((chk (m.take q)).b + (qB m[q]).b) % 10), I (((chk (m.take q)).c + (qB m[q]).c) % 10), I (((chk (m.take q)).d + (qB m[q]).d) % 10), I (chk (m.take q)).e]], .row ((m.take q).map (fun n => iFg (qB n)) ++ [iFg (qB m[q])])]⟩ | _ => ⟨Tryz.f99.ntmps, frL [(3, .psl 1 (q + 1)), (4, .pp 0 1 0 0), (7, .pub (.ptr (eFg (qB m[q])))), (9, .pub (zO m)), (10, I (m.length : Int)), (11, I (q : Int)), (21, I 5)], [.row [[I (((chk (m.take q)).a + (qB m[q]).a) % 10), I (((chk (m.take q)).b + (qB m[q]).b) % 10), I (((chk (m.take q)).c + (qB m[q]).c) % 10), I (((chk (m.take q)).d + (qB m[q]).d) % 10), I (((chk (m.take q)).e + (qB m[q]).e) % 10)]], .row ((m.take q).map (fun n => iFg (qB n)) ++ [iFg (qB m[q])])]⟩) (fun k => 6 - k.1) (⟨0, by omega⟩) ?_ ?_
   ·
    exact zt _ ⟨Y, Y, Y, Y, Y, Y, Y, trivial⟩ (Y)
   ·
    rintro ⟨k, hk⟩
    have hk3 : k = 0 ∨ k = 1 ∨ k = 2 ∨ k = 3 ∨ k = 4 ∨ k = 5 := by omega
    rcases hk3 with rfl | rfl | rfl | rfl | rfl | rfl
    ·
     dsimp only
     refine zuy (zh (zE8 (qi Y Y Y) (zo (zf (zuy (zx Y (fun h1 => ?_) (fun h1 => ?_)))))))
     ·
      refine zC (zf (zuy (zB (zuy (zh (zE8 (zi Y Y) (zE8 (zn Y Y) (zo (zf ?_)))))))))
      refine wR (fun _ => True) (fun k => match k with | 10 => .writes | _ => .here) mixed (by kernel_rfl) rfl (by kernel_rfl) trivial ?_
      refine zX Y Y (zi Y Y) (zX Y Y (zi Y Y) (zX Y Y (zJ Y Y Y Y Y vw (by omega) (by omega)) (zX Y Y (zK Y Y Y Y Y Y ty3) (zX Y Y (zi Y Y) (zX Y Y (vP Y Y Y vw (by omega) (by omega)) (zX Y Y (zA Y Y Y ty3) (zX Y Y (zV Y Y Y ⟨(by omega), (by omega)⟩) (zX Y Y (yA Y Y Y ⟨(by omega), (by omega)⟩) (zX Y Y (zJ Y Y Y Y Y vw (by omega) (by omega)) ?_)))))))))
      refine zaw Y Y (jk Y Y Y Y Y Y (jF Y) ty3 (by rfl) (by rfl)) trivial ?_
      refine wQ (zD (zf (zh (zE8 (zV Y Y Y ⟨(by omega), (by omega)⟩) (zE8 (zi Y Y) (zo ?_))))))
      exact ⟨⟨1, by omega⟩, by dsimp only; omega, (by refine zt (mem' := [.row [[I (((chk (m.take q)).a + (qB m[q]).a) % 10), I (chk (m.take q)).b, I (chk (m.take q)).c, I (chk (m.take q)).d, I (chk (m.take q)).e]], .row ((m.take q).map (fun n => iFg (qB n)) ++ [iFg (qB m[q])])]) [(3, .psl 1 (q + 1)), (4, .pp 0 1 0 0), (7, .pub (.ptr (eFg (qB m[q])))), (9, .pub (zO m)), (10, I (m.length : Int)), (11, I (q : Int)), (21, I 1)] ?_ ?_; exact ⟨Y, Y, Y, Y, Y, Y, Y, trivial⟩; exact (Y))⟩
     ·
      exfalso; simp at h1
    ·
     dsimp only
     refine zuy (zh (zE8 (qi Y Y Y) (zo (zf (zuy (zx Y (fun h1 => ?_) (fun h1 => ?_)))))))
     ·
      refine zC (zf (zuy (zB (zuy (zh (zE8 (zi Y Y) (zE8 (zn Y Y) (zo (zf ?_)))))))))
      refine wR (fun _ => True) (fun k => match k with | 10 => .writes | _ => .here) mixed (by kernel_rfl) rfl (by kernel_rfl) trivial ?_
      refine zX Y Y (zi Y Y) (zX Y Y (zi Y Y) (zX Y Y (zJ Y Y Y Y Y vw (by omega) (by omega)) (zX Y Y (zK Y Y Y Y Y Y ty3) (zX Y Y (zi Y Y) (zX Y Y (vP Y Y Y vw (by omega) (by omega)) (zX Y Y (zA Y Y Y ty3) (zX Y Y (zV Y Y Y ⟨(by omega), (by omega)⟩) (zX Y Y (yA Y Y Y ⟨(by omega), (by omega)⟩) (zX Y Y (zJ Y Y Y Y Y vw (by omega) (by omega)) ?_)))))))))
      refine zaw Y Y (jk Y Y Y Y Y Y (jF Y) ty3 (by rfl) (by rfl)) trivial ?_
      refine wQ (zD (zf (zh (zE8 (zV Y Y Y ⟨(by omega), (by omega)⟩) (zE8 (zi Y Y) (zo ?_))))))
      exact ⟨⟨2, by omega⟩, by dsimp only; omega, (by refine zt (mem' := [.row [[I (((chk (m.take q)).a + (qB m[q]).a) % 10), I (((chk (m.take q)).b + (qB m[q]).b) % 10), I (chk (m.take q)).c, I (chk (m.take q)).d, I (chk (m.take q)).e]], .row ((m.take q).map (fun n => iFg (qB n)) ++ [iFg (qB m[q])])]) [(3, .psl 1 (q + 1)), (4, .pp 0 1 0 0), (7, .pub (.ptr (eFg (qB m[q])))), (9, .pub (zO m)), (10, I (m.length : Int)), (11, I (q : Int)), (21, I 2)] ?_ ?_; exact ⟨Y, Y, Y, Y, Y, Y, Y, trivial⟩; exact (Y))⟩
     ·
      exfalso; simp at h1
    ·
     dsimp only
     refine zuy (zh (zE8 (qi Y Y Y) (zo (zf (zuy (zx Y (fun h1 => ?_) (fun h1 => ?_)))))))
     ·
      refine zC (zf (zuy (zB (zuy (zh (zE8 (zi Y Y) (zE8 (zn Y Y) (zo (zf ?_)))))))))
      refine wR (fun _ => True) (fun k => match k with | 10 => .writes | _ => .here) mixed (by kernel_rfl) rfl (by kernel_rfl) trivial ?_
      refine zX Y Y (zi Y Y) (zX Y Y (zi Y Y) (zX Y Y (zJ Y Y Y Y Y vw (by omega) (by omega)) (zX Y Y (zK Y Y Y Y Y Y ty3) (zX Y Y (zi Y Y) (zX Y Y (vP Y Y Y vw (by omega) (by omega)) (zX Y Y (zA Y Y Y ty3) (zX Y Y (zV Y Y Y ⟨(by omega), (by omega)⟩) (zX Y Y (yA Y Y Y ⟨(by omega), (by omega)⟩) (zX Y Y (zJ Y Y Y Y Y vw (by omega) (by omega)) ?_)))))))))
      refine zaw Y Y (jk Y Y Y Y Y Y (jF Y) ty3 (by rfl) (by rfl)) trivial ?_
      refine wQ (zD (zf (zh (zE8 (zV Y Y Y ⟨(by omega), (by omega)⟩) (zE8 (zi Y Y) (zo ?_))))))
      exact ⟨⟨3, by omega⟩, by dsimp only; omega, (by refine zt (mem' := [.row [[I (((chk (m.take q)).a + (qB m[q]).a) % 10), I (((chk (m.take q)).b + (qB m[q]).b) % 10), I (((chk (m.take q)).c + (qB m[q]).c) % 10), I (chk (m.take q)).d, I (chk (m.take q)).e]], .row ((m.take q).map (fun n => iFg (qB n)) ++ [iFg (qB m[q])])]) [(3, .psl 1 (q + 1)), (4, .pp 0 1 0 0), (7, .pub (.ptr (eFg (qB m[q])))), (9, .pub (zO m)), (10, I (m.length : Int)), (11, I (q : Int)), (21, I 3)] ?_ ?_; exact ⟨Y, Y, Y, Y, Y, Y, Y, trivial⟩; exact (Y))⟩
     ·
      exfalso; simp at h1
    ·
     dsimp only
     refine zuy (zh (zE8 (qi Y Y Y) (zo (zf (zuy (zx Y (fun h1 => ?_) (fun h1 => ?_)))))))
     ·
      refine zC (zf (zuy (zB (zuy (zh (zE8 (zi Y Y) (zE8 (zn Y Y) (zo (zf ?_)))))))))
      refine wR (fun _ => True) (fun k => match k with | 10 => .writes | _ => .here) mixed (by kernel_rfl) rfl (by kernel_rfl) trivial ?_
      refine zX Y Y (zi Y Y) (zX Y Y (zi Y Y) (zX Y Y (zJ Y Y Y Y Y vw (by omega) (by omega)) (zX Y Y (zK Y Y Y Y Y Y ty3) (zX Y Y (zi Y Y) (zX Y Y (vP Y Y Y vw (by omega) (by omega)) (zX Y Y (zA Y Y Y ty3) (zX Y Y (zV Y Y Y ⟨(by omega), (by omega)⟩) (zX Y Y (yA Y Y Y ⟨(by omega), (by omega)⟩) (zX Y Y (zJ Y Y Y Y Y vw (by omega) (by omega)) ?_)))))))))
      refine zaw Y Y (jk Y Y Y Y Y Y (jF Y) ty3 (by rfl) (by rfl)) trivial ?_
      refine wQ (zD (zf (zh (zE8 (zV Y Y Y ⟨(by omega), (by omega)⟩) (zE8 (zi Y Y) (zo ?_))))))
      exact ⟨⟨4, by omega⟩, by dsimp only; omega, (by refine zt (mem' := [.row [[I (((chk (m.take q)).a + (qB m[q]).a) % 10), I (((chk (m.take q)).b + (qB m[q]).b) % 10), I (((chk (m.take q)).c + (qB m[q]).c) % 10), I (((chk (m.take q)).d + (qB m[q]).d) % 10), I (chk (m.take q)).e]], .row ((m.take q).map (fun n => iFg (qB n)) ++ [iFg (qB m[q])])]) [(3, .psl 1 (q + 1)), (4, .pp 0 1 0 0), (7, .pub (.ptr (eFg (qB m[q])))), (9, .pub (zO m)), (10, I (m.length : Int)), (11, I (q : Int)), (21, I 4)] ?_ ?_; exact ⟨Y, Y, Y, Y, Y, Y, Y, trivial⟩; exact (Y))⟩
     ·
      exfalso; simp at h1
    ·
     dsimp only
     refine zuy (zh (zE8 (qi Y Y Y) (zo (zf (zuy (zx Y (fun h1 => ?_) (fun h1 => ?_)))))))
     ·
      refine zC (zf (zuy (zB (zuy (zh (zE8 (zi Y Y) (zE8 (zn Y Y) (zo (zf ?_)))))))))
      refine wR (fun _ => True) (fun k => match k with | 10 => .writes | _ => .here) mixed (by kernel_rfl) rfl (by kernel_rfl) trivial ?_
      refine zX Y Y (zi Y Y) (zX Y Y (zi Y Y) (zX Y Y (zJ Y Y Y Y Y vw (by omega) (by omega)) (zX Y Y (zK Y Y Y Y Y Y ty3) (zX Y Y (zi Y Y) (zX Y Y (vP Y Y Y vw (by omega) (by omega)) (zX Y Y (zA Y Y Y ty3) (zX Y Y (zV Y Y Y ⟨(by omega), (by omega)⟩) (zX Y Y (yA Y Y Y ⟨(by omega), (by omega)⟩) (zX Y Y (zJ Y Y Y Y Y vw (by omega) (by omega)) ?_)))))))))
      refine zaw Y Y (jk Y Y Y Y Y Y (jF Y) ty3 (by rfl) (by rfl)) trivial ?_
      refine wQ (zD (zf (zh (zE8 (zV Y Y Y ⟨(by omega), (by omega)⟩) (zE8 (zi Y Y) (zo ?_))))))
      exact ⟨⟨5, by omega⟩, by dsimp only; omega, (by refine zt (mem' := [.row [[I (((chk (m.take q)).a + (qB m[q]).a) % 10), I (((chk (m.take q)).b + (qB m[q]).b) % 10), I (((chk (m.take q)).c + (qB m[q]).c) % 10), I (((chk (m.take q)).d + (qB m[q]).d) % 10), I (((chk (m.take q)).e + (qB m[q]).e) % 10)]], .row ((m.take q).map (fun n => iFg (qB n)) ++ [iFg (qB m[q])])]) [(3, .psl 1 (q + 1)), (4, .pp 0 1 0 0), (7, .pub (.ptr (eFg (qB m[q])))), (9, .pub (zO m)), (10, I (m.length : Int)), (11, I (q : Int)), (21, I 5)] ?_ ?_; exact ⟨Y, Y, Y, Y, Y, Y, Y, trivial⟩; exact (Y))⟩
     ·
      exfalso; simp at h1
    ·
     dsimp only
     refine zuy (zh (zE8 (qi Y Y Y) (zo (zf (zuy (zx Y (fun h1 => ?_) (fun h1 => ?_)))))))
     ·
      exfalso; simp at h1
     ·
      refine qp (zL (zL (qw (zD (zf (zh (zE8 (zV Y Y Y ⟨(by omega), (by omega)⟩) (zE8 (zi Y Y) (zo ?_)))))))))
      exact ⟨⟨q + 1, by omega⟩, by dsimp only; omega, zt _ ⟨Y, Y, Y, Y, Y, trivial⟩ (by rw [zoJ hlt, zne hlt]; rfl)⟩
  ·
   have hge : m.length <= q := by simpa using h0
   have hk2 : q = m.length := by omega
   subst hk2
   refine qp (zL (zL (qw (zf (zuy (zh (zE8 (zI Y Y) (zE8 (qN (cs := [_, _, _, _, _]) Y Y Y Y Y (by exact zLb Y) Y zck) ?_))))))))
   refine zE8 (qg (size := 5) (rows := [[_, _, _, _, _]]) Y Tryz.underlying145 zqL Y (by decide) Y (by decide) ⟨_, _, Y, (zY Y), Y⟩ (by rfl) (by simp [ofV]) Y (by simp)) ?_
   refine jb rfl (vS rfl rfl rfl rfl (by simp) rfl zqX (by intro r hr; obtain ⟨n, _, rfl⟩ := List.mem_map.1 hr; rfl) (by simp) (by simp; omega) (by unfold maxLen; simp; omega)) ?_
   refine zE8 (qo Y Y) (zo (zf (zP ?_)))
   exact ⟨.inr Y, ⟨((vV m).map eFg), by show some (PO.row _) = some (PO.row _); simp [vV, iFg, eFg, Function.comp_def], by simp [vV], Y⟩⟩
theorem ti9 : Tryz.prog.info? 9 = some Tryz.t9 := by kernel_rfl
theorem zrL : elemIs Tryz.prog 34 9 1 16 := ⟨Tryz.underlying34, Tryz.t9, _, by kernel_rfl, rfl, rfl, rfl, rfl, by decide⟩
theorem zrY : zau Tryz.prog 145 5 = true := by kernel_rfl
theorem yJ : zau Tryz.prog 34 1 = true := by kernel_rfl
theorem ty9 : tyIs Tryz.prog 9 false 1 = true := by kernel_rfl
def yU (m : List Int) (j : Nat) : Int := m.foldl (fun s n => s + dig n j) 0
def ckN (m : List Int) : Nat -> Int
 | 0 => 0
 | j + 1 => 10 * ckN m j + yU m j % 10
theorem zay {m : List Int} {j k : Nat} (h : k < m.length) : yU (m.take (k + 1)) j = yU (m.take k) j + dig m[k] j := by
 unfold yU; rw [List.take_succ_eq_append_getElem h, List.foldl_append]; rfl
theorem zc1 (m : List Int) (j : Nat) : 0 <= yU m j /\ yU m j <= 9 * m.length := by
 have key : ∀ (m : List Int) (t : Int), t <= m.foldl (fun s n => s + dig n j) t /\ m.foldl (fun s n => s + dig n j) t <= t + 9 * m.length := by
  intro m
  induction m with
  | nil => intro t; simp
  | cons n m ih =>
   intro t
   have h1 := ih (t + dig n j)
   have h2 := jq (n := n) j
   simp only [List.foldl_cons, List.length_cons]
   omega
 have := key m 0
 unfold yU; omega
theorem zrD (m : List Int) : 0 <= ckN m 5 /\ ckN m 5 <= 99999 /\ (0 <= ckN m 0 /\ ckN m 0 <= 0) /\ (0 <= ckN m 1 /\ ckN m 1 <= 9) /\ (0 <= ckN m 2 /\ ckN m 2 <= 99) /\ (0 <= ckN m 3 /\ ckN m 3 <= 999) /\ (0 <= ckN m 4 /\ ckN m 4 <= 9999) := by
 simp only [ckN]; omega
theorem zq7 : ∀ (m : List Int) (s : G5) (t : Int), s.a = t % 10 -> (m.foldl (fun s n => (⟨(s.a + (qB n).a) % 10, (s.b + (qB n).b) % 10, (s.c + (qB n).c) % 10, (s.d + (qB n).d) % 10, (s.e + (qB n).e) % 10⟩ : G5)) s).a = (m.foldl (fun s n => s + dig n 0) t) % 10
 | [], _, _, h => h
 | n :: m, s, t, h => zq7 m _ _ (by show (s.a + (qB n).a) % 10 = (t + (qB n).a) % 10; rw [h]; omega)
theorem zqN : ∀ (m : List Int) (s : G5) (t : Int), s.b = t % 10 -> (m.foldl (fun s n => (⟨(s.a + (qB n).a) % 10, (s.b + (qB n).b) % 10, (s.c + (qB n).c) % 10, (s.d + (qB n).d) % 10, (s.e + (qB n).e) % 10⟩ : G5)) s).b = (m.foldl (fun s n => s + dig n 1) t) % 10
 | [], _, _, h => h
 | n :: m, s, t, h => zqN m _ _ (by show (s.b + (qB n).b) % 10 = (t + (qB n).b) % 10; rw [h]; omega)
theorem zra : ∀ (m : List Int) (s : G5) (t : Int), s.c = t % 10 -> (m.foldl (fun s n => (⟨(s.a + (qB n).a) % 10, (s.b + (qB n).b) % 10, (s.c + (qB n).c) % 10, (s.d + (qB n).d) % 10, (s.e + (qB n).e) % 10⟩ : G5)) s).c = (m.foldl (fun s n => s + dig n 2) t) % 10
 | [], _, _, h => h
 | n :: m, s, t, h => zra m _ _ (by show (s.c + (qB n).c) % 10 = (t + (qB n).c) % 10; rw [h]; omega)
theorem zqQ : ∀ (m : List Int) (s : G5) (t : Int), s.d = t % 10 -> (m.foldl (fun s n => (⟨(s.a + (qB n).a) % 10, (s.b + (qB n).b) % 10, (s.c + (qB n).c) % 10, (s.d + (qB n).d) % 10, (s.e + (qB n).e) % 10⟩ : G5)) s).d = (m.foldl (fun s n => s + dig n 3) t) % 10
 | [], _, _, h => h
 | n :: m, s, t, h => zqQ m _ _ (by show (s.d + (qB n).d) % 10 = (t + (qB n).d) % 10; rw [h]; omega)
theorem zqZ : ∀ (m : List Int) (s : G5) (t : Int), s.e = t % 10 -> (m.foldl (fun s n => (⟨(s.a + (qB n).a) % 10, (s.b + (qB n).b) % 10, (s.c + (qB n).c) % 10, (s.d + (qB n).d) % 10, (s.e + (qB n).e) % 10⟩ : G5)) s).e = (m.foldl (fun s n => s + dig n 4) t) % 10
 | [], _, _, h => h
 | n :: m, s, t, h => zqZ m _ _ (by show (s.e + (qB n).e) % 10 = (t + (qB n).e) % 10; rw [h]; omega)
theorem zk0 (m : List Int) : qB (ckN m 5) = chk m := by
 have e : qB (ckN m 5) = ⟨yU m 0 % 10, yU m 1 % 10, yU m 2 % 10, yU m 3 % 10, yU m 4 % 10⟩ := by
  simp only [qB, ckN]
  congr 1 <;> omega
 have ha := zq7 m ⟨0, 0, 0, 0, 0⟩ 0 rfl
 have hb := zqN m ⟨0, 0, 0, 0, 0⟩ 0 rfl
 have hc := zra m ⟨0, 0, 0, 0, 0⟩ 0 rfl
 have hd := zqQ m ⟨0, 0, 0, 0, 0⟩ 0 rfl
 have he := zqZ m ⟨0, 0, 0, 0, 0⟩ 0 rfl
 rw [e]
 cases hk : chk m
 simp only [chk] at hk
 rw [hk] at ha hb hc hd he
 simp only at ha hb hc hd he
 subst ha; subst hb; subst hc; subst hd; subst he
 rfl
def jQ (m : List Int) : List (List UInt8) := (vV m).map G5.chs
theorem znr {m : List Int} {k : Nat} (h : k < m.length) : (m.take (k + 1)).map (fun n => [SL (grp n)]) = (m.take k).map (fun n => [SL (grp n)]) ++ [[SL (grp m[k])]] := by
 rw [List.take_succ_eq_append_getElem h, List.map_append]; rfl
theorem zAR {l : List G5} {k : Nat} (h : k < l.length) : (l.take (k + 1)).map (fun g => [SL g.chs]) = (l.take k).map (fun g => [SL g.chs]) ++ [[SL l[k].chs]] := by
 rw [List.take_succ_eq_append_getElem h, List.map_append]; rfl
theorem zEL {l : List G5} {k : Nat} (h : k < l.length) : (l.map eFg)[k]? = some (eFg l[k]) := by simp [h]
theorem zsV {l : List G5} : ∀ q ∈ l.map eFg, q.length = 5 := fun q hq => by obtain ⟨p, _, rfl⟩ := List.mem_map.1 hq; rfl
theorem xI {l : List (List UInt8)} {k : Nat} (h : k < l.length) : (l.map fun s => [eS s])[k]? = some [eS l[k]] := by simp [h]
theorem vZ {l : List (List UInt8)} : ∀ q ∈ l.map (fun s => [eS s]), q.length = 1 := by simp
theorem f35 (m : List Int) (hl : m.length <= 1000) (hm : ∀ n ∈ m, 0 <= n /\ n <= 1000000000000) : ACall Tryz.prog G 35 [zO m] (jD (jQ m)) := by
 have cb := zrD m
 refine zS Tryz.func35 Y (by kernel_rfl) Y ?_
 refine zuy (zh (zE8 (zn Y Y) (zo (zf (zuy (zh (zE8 (zn Y Y) (zo (zf (zuy (zh ?_)))))))))))
 refine zE8 (zn Y Y) (zo (zf (zuy (zuy (zh (zE8 (zn Y Y) (zo (zf (zB ?_)))))))))
 refine qy (ι := { k : Nat // k < 6 }) (fun k => match k.1 with | 0 => ⟨Tryz.f35.ntmps, frL [(0, .pub (zO m)), (3, wZ), (4, I (ckN m 0)), (5, I 0)], []⟩ | 1 => ⟨Tryz.f35.ntmps, frL [(0, .pub (zO m)), (3, wZ), (4, I (ckN m 1)), (5, I 1)], []⟩ | 2 => ⟨Tryz.f35.ntmps, frL [(0, .pub (zO m)), (3, wZ), (4, I (ckN m 2)), (5, I 2)], []⟩ | 3 => ⟨Tryz.f35.ntmps, frL [(0, .pub (zO m)), (3, wZ), (4, I (ckN m 3)), (5, I 3)], []⟩ | 4 => ⟨Tryz.f35.ntmps, frL [(0, .pub (zO m)), (3, wZ), (4, I (ckN m 4)), (5, I 4)], []⟩ | _ => ⟨Tryz.f35.ntmps, frL [(0, .pub (zO m)), (3, wZ), (4, I (ckN m 5)), (5, I 5)], []⟩) (fun k => 6 - k.1) (⟨0, by omega⟩) ?_ ?_
 ·
  exact zt _ ⟨Y, Y, Y, Y, trivial⟩ (Y)
 ·
  rintro ⟨k, hk⟩
  have hk3 : k = 0 ∨ k = 1 ∨ k = 2 ∨ k = 3 ∨ k = 4 ∨ k = 5 := by omega
  rcases hk3 with rfl | rfl | rfl | rfl | rfl | rfl
  ·
   dsimp only
   refine zuy (zuy (zh (zE8 (zi Y Y) (zE8 (qi Y Y Y) (zo (zf (zx Y (fun h0 => ?_) (fun h0 => ?_))))))))
   ·
    refine zC (zf (zuy (zB (zuy (zh (zE8 (zn Y Y) (zo (zf (zuy (zuy (zh ?_)))))))))))
    refine zE8 (zn Y Y) (zo (zf (zB ?_)))
    refine qy (ι := { q : Nat // q <= m.length }) (fun q => ⟨Tryz.f35.ntmps, frL [(0, .pub (zO m)), (3, wZ), (4, I (ckN m 0)), (5, I 0), (6, I (yU (m.take q.1) 0)), (7, I (q.1 : Int))], []⟩) (fun q => m.length - q.1) (⟨0, by omega⟩) ?_ ?_
    ·
     exact zt _ ⟨Y, Y, Y, Y, Y, Y, trivial⟩ (Y)
    ·
     rintro ⟨q, hq⟩
     dsimp only
     have sb := zc1 (m.take q) 0
     have sl : (m.take q).length <= q := by simp; omega
     refine zuy (zuy (zh (zE8 (zi Y Y) (zE8 (zq Y Y) (zE8 (qh Y Y Y Tryz.underlying23) (zE8 (qi Y Y Y) (zo (zf (zx Y (fun h1 => ?_) (fun h1 => ?_))))))))))
     ·
      have hlt : q < m.length := by simpa [zO] using h1
      have v1 := hm _ (List.getElem_mem hlt)
      have db := jq (n := m[q]) 0
      have db1 := jq (n := m[q]) 1
      have db2 := jq (n := m[q]) 2
      have db3 := jq (n := m[q]) 3
      have db4 := jq (n := m[q]) 4
      refine zC (zf (zuy (zB (zh (zE8 (zi Y Y) (zE8 (zq Y Y) (zE8 (zi Y Y) (zE8 (zG Y Y Y jv (by omega) (wu hlt) jC) (zE8 (zA Y Y Y ty3) (zE8 (zi Y Y) (zE8 (zy (av := [_, _]) Y ⟨Y, Y, trivial⟩ (f92 m[q] 0 v1 (by omega))) ?_)))))))))))
      refine zE8 (zV Y Y Y ⟨(by omega), (by omega)⟩) (zE8 (zn Y Y) (zo (zD (zf (zh (zE8 (zi Y Y) (zE8 (zV Y Y Y ⟨(by omega), (by omega)⟩) (zE8 (zn Y Y) (zo ?_)))))))))
      exact ⟨⟨q + 1, by omega⟩, by dsimp only; omega, zt _ ⟨Y, Y, Y, Y, (congrArg (fun x : Int => I x) (zay hlt).symm), Y, trivial⟩ (Y)⟩
     ·
      have hge : m.length <= q := by simpa [zO] using h1
      have hk2 : q = m.length := by omega
      subst hk2
      refine qp (zL (zL (qw (zf (zh (zE8 (zi Y Y) (zE8 (zcY Y Y Y ⟨(by omega), (by omega)⟩) (zE8 (zi Y Y) (zE8 (yA Y Y Y ⟨(by omega), (by omega)⟩) (zE8 (zV Y Y Y ⟨(by omega), (by omega)⟩) (zE8 (zn Y Y) ?_)))))))))))
      refine zo (zD (zf (zh (zE8 (zi Y Y) (zE8 (zV Y Y Y ⟨(by omega), (by omega)⟩) (zE8 (zn Y Y) (zo ?_)))))))
      exact ⟨⟨1, by omega⟩, by dsimp only; omega, (by refine zt (mem' := []) [(0, .pub (zO m)), (3, wZ), (4, I (ckN m 1)), (5, I 1)] ?_ ?_; exact ⟨Y, Y, (congrArg (fun x => I (10 * ckN m 0 + yU x 0 % 10)) (List.take_length ..)), Y, trivial⟩; exact (Y))⟩
   ·
    exfalso; simp at h0
  ·
   dsimp only
   refine zuy (zuy (zh (zE8 (zi Y Y) (zE8 (qi Y Y Y) (zo (zf (zx Y (fun h0 => ?_) (fun h0 => ?_))))))))
   ·
    refine zC (zf (zuy (zB (zuy (zh (zE8 (zn Y Y) (zo (zf (zuy (zuy (zh ?_)))))))))))
    refine zE8 (zn Y Y) (zo (zf (zB ?_)))
    refine qy (ι := { q : Nat // q <= m.length }) (fun q => ⟨Tryz.f35.ntmps, frL [(0, .pub (zO m)), (3, wZ), (4, I (ckN m 1)), (5, I 1), (6, I (yU (m.take q.1) 1)), (7, I (q.1 : Int))], []⟩) (fun q => m.length - q.1) (⟨0, by omega⟩) ?_ ?_
    ·
     exact zt _ ⟨Y, Y, Y, Y, Y, Y, trivial⟩ (Y)
    ·
     rintro ⟨q, hq⟩
     dsimp only
     have sb := zc1 (m.take q) 1
     have sl : (m.take q).length <= q := by simp; omega
     refine zuy (zuy (zh (zE8 (zi Y Y) (zE8 (zq Y Y) (zE8 (qh Y Y Y Tryz.underlying23) (zE8 (qi Y Y Y) (zo (zf (zx Y (fun h1 => ?_) (fun h1 => ?_))))))))))
     ·
      have hlt : q < m.length := by simpa [zO] using h1
      have v1 := hm _ (List.getElem_mem hlt)
      have db := jq (n := m[q]) 0
      have db1 := jq (n := m[q]) 1
      have db2 := jq (n := m[q]) 2
      have db3 := jq (n := m[q]) 3
      have db4 := jq (n := m[q]) 4
      refine zC (zf (zuy (zB (zh (zE8 (zi Y Y) (zE8 (zq Y Y) (zE8 (zi Y Y) (zE8 (zG Y Y Y jv (by omega) (wu hlt) jC) (zE8 (zA Y Y Y ty3) (zE8 (zi Y Y) (zE8 (zy (av := [_, _]) Y ⟨Y, Y, trivial⟩ (f92 m[q] 1 v1 (by omega))) ?_)))))))))))
      refine zE8 (zV Y Y Y ⟨(by omega), (by omega)⟩) (zE8 (zn Y Y) (zo (zD (zf (zh (zE8 (zi Y Y) (zE8 (zV Y Y Y ⟨(by omega), (by omega)⟩) (zE8 (zn Y Y) (zo ?_)))))))))
      exact ⟨⟨q + 1, by omega⟩, by dsimp only; omega, zt _ ⟨Y, Y, Y, Y, (congrArg (fun x : Int => I x) (zay hlt).symm), Y, trivial⟩ (Y)⟩
     ·
      have hge : m.length <= q := by simpa [zO] using h1
      have hk2 : q = m.length := by omega
      subst hk2
      refine qp (zL (zL (qw (zf (zh (zE8 (zi Y Y) (zE8 (zcY Y Y Y ⟨(by omega), (by omega)⟩) (zE8 (zi Y Y) (zE8 (yA Y Y Y ⟨(by omega), (by omega)⟩) (zE8 (zV Y Y Y ⟨(by omega), (by omega)⟩) (zE8 (zn Y Y) ?_)))))))))))
      refine zo (zD (zf (zh (zE8 (zi Y Y) (zE8 (zV Y Y Y ⟨(by omega), (by omega)⟩) (zE8 (zn Y Y) (zo ?_)))))))
      exact ⟨⟨2, by omega⟩, by dsimp only; omega, (by refine zt (mem' := []) [(0, .pub (zO m)), (3, wZ), (4, I (ckN m 2)), (5, I 2)] ?_ ?_; exact ⟨Y, Y, (congrArg (fun x => I (10 * ckN m 1 + yU x 1 % 10)) (List.take_length ..)), Y, trivial⟩; exact (Y))⟩
   ·
    exfalso; simp at h0
  ·
   dsimp only
   refine zuy (zuy (zh (zE8 (zi Y Y) (zE8 (qi Y Y Y) (zo (zf (zx Y (fun h0 => ?_) (fun h0 => ?_))))))))
   ·
    refine zC (zf (zuy (zB (zuy (zh (zE8 (zn Y Y) (zo (zf (zuy (zuy (zh ?_)))))))))))
    refine zE8 (zn Y Y) (zo (zf (zB ?_)))
    refine qy (ι := { q : Nat // q <= m.length }) (fun q => ⟨Tryz.f35.ntmps, frL [(0, .pub (zO m)), (3, wZ), (4, I (ckN m 2)), (5, I 2), (6, I (yU (m.take q.1) 2)), (7, I (q.1 : Int))], []⟩) (fun q => m.length - q.1) (⟨0, by omega⟩) ?_ ?_
    ·
     exact zt _ ⟨Y, Y, Y, Y, Y, Y, trivial⟩ (Y)
    ·
     rintro ⟨q, hq⟩
     dsimp only
     have sb := zc1 (m.take q) 2
     have sl : (m.take q).length <= q := by simp; omega
     refine zuy (zuy (zh (zE8 (zi Y Y) (zE8 (zq Y Y) (zE8 (qh Y Y Y Tryz.underlying23) (zE8 (qi Y Y Y) (zo (zf (zx Y (fun h1 => ?_) (fun h1 => ?_))))))))))
     ·
      have hlt : q < m.length := by simpa [zO] using h1
      have v1 := hm _ (List.getElem_mem hlt)
      have db := jq (n := m[q]) 0
      have db1 := jq (n := m[q]) 1
      have db2 := jq (n := m[q]) 2
      have db3 := jq (n := m[q]) 3
      have db4 := jq (n := m[q]) 4
      refine zC (zf (zuy (zB (zh (zE8 (zi Y Y) (zE8 (zq Y Y) (zE8 (zi Y Y) (zE8 (zG Y Y Y jv (by omega) (wu hlt) jC) (zE8 (zA Y Y Y ty3) (zE8 (zi Y Y) (zE8 (zy (av := [_, _]) Y ⟨Y, Y, trivial⟩ (f92 m[q] 2 v1 (by omega))) ?_)))))))))))
      refine zE8 (zV Y Y Y ⟨(by omega), (by omega)⟩) (zE8 (zn Y Y) (zo (zD (zf (zh (zE8 (zi Y Y) (zE8 (zV Y Y Y ⟨(by omega), (by omega)⟩) (zE8 (zn Y Y) (zo ?_)))))))))
      exact ⟨⟨q + 1, by omega⟩, by dsimp only; omega, zt _ ⟨Y, Y, Y, Y, (congrArg (fun x : Int => I x) (zay hlt).symm), Y, trivial⟩ (Y)⟩
     ·
      have hge : m.length <= q := by simpa [zO] using h1
      have hk2 : q = m.length := by omega
      subst hk2
      refine qp (zL (zL (qw (zf (zh (zE8 (zi Y Y) (zE8 (zcY Y Y Y ⟨(by omega), (by omega)⟩) (zE8 (zi Y Y) (zE8 (yA Y Y Y ⟨(by omega), (by omega)⟩) (zE8 (zV Y Y Y ⟨(by omega), (by omega)⟩) (zE8 (zn Y Y) ?_)))))))))))
      refine zo (zD (zf (zh (zE8 (zi Y Y) (zE8 (zV Y Y Y ⟨(by omega), (by omega)⟩) (zE8 (zn Y Y) (zo ?_)))))))
      exact ⟨⟨3, by omega⟩, by dsimp only; omega, (by refine zt (mem' := []) [(0, .pub (zO m)), (3, wZ), (4, I (ckN m 3)), (5, I 3)] ?_ ?_; exact ⟨Y, Y, (congrArg (fun x => I (10 * ckN m 2 + yU x 2 % 10)) (List.take_length ..)), Y, trivial⟩; exact (Y))⟩
   ·
    exfalso; simp at h0
  ·
   dsimp only
   refine zuy (zuy (zh (zE8 (zi Y Y) (zE8 (qi Y Y Y) (zo (zf (zx Y (fun h0 => ?_) (fun h0 => ?_))))))))
   ·
    refine zC (zf (zuy (zB (zuy (zh (zE8 (zn Y Y) (zo (zf (zuy (zuy (zh ?_)))))))))))
    refine zE8 (zn Y Y) (zo (zf (zB ?_)))
    refine qy (ι := { q : Nat // q <= m.length }) (fun q => ⟨Tryz.f35.ntmps, frL [(0, .pub (zO m)), (3, wZ), (4, I (ckN m 3)), (5, I 3), (6, I (yU (m.take q.1) 3)), (7, I (q.1 : Int))], []⟩) (fun q => m.length - q.1) (⟨0, by omega⟩) ?_ ?_
    ·
     exact zt _ ⟨Y, Y, Y, Y, Y, Y, trivial⟩ (Y)
    ·
     rintro ⟨q, hq⟩
     dsimp only
     have sb := zc1 (m.take q) 3
     have sl : (m.take q).length <= q := by simp; omega
     refine zuy (zuy (zh (zE8 (zi Y Y) (zE8 (zq Y Y) (zE8 (qh Y Y Y Tryz.underlying23) (zE8 (qi Y Y Y) (zo (zf (zx Y (fun h1 => ?_) (fun h1 => ?_))))))))))
     ·
      have hlt : q < m.length := by simpa [zO] using h1
      have v1 := hm _ (List.getElem_mem hlt)
      have db := jq (n := m[q]) 0
      have db1 := jq (n := m[q]) 1
      have db2 := jq (n := m[q]) 2
      have db3 := jq (n := m[q]) 3
      have db4 := jq (n := m[q]) 4
      refine zC (zf (zuy (zB (zh (zE8 (zi Y Y) (zE8 (zq Y Y) (zE8 (zi Y Y) (zE8 (zG Y Y Y jv (by omega) (wu hlt) jC) (zE8 (zA Y Y Y ty3) (zE8 (zi Y Y) (zE8 (zy (av := [_, _]) Y ⟨Y, Y, trivial⟩ (f92 m[q] 3 v1 (by omega))) ?_)))))))))))
      refine zE8 (zV Y Y Y ⟨(by omega), (by omega)⟩) (zE8 (zn Y Y) (zo (zD (zf (zh (zE8 (zi Y Y) (zE8 (zV Y Y Y ⟨(by omega), (by omega)⟩) (zE8 (zn Y Y) (zo ?_)))))))))
      exact ⟨⟨q + 1, by omega⟩, by dsimp only; omega, zt _ ⟨Y, Y, Y, Y, (congrArg (fun x : Int => I x) (zay hlt).symm), Y, trivial⟩ (Y)⟩
     ·
      have hge : m.length <= q := by simpa [zO] using h1
      have hk2 : q = m.length := by omega
      subst hk2
      refine qp (zL (zL (qw (zf (zh (zE8 (zi Y Y) (zE8 (zcY Y Y Y ⟨(by omega), (by omega)⟩) (zE8 (zi Y Y) (zE8 (yA Y Y Y ⟨(by omega), (by omega)⟩) (zE8 (zV Y Y Y ⟨(by omega), (by omega)⟩) (zE8 (zn Y Y) ?_)))))))))))
      refine zo (zD (zf (zh (zE8 (zi Y Y) (zE8 (zV Y Y Y ⟨(by omega), (by omega)⟩) (zE8 (zn Y Y) (zo ?_)))))))
      exact ⟨⟨4, by omega⟩, by dsimp only; omega, (by refine zt (mem' := []) [(0, .pub (zO m)), (3, wZ), (4, I (ckN m 4)), (5, I 4)] ?_ ?_; exact ⟨Y, Y, (congrArg (fun x => I (10 * ckN m 3 + yU x 3 % 10)) (List.take_length ..)), Y, trivial⟩; exact (Y))⟩
   ·
    exfalso; simp at h0
  ·
   dsimp only
   refine zuy (zuy (zh (zE8 (zi Y Y) (zE8 (qi Y Y Y) (zo (zf (zx Y (fun h0 => ?_) (fun h0 => ?_))))))))
   ·
    refine zC (zf (zuy (zB (zuy (zh (zE8 (zn Y Y) (zo (zf (zuy (zuy (zh ?_)))))))))))
    refine zE8 (zn Y Y) (zo (zf (zB ?_)))
    refine qy (ι := { q : Nat // q <= m.length }) (fun q => ⟨Tryz.f35.ntmps, frL [(0, .pub (zO m)), (3, wZ), (4, I (ckN m 4)), (5, I 4), (6, I (yU (m.take q.1) 4)), (7, I (q.1 : Int))], []⟩) (fun q => m.length - q.1) (⟨0, by omega⟩) ?_ ?_
    ·
     exact zt _ ⟨Y, Y, Y, Y, Y, Y, trivial⟩ (Y)
    ·
     rintro ⟨q, hq⟩
     dsimp only
     have sb := zc1 (m.take q) 4
     have sl : (m.take q).length <= q := by simp; omega
     refine zuy (zuy (zh (zE8 (zi Y Y) (zE8 (zq Y Y) (zE8 (qh Y Y Y Tryz.underlying23) (zE8 (qi Y Y Y) (zo (zf (zx Y (fun h1 => ?_) (fun h1 => ?_))))))))))
     ·
      have hlt : q < m.length := by simpa [zO] using h1
      have v1 := hm _ (List.getElem_mem hlt)
      have db := jq (n := m[q]) 0
      have db1 := jq (n := m[q]) 1
      have db2 := jq (n := m[q]) 2
      have db3 := jq (n := m[q]) 3
      have db4 := jq (n := m[q]) 4
      refine zC (zf (zuy (zB (zh (zE8 (zi Y Y) (zE8 (zq Y Y) (zE8 (zi Y Y) (zE8 (zG Y Y Y jv (by omega) (wu hlt) jC) (zE8 (zA Y Y Y ty3) (zE8 (zi Y Y) (zE8 (zy (av := [_, _]) Y ⟨Y, Y, trivial⟩ (f92 m[q] 4 v1 (by omega))) ?_)))))))))))
      refine zE8 (zV Y Y Y ⟨(by omega), (by omega)⟩) (zE8 (zn Y Y) (zo (zD (zf (zh (zE8 (zi Y Y) (zE8 (zV Y Y Y ⟨(by omega), (by omega)⟩) (zE8 (zn Y Y) (zo ?_)))))))))
      exact ⟨⟨q + 1, by omega⟩, by dsimp only; omega, zt _ ⟨Y, Y, Y, Y, (congrArg (fun x : Int => I x) (zay hlt).symm), Y, trivial⟩ (Y)⟩
     ·
      have hge : m.length <= q := by simpa [zO] using h1
      have hk2 : q = m.length := by omega
      subst hk2
      refine qp (zL (zL (qw (zf (zh (zE8 (zi Y Y) (zE8 (zcY Y Y Y ⟨(by omega), (by omega)⟩) (zE8 (zi Y Y) (zE8 (yA Y Y Y ⟨(by omega), (by omega)⟩) (zE8 (zV Y Y Y ⟨(by omega), (by omega)⟩) (zE8 (zn Y Y) ?_)))))))))))
      refine zo (zD (zf (zh (zE8 (zi Y Y) (zE8 (zV Y Y Y ⟨(by omega), (by omega)⟩) (zE8 (zn Y Y) (zo ?_)))))))
      exact ⟨⟨5, by omega⟩, by dsimp only; omega, (by refine zt (mem' := []) [(0, .pub (zO m)), (3, wZ), (4, I (ckN m 5)), (5, I 5)] ?_ ?_; exact ⟨Y, Y, (congrArg (fun x => I (10 * ckN m 4 + yU x 4 % 10)) (List.take_length ..)), Y, trivial⟩; exact (Y))⟩
   ·
    exfalso; simp at h0
  ·
   dsimp only
   refine zuy (zuy (zh (zE8 (zi Y Y) (zE8 (qi Y Y Y) (zo (zf (zx Y (fun h0 => ?_) (fun h0 => ?_))))))))
   ·
    exfalso; simp at h0
   ·
    refine qp (zL (zL (qw (zf (zuy (zuy (zh (zE8 (zn Y Y) (zo (zf (zB ?_)))))))))))
    refine qx (kG 3 Y) ?_
    refine qy (ι := { r : Nat // r <= m.length }) (fun r => ⟨Tryz.f35.ntmps, frL [(0, .pub (zO m)), (3, .psl 0 r.1), (4, I (ckN m 5)), (8, I (r.1 : Int))], [.row ((m.take r.1).map fun n => [SL (grp n)])]⟩) (fun r => m.length - r.1) (⟨0, by omega⟩) ?_ ?_
    ·
     exact zt _ ⟨Y, Y, Y, Y, trivial⟩ (Y)
    ·
     rintro ⟨r, hr⟩
     dsimp only
     refine zuy (zuy (zh (zE8 (zi Y Y) (zE8 (zq Y Y) (zE8 (qh Y Y Y Tryz.underlying23) (zE8 (qi Y Y Y) (zo (zf (zx Y (fun h2 => ?_) (fun h2 => ?_))))))))))
     ·
      have hlt : r < m.length := by simpa [zO] using h2
      have v1 := hm _ (List.getElem_mem hlt)
      refine zC (zf (zuy (zB (zh (zE8 (zI Y Y) (zE8 (zq Y Y) (zE8 (zi Y Y) (zE8 (zG Y Y Y jv (by omega) (wu hlt) jC) (zE8 (zA Y Y Y ty3) (zE8 (zy (av := [_]) Y ⟨Y, trivial⟩ (f94 m[r] v1)) ?_))))))))))
      refine zE8 (qg (size := 1) (rows := [[_]]) Y Tryz.underlying34 ti9 Y (by decide) Y (by decide) ⟨_, _, Y, (jF Y), Y⟩ (by rfl) (by simp [ofV]) Y (by simp)) ?_
      refine jb rfl (vS rfl rfl rfl rfl (by simp; omega) rfl zrL (by intro r hr; obtain ⟨n, _, rfl⟩ := List.mem_map.1 hr; rfl) (by simp) (by simp; omega) (by unfold maxLen; simp; omega)) ?_
      refine zE8 (qo Y Y) (zo (zD (zf (zh (zE8 (zi Y Y) (zE8 (zV Y Y Y ⟨(by omega), (by omega)⟩) (zE8 (zn Y Y) (zo ?_))))))))
      exact ⟨⟨r + 1, by omega⟩, by dsimp only; omega, zt _ ⟨Y, Y, Y, Y, trivial⟩ (congrArg (fun z => [PO.row z]) (znr hlt).symm)⟩
     ·
      have hge : m.length <= r := by simpa [zO] using h2
      have hk2 : r = m.length := by omega
      subst hk2
      refine qp (zL (zL (qw (zf (zuy (zh (zE8 (zI Y Y) (zE8 (zi Y Y) (zE8 (zy (av := [_]) Y ⟨Y, trivial⟩ (f94 (ckN m 5) (by omega))) ?_)))))))))
      refine zE8 (qg (size := 1) (rows := [[_]]) Y Tryz.underlying34 ti9 Y (by decide) Y (by decide) ⟨_, _, Y, (jF Y), Y⟩ (by rfl) (by simp [ofV]) Y (by simp)) ?_
      refine jb rfl (vS rfl rfl rfl rfl (by simp) rfl zrL (by intro r hr; obtain ⟨n, _, rfl⟩ := List.mem_map.1 hr; rfl) (by simp) (by simp; omega) (by unfold maxLen; simp; omega)) ?_
      refine zE8 (qo Y Y) (zo (zf (zP ?_)))
      exact ⟨.inr Y, ⟨((jQ m).map fun s => [eS s]), by show some (PO.row _) = some (PO.row _); simp [jQ, vV, grp, zk0, Function.comp_def], by simp [jQ, vV], Y⟩⟩
theorem zye (c : Cod) (m : List Int) (hc : c.fields.length <= 1000 /\ c.turns.length <= 1000) (hl : m.length <= 1000) (hb : (jA c && wS c m) = true) (hm : ∀ n ∈ m, 0 <= n /\ n <= 1000000000000) : ACall Tryz.prog G 64 [.agg (qK c), zO m] (.tup [jD (jQ m), ei 0]) := by
 have hgl : (vV m).length = m.length + 1 := by simp [vV]
 refine zS Tryz.func64 Y (by kernel_rfl) Y ?_
 refine zuy (zh (zE8 (jf Y (zY Y)) (zE8 (zn Y Y) (zE8 (zn Y Y) (zo (zf (zuy (zuy (zh (zE8 (zZ Y Y wH (by exact zLb Y)) (zE8 (zy (av := [_]) Y ⟨Y, trivial⟩ (f116 c hc)) ?_)))))))))))
 refine zE8 (je Y Y) (zE8 (zi Y Y) (zE9 Y (fun hg => zZ Y Y wH (by exact zLb Y)) (zE9 Y (fun hg => zq Y Y) (zE9 Y (fun hg => zy (av := [_, _]) Y ⟨((if_pos hg)), ((if_pos hg)), trivial⟩ (f117 c m hl)) (zE9 Y (fun hg => je Y (if_pos hg)) (zE8 (qU Y Y Y Y) (zo (zf (zx Y (fun h0 => ?_) (fun h0 => ?_))))))))))
 ·
  exfalso; cases hcb : jA c <;> simp_all
 ·
  refine zC (zf (zuy (zh (zE8 (zn Y Y) (zo (zf (zuy (zuy (zh (zE8 (zq Y Y) (zE8 (zy (av := [_]) Y ⟨Y, trivial⟩ (f99 m hl hm)) ?_)))))))))))
  refine zE8 (qh Y Y Y Tryz.underlying145) (zE8 (zi Y Y) (zo (zf (zB ?_))))
  refine qx (kG 6 Y) ?_
  refine qy (ι := { q : Nat // q <= (vV m).length }) (fun q => ⟨Tryz.f64.ntmps, frL [(6, .psl 0 q.1), (19, .pub (.sl ((vV m).map eFg))), (20, I ((vV m).length : Int)), (21, I (q.1 : Int))], [.row (((vV m).take q.1).map fun g => [SL g.chs])]⟩) (fun q => (vV m).length - q.1) (⟨0, by omega⟩) ?_ ?_
  ·
   exact zt _ ⟨Y, Y, (congrArg (fun x : Nat => I (x : Int)) (List.length_map _)), Y, trivial⟩ (Y)
  ·
   rintro ⟨q, hq⟩
   dsimp only
   refine zuy (zh (zE8 (qi Y Y Y) (zo (zf (zuy (zx Y (fun h1 => ?_) (fun h1 => ?_)))))))
   ·
    have hlt : q < (vV m).length := by simpa using h1
    refine zC (zf (zuy (zB (zuy (zh (zE8 (zG Y Y Y zrY (by omega) (zEL hlt) zsV) (zE8 (zZ Y Y zck (by exact zLb Y)) ?_)))))))
    refine vI  Y Y Y Y Y Y Y ziu zck Y (by rfl) (zY Y) Y ?_
    refine zo (zf (zh (zE8 (zI Y Y) (zE8 (zZ Y Y zck (by exact zLb Y)) (zE8 (zy (av := [_]) Y ⟨Y, trivial⟩ (zut _ (zpI _ (List.getElem_mem hlt)))) ?_)))))
    refine zE8 (qg (size := 1) (rows := [[_]]) Y Tryz.underlying34 ti9 Y (by decide) Y (by decide) ⟨_, _, Y, (jF Y), Y⟩ (by rfl) (by simp [ofV]) Y (by simp)) ?_
    refine jb rfl (vS rfl rfl rfl rfl (by simp; omega) rfl zrL (by intro r hr; obtain ⟨n, _, rfl⟩ := List.mem_map.1 hr; rfl) (by simp) (by simp; omega) (by unfold maxLen; simp; omega)) ?_
    refine zE8 (qo Y Y) (zo (zD (zf (zh (zE8 (zV Y Y Y ⟨(by omega), (by omega)⟩) (zE8 (zi Y Y) (zo ?_)))))))
    exact ⟨⟨q + 1, by omega⟩, by dsimp only; omega, zt _ ⟨Y, Y, Y, Y, trivial⟩ (congrArg (fun z => [PO.row z]) (zAR hlt).symm)⟩
   ·
    have hge : (vV m).length <= q := by simpa using h1
    have hk2 : q = (vV m).length := by omega
    subst hk2
    refine qp (zL (zL (qw (zf (zuy (zh (zE8 (zI Y Y) (zE8 (qo Y Y) (zE8 (zn Y Y) (zo (zf ?_)))))))))))
    refine zP ?_
    exact ⟨.inr Y, ⟨_, Y, ⟨_, _, Y, ⟨((jQ m).map fun s => [eS s]), by show some (PO.row _) = some (PO.row _); simp [jQ, Function.comp_def], by simp [jQ], Y⟩, ⟨_, _, Y, AVle.refl _, Y⟩⟩⟩⟩
theorem f21 (c : Cod) : ACall Tryz.prog G 21 [.agg (qK c)] (.v (.bool (decide (c.fields.length <= 6) && decide (c.turns.length <= 14)))) := by
 refine zS Tryz.func21 Y (by kernel_rfl) Y ?_
 refine zuy (zh (zE8 (jf Y (zY Y)) (zE8 (zn Y Y) (zo (zf (zuy (zh (zE8 (zu Y Y jS) (zE8 (zA Y Y Y zah) (zE8 (qh Y Y Y Tryz.underlying22) (zE8 (zaq Y Y Y) ?_)))))))))))
 refine zE8 (zi Y Y) (zE9 Y (fun hg => zu Y Y kU) (zE9 Y (fun hg => zA Y (if_pos hg) Y jO) (zE9 Y (fun hg => qh Y Y (if_pos hg) Tryz.underlying23) (zE9 Y (fun hg => zaq Y (if_pos hg) Y) (zE8 (qI Y Y Y Y) (zE8 (zn Y Y) (zo (zf (zP ?_)))))))))
 exact ⟨.inr Y, AVle.of (by simp only [zO, List.length_map]; exact congrArg (fun x : Bool => AV.v (Value.bool x)) (congr (congrArg (fun a b : Bool => a && b) (decide_eq_decide.2 (by omega))) (decide_eq_decide.2 (by omega))))⟩
end Go.Av
end
