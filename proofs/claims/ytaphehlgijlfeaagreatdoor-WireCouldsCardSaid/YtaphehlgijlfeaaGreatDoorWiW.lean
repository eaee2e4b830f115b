
import Derived.Test.YtaphehlgijlfeaaGreatDoorWiO
import Derived.Test.YtaphehlgijlfeaaGreatDoorWiN
import Derived.Test.YtaphehlgijlfeaaGreatDoorPlatN
import Derived.Test.YtaphehlgijlfeaaGreatDoorWiM
set_option linter.unusedVariables false
set_option linter.unusedSimpArgs false
section
namespace Go.Av
open Go.Proofs
def mrg : List (List Int) -> List (List Int) -> List (List Int)
 | [], b => b
 | x :: a, [] => x :: a
 | x :: a, y :: b => if ltL x y then x :: mrg a (y :: b) else y :: mrg (x :: a) b
termination_by a b => a.length + b.length
theorem zew (a : List (List Int)) : mrg a [] = a := by cases a <;> simp [mrg]
theorem zdo : ∀ (n : Nat) (a b : List (List Int)), a.length + b.length <= n -> (mrg a b).Perm (a ++ b) := by
 intro n
 induction n with
 | zero =>
  intro a b h
  have h1 : a = [] := List.eq_nil_of_length_eq_zero (by omega)
  have h2 : b = [] := List.eq_nil_of_length_eq_zero (by omega)
  subst h1; subst h2; simp [mrg]
 | succ n ih =>
  intro a b h
  cases a with
  | nil => simp [mrg]
  | cons x a =>
   cases b with
   | nil => rw [zew]; simp
   | cons y b =>
    rw [mrg]
    by_cases hc : ltL x y = true
    ·
     rw [if_pos hc]
     exact (ih a (y :: b) (by simp at h ⊢; omega)).cons x
    ·
     rw [if_neg hc]
     refine ((ih (x :: a) b (by simp at h ⊢; omega)).cons y).trans ?_
     exact (List.perm_middle (a := y) (l₁ := x :: a) (l₂ := b)).symm
theorem zkt : ∀ (n : Nat) (a b : List (List Int)), a.length + b.length <= n -> yL a -> yL b -> yL (mrg a b) := by
 intro n
 induction n with
 | zero =>
  intro a b h h1 h2
  have e1 : a = [] := List.eq_nil_of_length_eq_zero (by omega)
  subst e1; simpa [mrg] using h2
 | succ n ih =>
  intro a b h h1 h2
  cases a with
  | nil => simpa [mrg] using h2
  | cons x a =>
   cases b with
   | nil => rw [zew]; exact h1
   | cons y b =>
    unfold yL at h1 h2 ih ⊢
    have q1 := List.pairwise_cons.1 h1
    have q2 := List.pairwise_cons.1 h2
    rw [mrg]
    by_cases hc : ltL x y = true
    ·
     rw [if_pos hc, List.pairwise_cons]
     refine ⟨fun z hz => ?_, ih a (y :: b) (by simp at h ⊢; omega) q1.2 h2⟩
     have hz' := (zdo _ a (y :: b) (Nat.le_refl _)).mem_iff.1 hz
     rcases List.mem_append.1 hz' with hz' | hz'
     ·
      exact q1.1 z hz'
     ·
      rcases List.mem_cons.1 hz' with rfl | hz'
      ·
       exact zd0 hc
      ·
       exact zaV (q2.1 z hz') (zd0 hc)
    ·
     have hc' : ltL x y = false := by simpa using hc
     rw [if_neg hc, List.pairwise_cons]
     refine ⟨fun z hz => ?_, ih (x :: a) b (by simp at h ⊢; omega) h1 q2.2⟩
     have hz' := (zdo _ (x :: a) b (Nat.le_refl _)).mem_iff.1 hz
     rcases List.mem_append.1 hz' with hz' | hz'
     ·
      rcases List.mem_cons.1 hz' with rfl | hz'
      ·
       exact hc'
      ·
       exact zaV (q1.1 z hz') hc'
     ·
      exact q2.1 z hz'
theorem zoo (a b : List (List Int)) : mrg (sortL a) (sortL b) = sortL (a ++ b) :=
 zdn ((zdo _ _ _ (Nat.le_refl _)).trans ((wF a).append (wF b))) (zkt _ _ _ (Nat.le_refl _) (kR a) (kR b))
theorem zpK (a b : List (List Int)) : (mrg a b).length = a.length + b.length := by rw [(zdo _ a b (Nat.le_refl _)).length_eq, List.length_append]
theorem zgG (l : List (List Int)) : (sortL l).length = l.length := (wF l).length_eq
theorem zqp {l : List (List Int)} (h : l.length < 2) : sortL l = l := (zdn (List.Perm.refl _) (by
 unfold yL
 match l, h with
 | [], _ => simp
 | [x], _ => simp)).symm
theorem zmY {A B : List (List Int)} {i k : Nat} (hi : i < A.length) (h : k = B.length ∨ ltL (A.getD i []) (B.getD k []) = true) (hk : k <= B.length) : mrg (A.drop i) (B.drop k) = A.getD i [] :: mrg (A.drop (i + 1)) (B.drop k) := by
 have e : A.getD i [] = A[i] := by simp [hi]
 rw [List.drop_eq_getElem_cons hi, e]
 by_cases hkl : k < B.length
 ·
  have e2 : B.getD k [] = B[k] := by simp [hkl]
  rw [List.drop_eq_getElem_cons hkl, mrg, if_pos]
  rcases h with h | h
  ·
   omega
  ·
   rwa [e, e2] at h
 ·
  rw [List.drop_eq_nil_of_le (show B.length <= k by omega), zew, zew]
theorem zl3 {A B : List (List Int)} {i k : Nat} (hk : k < B.length) (h : i < A.length -> ltL (A.getD i []) (B.getD k []) = false) (hi : i <= A.length) : mrg (A.drop i) (B.drop k) = B.getD k [] :: mrg (A.drop i) (B.drop (k + 1)) := by
 have e : B.getD k [] = B[k] := by simp [hk]
 rw [List.drop_eq_getElem_cons hk, e]
 by_cases hil : i < A.length
 ·
  have e2 : A.getD i [] = A[i] := by simp [hil]
  have := h hil
  rw [e, e2] at this
  rw [List.drop_eq_getElem_cons hil, mrg, if_neg (by rw [this]; simp)]
 ·
  rw [List.drop_eq_nil_of_le (show A.length <= i by omega)]
  simp only [mrg]
theorem zbA {M T : List (List Int)} {n : Nat} {x : List Int} (h : M.drop n = x :: T) : M.drop (n + 1) = T /\ M.take (n + 1) = M.take n ++ [x] := by
 have hn : n < M.length := by
  rcases Nat.lt_or_ge n M.length with h1 | h1
  ·
   exact h1
  ·
   rw [List.drop_eq_nil_of_le h1] at h; cases h
 rw [List.drop_eq_getElem_cons hn] at h
 injection h with h1 h2
 exact ⟨h2, by rw [List.take_succ_eq_append_getElem hn, h1]⟩
theorem zi8 : ∀ {a b : List Int} {k : Nat}, a.take k = b.take k -> k <= a.length -> k <= b.length -> ltL a b = ltL (a.drop k) (b.drop k) := by
  intro a
  induction a with
  | nil => intro b k _ h2 _; have : k = 0 := by simpa using h2
           subst this; simp
  | cons x a ih =>
    intro b k h h2 h3
    cases k with
    | zero => simp
    | succ k =>
      cases b with
      | nil => simp at h3
      | cons y b =>
        simp only [List.take_succ_cons, List.cons.injEq] at h
        obtain ⟨rfl, h⟩ := h
        simp only [List.drop_succ_cons]
        rw [← ih h (by simpa using h2) (by simpa using h3)]
        simp [ltL]
theorem zrh {a b : List Int} {k : Nat} (h : a.take k = b.take k) (ha : k < a.length) (hb : k < b.length) (hne : a[k] ≠ b[k]) : ltL a b = decide (a[k] < b[k]) := by
 rw [zi8 h (by omega) (by omega), List.drop_eq_getElem_cons ha, List.drop_eq_getElem_cons hb]
 simp [ltL, hne]
theorem zpu {a b : List Int} {k : Nat} (h : a.take k = b.take k) (ha : k <= a.length) (hb : k <= b.length) (hq : a.length <= k ∨ b.length <= k) : ltL a b = decide (a.length < b.length) := by
 rw [zi8 h ha hb]
 by_cases h1 : a.length <= k
 ·
  rw [List.drop_eq_nil_of_le h1]
  by_cases h2 : b.length <= k
  ·
   rw [List.drop_eq_nil_of_le h2]; simp [ltL]; omega
  ·
   rw [List.drop_eq_getElem_cons (show k < b.length by omega)]; simp [ltL]; omega
 ·
  have h2 : b.length <= k := by omega
  rw [List.drop_eq_nil_of_le h2, List.drop_eq_getElem_cons (show k < a.length by omega)]
  simp [ltL]; omega
end Go.Av
end
section
namespace Go.Av
open Go.Proofs
set_option maxRecDepth 100000
set_option maxHeartbeats 1000000
variable {G : Glob}
theorem zdm {L : List (List Int)} {k : Nat} (h : k < L.length) : (L.map fun m => [zO m])[k]? = some [zO (L.getD k [])] := by simp [h]
theorem zlC {L : List (List Int)} (h : ∀ m ∈ L, m.length <= 1000) (k : Nat) : (L.getD k []).length <= 1000 := by
 by_cases hk : k < L.length
 ·
  rw [List.getD_eq_getElem?_getD, List.getElem?_eq_getElem hk]; exact h _ (List.getElem_mem hk)
 ·
  simp [hk]
theorem zsI (L : List (List Int)) : (((L.map fun m => [zO m]).take (((((L.map fun m => [zO m]).length : Nat) : Int) / 2)).toNat).drop (0 : Int).toNat) = (L.take (L.length / 2)).map fun m => [zO m] := by
 rw [List.length_map]
 have : ((L.length : Int) / 2).toNat = L.length / 2 := by omega
 rw [this]; simp [List.map_take]
theorem zso (L : List (List Int)) : (((L.map fun m => [zO m]).take ((((L.map fun m => [zO m]).length : Nat) : Int)).toNat).drop (((((L.map fun m => [zO m]).length : Nat) : Int) / 2)).toNat) = (L.drop (L.length / 2)).map fun m => [zO m] := by
 rw [List.length_map]
 have : ((L.length : Int) / 2).toNat = L.length / 2 := by omega
 rw [this, Int.toNat_natCast, List.take_of_length_le (by simp), List.map_drop]
theorem mk2 (a b : Nat) : ∃ x y : Nat, x = a /\ y = b := ⟨a, b, rfl, rfl⟩
theorem zix {M : List (List Int)} {n : Nat} {x : List Int} (h : M.take (n + 1) = M.take n ++ [x]) : yQ (M.take n) ++ [[EV.pub (zO x)]] = yQ (M.take (n + 1)) := by rw [h]; simp [yQ]; rfl
theorem zoW {M : List (List Int)} {n : Nat} (h : n <= M.length) : (M.take n).length = n := by simp; omega
theorem zqH {i k la lb : Nat} {h : Bool} (e : (((k : Int) == (lb : Int)) || (decide ((i : Int) < (la : Int)) && h)) = true) (hl : i < la ∨ k < lb) (hk : k <= lb) : i < la /\ (k = lb ∨ h = true) := by
 simp at e
 rcases e with e | e
 ·
  exact ⟨by omega, .inl (by omega)⟩
 ·
  exact ⟨e.1, .inr e.2⟩
theorem zo6 {i k la lb : Nat} {h : Bool} (e : (((k : Int) == (lb : Int)) || (decide ((i : Int) < (la : Int)) && h)) = false) (hk : k <= lb) : k < lb /\ (i < la -> h = false) := by
 simp at e
 exact ⟨by omega, fun hi => by have := e.2 hi; simpa using this⟩
theorem zhc (L : List (List Int)) : (L.map fun m => [zO m]).length = L.length := List.length_map ..
theorem f42 (a b : List Int) (ha : a.length <= 100000) (hb : b.length <= 100000) : ACall Tryz.prog G 42 [zO a, zO b] (.v (.bool (ltL a b))) := by
 refine zS Tryz.func42 rfl (by kernel_rfl) rfl ?_
 refine zl (zh (zg rfl rfl (zn rfl rfl) (zo (zf (zl (zl (zh (zg rfl rfl (zn rfl rfl) (zo (zf (zB ?_)))))))))))
 refine qy (ι := { k : Nat // k <= a.length /\ k <= b.length /\ a.take k = b.take k }) (fun k => ⟨Tryz.f42.ntmps, frL [(0, .pub (zO a)), (1, .pub (zO b)), (5, I (k.1 : Int))], []⟩) (fun k => a.length - k.1) (⟨0, by simp⟩) ?_ ?_
 ·
  exact zt _ ⟨rfl, rfl, rfl, trivial⟩ (rfl)
 ·
  rintro ⟨k, hk⟩
  dsimp only
  refine zl (zl (zh (zg rfl rfl (zi rfl rfl) (zg rfl rfl (zq rfl rfl) (zg rfl rfl (qh rfl rfl rfl Tryz.underlying23) (zg rfl rfl (qi rfl rfl rfl) (zg rfl rfl (zi rfl rfl) (zk rfl rfl rfl (fun hg => zi rfl rfl) (zk rfl rfl rfl (fun hg => zq rfl rfl) (zk rfl rfl rfl (fun hg => qh rfl rfl (if_pos hg) Tryz.underlying23) (zk rfl rfl rfl (fun hg => qi rfl (if_pos hg) (if_pos hg)) ?_)))))))))))
  refine zg rfl rfl (qI rfl rfl rfl rfl) (zo (zf (zx rfl (fun h_0 => ?_) (fun h_0 => ?_))))
  ·
   have hla : k < a.length := by simp [zO] at h_0; omega
   have hlb : k < b.length := by simp [zO] at h_0; omega
   refine zC (zf (zl (zB (zl ?_))))
   refine qY mixed (by kernel_rfl) rfl ?_
   refine zH rfl (zq rfl rfl) (zH rfl (zi rfl rfl) (zH rfl (zG rfl rfl rfl jv (by omega) (wu hla) jC) (zH rfl (zA rfl rfl rfl ty3) (zH rfl (zq rfl rfl) (zH rfl (zi rfl rfl) (zH rfl (zG rfl rfl rfl jv (by omega) (wu hlb) jC) (zH rfl (zA rfl rfl rfl ty3) (zH rfl (vg rfl rfl rfl) (jw (zf (zx rfl (fun h_1 => ?_) (fun h_1 => ?_))))))))))))
   ·
    have hne : a[k] ≠ b[k] := by simpa using h_1
    refine zl ?_
    refine qY mixed (by kernel_rfl) rfl ?_
    refine zH rfl (zq rfl rfl) (zH rfl (zi rfl rfl) (zH rfl (zG rfl rfl rfl jv (by omega) (wu hla) jC) (zH rfl (zA rfl rfl rfl ty3) (zH rfl (zq rfl rfl) (zH rfl (zi rfl rfl) (zH rfl (zG rfl rfl rfl jv (by omega) (wu hlb) jC) (zH rfl (zA rfl rfl rfl ty3) (zH rfl (qi rfl rfl rfl) (zH rfl (zn rfl rfl) (jw (zf ?_)))))))))))
    refine zP (qF (zQ (zQ (qF (zQ ?_)))))
    exact ⟨.inr rfl, AVle.of (by rw [zrh hk.2.2 hla hlb hne])⟩
   ·
    have heq : a[k] = b[k] := by simpa using h_1
    refine zC (zD (zf (zh (zg rfl rfl (zi rfl rfl) (zg rfl rfl (zV rfl rfl rfl ⟨(by omega), (by omega)⟩) (zg rfl rfl (zn rfl rfl) (zo ?_)))))))
    exact ⟨⟨k + 1, by omega, by omega, by rw [List.take_succ_eq_append_getElem hla, List.take_succ_eq_append_getElem hlb, hk.2.2, heq]⟩, by dsimp only; omega, zt _ ⟨rfl, rfl, rfl, trivial⟩ (rfl)⟩
  ·
   have hge : a.length <= k ∨ b.length <= k := by simp [zO] at h_0; omega
   refine qp (zL (zL (qw (zf (zl (zh (zg rfl rfl (zq rfl rfl) (zg rfl rfl (qh rfl rfl rfl Tryz.underlying23) (zg rfl rfl (zq rfl rfl) (zg rfl rfl (qh rfl rfl rfl Tryz.underlying23) (zg rfl rfl (qi rfl rfl rfl) ?_)))))))))))
   refine zg rfl rfl (zn rfl rfl) (zo (zf (zP ?_)))
   exact ⟨.inr rfl, AVle.of (by rw [zpu hk.2.2 hk.1 hk.2.1 hge]; simp [zO])⟩
theorem zqO (L : List (List Int)) (hs : L.length < 2) : ACall Tryz.prog G 91 [jc L] (jc (sortL L)) := by
 refine zS Tryz.func91 rfl (by kernel_rfl) rfl ?_
 refine zl (zh (zg rfl rfl (zn rfl rfl) (zo (zf (zl (zl (zh (zg rfl rfl (zq rfl rfl) (zg rfl rfl (qh rfl rfl rfl Tryz.underlying30) (zg rfl rfl (qi rfl rfl rfl) (zo ?_)))))))))))
 refine zf (zx rfl (fun h_0 => ?_) (fun h_0 => ?_))
 ·
  refine zl (zh (zg rfl rfl (zq rfl rfl) (zg rfl rfl (zW rfl rfl) (zo (zf (zP (zQ ?_)))))))
  exact ⟨.inr rfl, AVle.of (by rw [zqp hs])⟩
 ·
  exfalso; simp [jc] at h_0; omega
theorem f91 : ∀ (n : Nat) (L : List (List Int)), L.length <= n -> L.length <= 4000000 -> (∀ m ∈ L, m.length <= 1000) -> ACall Tryz.prog G 91 [jc L] (jc (sortL L)) := by
 intro n
 induction n with
 | zero => intro L h0 _ _; have : L = [] := List.eq_nil_of_length_eq_zero (by omega); subst this; exact zqO [] (by simp)
 | succ n ih =>
 intro L hln hL hm
 by_cases hs : L.length < 2
 exact zqO L hs
 obtain ⟨A, hA⟩ : ∃ A, A = (sortL (L.take (L.length / 2))) := ⟨_, rfl⟩
 obtain ⟨B, hB⟩ : ∃ B, B = (sortL (L.drop (L.length / 2))) := ⟨_, rfl⟩
 have hAl : A.length = L.length / 2 := by rw [hA, zgG]; simp; omega
 have hBl : B.length = L.length - L.length / 2 := by rw [hB, zgG]; simp
 have hAm : ∀ m ∈ A, m.length <= 1000 := fun m h => hm m (List.mem_of_mem_take (zb9.1 (hA ▸ h)))
 have hBm : ∀ m ∈ B, m.length <= 1000 := fun m h => hm m (List.mem_of_mem_drop (zb9.1 (hB ▸ h)))
 have hM : mrg A B = sortL L := by rw [hA, hB, zoo, List.take_append_drop]
 have hMl := zpK A B
 refine zS Tryz.func91 rfl (by kernel_rfl) rfl ?_
 refine zl (zh (zg rfl rfl (zn rfl rfl) (zo (zf (zl (zl (zh (zg rfl rfl (zq rfl rfl) (zg rfl rfl (qh rfl rfl rfl Tryz.underlying30) (zg rfl rfl (qi rfl rfl rfl) (zo ?_)))))))))))
 refine zf (zx rfl (fun h_0 => ?_) (fun h_0 => ?_))
 ·
  exfalso; simp [jc] at h_0; omega
 ·
  refine zC (zf (zl ?_))
  refine qY mixed (by kernel_rfl) rfl ?_
  refine zH rfl (zq rfl rfl) (zH rfl (zq rfl rfl) (zH rfl (qh rfl rfl rfl Tryz.underlying30) ?_))
  refine zH rfl (zcj rfl rfl rfl ⟨by simp, by simp; omega, by omega⟩) ?_
  refine zH rfl (zhU rfl rfl rfl rfl zea kz (by omega) (by simp; omega) (by simp; omega)) ?_
  refine zH rfl (zy (av := [jc (L.take (L.length / 2))]) rfl ⟨congrArg (fun z => EV.pub (AV.sl z)) (zsI L), trivial⟩ (by have := ih (L.take (L.length / 2)) (by simp; omega) (by simp; omega) (fun m h => hm m (List.mem_of_mem_take h)); rw [← hA] at this; exact this)) ?_
  refine zH rfl (zq rfl rfl) (zH rfl (zq rfl rfl) (zH rfl (qh rfl rfl rfl Tryz.underlying30) ?_))
  refine zH rfl (zcj rfl rfl rfl ⟨by simp, by simp; omega, by omega⟩) ?_
  refine zH rfl (zhU rfl rfl rfl rfl zea kz (by simp; omega) (by simp; omega) (by simp)) ?_
  refine zH rfl (zy (av := [jc (L.drop (L.length / 2))]) rfl ⟨congrArg (fun z => EV.pub (AV.sl z)) (zso L), trivial⟩ (by have := ih (L.drop (L.length / 2)) (by simp; omega) (by simp; omega) (fun m h => hm m (List.mem_of_mem_drop h)); rw [← hB] at this; exact this)) ?_
  refine zH rfl (zW rfl rfl) (zH rfl (zW rfl rfl) (jw (zf (zl (zh (zg rfl rfl (zn rfl rfl) (zo (zf (zl (zh (zg rfl rfl (zn rfl rfl) ?_)))))))))))
  refine zg rfl rfl (zn rfl rfl) (zo (zf (zl (zB ?_))))
  refine qx (kG 5 rfl) ?_
  refine qy (ι := { p : Nat × Nat // (p.1 <= A.length /\ p.2 <= B.length /\ (mrg A B).drop (p.1 + p.2) = mrg (A.drop p.1) (B.drop p.2)) }) (fun p => ⟨Tryz.f91.ntmps, frL [(3, .pub (jc A)), (4, .pub (jc B)), (5, .psl 0 (p.1.1 + p.1.2)), (6, I (p.1.1 : Int)), (7, I (p.1.2 : Int))], [.row (yQ ((mrg A B).take (p.1.1 + p.1.2)))]⟩) (fun p => A.length + B.length - (p.1.1 + p.1.2)) (⟨(0, 0), by simp⟩) ?_ ?_
  ·
   exact zt _ ⟨rfl, rfl, rfl, rfl, rfl, trivial⟩ (rfl)
  ·
   rintro ⟨⟨i, k⟩, hi⟩
   dsimp only at hi ⊢
   refine zl (zl (zh (zg rfl rfl (zi rfl rfl) (zg rfl rfl (zq rfl rfl) (zg rfl rfl (qh rfl rfl rfl Tryz.underlying30) (zg rfl rfl (qi rfl rfl rfl) (zg rfl rfl (zi rfl rfl) (zk rfl rfl rfl (fun hg => zi rfl rfl) (zk rfl rfl rfl (fun hg => zq rfl rfl) (zk rfl rfl rfl (fun hg => qh rfl rfl (if_pos hg) Tryz.underlying30) (zk rfl rfl rfl (fun hg => qi rfl (if_pos hg) (if_pos hg)) ?_)))))))))))
   refine zg rfl rfl (qU rfl rfl rfl rfl) (zo (zf (zx rfl (fun h_1 => ?_) (fun h_1 => ?_))))
   ·
    have hlo : i < A.length ∨ k < B.length := by simp [jc] at h_1; omega
    refine zC (zf (zB (zl ?_)))
    refine qY mixed (by kernel_rfl) rfl ?_
    refine zH rfl (zi rfl rfl) (zH rfl (zq rfl rfl) (zH rfl (qh rfl rfl rfl Tryz.underlying30) (zH rfl (qJ rfl rfl rfl) (zH rfl (zi rfl rfl) (jm rfl (fun hg => zi rfl rfl) (jm rfl (fun hg => zq rfl rfl) (jm rfl (fun hg => qh rfl rfl (if_pos hg) Tryz.underlying30) (jm rfl (fun hg => qi rfl (if_pos hg) (if_pos hg)) (jm rfl (fun hg => zi rfl (if_pos hg)) (jm (jH rfl rfl rfl) (fun hg => zq rfl rfl) (jm (jH rfl rfl rfl) (fun hg => zi rfl rfl) ?_)))))))))))
    refine jm (jH rfl rfl rfl) (fun hg => zG rfl (if_pos hg) (if_pos hg) zea (by omega) (zdm (by simp at hg; omega)) kz) ?_
    refine jm (jH rfl rfl rfl) (fun hg => zA rfl (if_pos hg) rfl jO) (jm (jH rfl rfl rfl) (fun hg => zq rfl rfl) (jm (jH rfl rfl rfl) (fun hg => zi rfl rfl) ?_))
    refine jm (jH rfl rfl rfl) (fun hg => zG rfl (if_pos hg) (if_pos hg) zea (by omega) (zdm (by simp at hg; omega)) kz) ?_
    refine jm (jH rfl rfl rfl) (fun hg => zA rfl (if_pos hg) rfl jO) (jm (jH rfl rfl rfl) (fun hg => zy (av := [_, _]) rfl ⟨((if_pos hg)), ((if_pos hg)), trivial⟩ (f42 (A.getD i []) (B.getD k []) (Nat.le_trans (zlC hAm i) (by omega)) (Nat.le_trans (zlC hBm k) (by omega)))) (jm rfl (fun hg => qI rfl (if_pos hg) (zha hg) rfl) (zH rfl (qU rfl rfl rfl rfl) (jw (zf (zx rfl (fun h_2 => ?_) (fun h_2 => ?_)))))))
    ·
     have hb1 := zqH (by rw [zhc, zhc] at h_2; exact h_2) hlo hi.2.1
     have hdc := zbA (hi.2.2.trans (zmY hb1.1 hb1.2 hi.2.1))
     have hsn := zix hdc.2
     refine Exists.elim (mk2 (i + 1) k) (fun i2 e2 => Exists.elim e2 (fun k2 e3 => ?_))
     have e6 : i2 = i + 1 := e3.1
     have e7 : k2 = k := e3.2
     have hin2 : ((i2, k2).1 <= A.length /\ (i2, k2).2 <= B.length /\ (mrg A B).drop ((i2, k2).1 + (i2, k2).2) = mrg (A.drop (i2, k2).1) (B.drop (i2, k2).2)) := by rw [e6, e7]; exact ⟨by have := hb1.1; omega, hi.2.1, by rw [show i + 1 + k = i + k + 1 by omega]; exact hdc.1⟩
     have hmq : yQ ((mrg A B).take (i + k)) ++ [[EV.pub (zO (A.getD i []))]] = yQ ((mrg A B).take (i2 + k2)) := by rw [hsn, e6, e7, show i + 1 + k = i + k + 1 by omega]
     have hls : i2 + k2 = i + k + 1 := by omega
     refine zl (zh (zg rfl rfl (zI rfl rfl) (zg rfl rfl (zq rfl rfl) (zg rfl rfl (zi rfl rfl) (zg rfl rfl (zG rfl rfl rfl zea (by omega) (zdm hb1.1) kz) (zg rfl rfl (zA rfl rfl rfl jO) ?_))))))
     refine zg rfl rfl (qg (size := 1) (rows := [[_]]) rfl Tryz.underlying30 zmt rfl (by decide) rfl (by decide) ⟨_, _, rfl, (kQ rfl), rfl⟩ (by rfl) (by simp [ofV]) rfl (by simp)) ?_
     refine jb rfl (vS rfl rfl rfl rfl (by simp [yQ]; omega) rfl zo9 (zdu _) (by simp) (by simp; omega) (by unfold maxLen; simp; omega)) ?_
     refine zg rfl rfl (qo rfl rfl) (zo (zf (zh (zg rfl rfl (zi rfl rfl) (zg rfl rfl (zV rfl rfl rfl ⟨(by omega), (by omega)⟩) (zg rfl rfl (zn rfl rfl) (zo (zD ?_))))))))
     exact ⟨⟨(i2, k2), hin2⟩, by dsimp only; omega, zt _ ⟨rfl, rfl, congrArg (EV.psl 0) hls.symm, congrArg (fun z : Nat => I (z : Int)) e6.symm, congrArg (fun z : Nat => I (z : Int)) e7.symm, trivial⟩ (congrArg (fun z => [PO.row z]) hmq)⟩
    ·
     have hb2 := zo6 (by rw [zhc, zhc] at h_2; exact h_2) hi.2.1
     have hdc := zbA (hi.2.2.trans (zl3 hb2.1 hb2.2 hi.1))
     have hsn := zix hdc.2
     refine Exists.elim (mk2 i (k + 1)) (fun i2 e2 => Exists.elim e2 (fun k2 e3 => ?_))
     have e6 : i2 = i := e3.1
     have e7 : k2 = k + 1 := e3.2
     have hin2 : ((i2, k2).1 <= A.length /\ (i2, k2).2 <= B.length /\ (mrg A B).drop ((i2, k2).1 + (i2, k2).2) = mrg (A.drop (i2, k2).1) (B.drop (i2, k2).2)) := by rw [e6, e7]; exact ⟨hi.1, by have := hb2.1; omega, by rw [show i + (k + 1) = i + k + 1 by omega]; exact hdc.1⟩
     have hmq : yQ ((mrg A B).take (i + k)) ++ [[EV.pub (zO (B.getD k []))]] = yQ ((mrg A B).take (i2 + k2)) := by rw [hsn, e6, e7, show i + (k + 1) = i + k + 1 by omega]
     have hls : i2 + k2 = i + k + 1 := by omega
     refine zl (zh (zg rfl rfl (zI rfl rfl) (zg rfl rfl (zq rfl rfl) (zg rfl rfl (zi rfl rfl) (zg rfl rfl (zG rfl rfl rfl zea (by omega) (zdm hb2.1) kz) (zg rfl rfl (zA rfl rfl rfl jO) ?_))))))
     refine zg rfl rfl (qg (size := 1) (rows := [[_]]) rfl Tryz.underlying30 zmt rfl (by decide) rfl (by decide) ⟨_, _, rfl, (kQ rfl), rfl⟩ (by rfl) (by simp [ofV]) rfl (by simp)) ?_
     refine jb rfl (vS rfl rfl rfl rfl (by simp [yQ]; omega) rfl zo9 (zdu _) (by simp) (by simp; omega) (by unfold maxLen; simp; omega)) ?_
     refine zg rfl rfl (qo rfl rfl) (zo (zf (zh (zg rfl rfl (zi rfl rfl) (zg rfl rfl (zV rfl rfl rfl ⟨(by omega), (by omega)⟩) (zg rfl rfl (zn rfl rfl) (zo (zD ?_))))))))
     exact ⟨⟨(i2, k2), hin2⟩, by dsimp only; omega, zt _ ⟨rfl, rfl, congrArg (EV.psl 0) hls.symm, congrArg (fun z : Nat => I (z : Int)) e6.symm, congrArg (fun z : Nat => I (z : Int)) e7.symm, trivial⟩ (congrArg (fun z => [PO.row z]) hmq)⟩
   ·
    have hge : A.length <= i /\ B.length <= k := by simp [jc] at h_1; omega
    refine qp (zL (zL (qw (zf (zl (zh (zg rfl rfl (zI rfl rfl) (zg rfl rfl (qo rfl rfl) (zo (zf (zP ?_)))))))))))
    exact ⟨.inr rfl, ⟨((mrg A B).take (i + k)).map (fun m => [nums m]), congrArg (fun z => some (PO.row z)) (zgE _), by rw [List.length_map]; exact zoW (by omega), by rw [List.take_of_length_le (by omega), hM]; rfl⟩⟩
end Go.Av
end
section
namespace Go.Av
open Go.Proofs
set_option maxRecDepth 100000
set_option maxHeartbeats 1000000
variable {G : Glob}
theorem xX : tyIs Tryz.prog 122 true 2 = true := by kernel_rfl
theorem wK : fldIs Tryz.prog 122 0 0 = true := by kernel_rfl
theorem jG : fldIs Tryz.prog 122 1 1 = true := by kernel_rfl
theorem zkY : xn Tryz.prog 122 [(0, 1), (1, 1)] [.slice none 0 0, .slice none 0 0] := ⟨_, Tryz.underlying122, by kernel_rfl, by kernel_rfl⟩
theorem zgT : (Tryz.prog.info? 122).bind (·.zero) = some (.agg #[.slice none 0 0, .slice none 0 0]) := by kernel_rfl
def prR (M : List Int) (n k : Nat) : List Int := M.take k ++ List.replicate (n - k) 0
theorem qC {M : List Int} {n k : Nat} (h : M.length = n) (hk : k <= n) : (prR M n k).length = n := by simp [prR]; omega
theorem zn1 (M : List Int) (n : Nat) : prR M n 0 = List.replicate n 0 := by simp [prR]
theorem zhZ {M : List Int} {n : Nat} (h : M.length = n) : prR M n n = M := by simp [prR, ← h]
theorem zc2 {M : List Int} {n k : Nat} (h : M.length = n) (hk : k < n) {y : Int} (hy : y = M[k]'(by omega)) : (prR M n k).set k y = prR M n (k + 1) := by
 subst hy
 unfold prR
 rw [List.set_append_right _ _ (by simp; omega), List.length_take, Nat.min_eq_left (by omega), Nat.sub_self]
 rw [show n - k = (n - (k + 1)) + 1 by omega, List.replicate_succ, List.set_cons_zero, List.take_succ_eq_append_getElem (show k < M.length by omega), List.append_assoc]
 rfl
theorem zoK {M : List Int} {n k j : Nat} (h : M.length = n) (hk : k <= n) (hj : j < k) : (prR M n k).getD j 0 = M.getD j 0 := by
 have e : (M.take k).length = k := by simp; omega
 simp only [prR, List.getD_eq_getElem?_getD, List.getElem?_append, List.getElem?_take, e, if_pos hj]
def jg (x : List Int × List Int) : List AV := [zO x.1, zO x.2]
theorem yB {a b : List Int} (h : b.length = a.length) : (jnR a b).length = a.length := by simp [jnR, h]
theorem jL {a b : List Int} (h : b.length = a.length) : (jnW a b).length = a.length := by simp [jnW, h]
theorem znY {a b : List Int} (h : b.length = a.length) {k : Nat} (hk : k < a.length) : (jnR a b)[k]'(by rw [yB h]; exact hk) = 10 * a[k] + b[k] := by simp [jnR]
theorem zo4 {a b : List Int} (h : b.length = a.length) {k : Nat} (hk : k < a.length) : (jnW a b)[k]'(by rw [jL h]; exact hk) = a[k] + b[k] := by simp [jnW]
theorem zaS (n : Nat) : List.replicate n [I 0] = qA (List.replicate n (0 : Int)) := by simp [qA]
theorem zq2 {a b : List Int × List Int} {m1 m2 : Nat} (e1 : m1 = a.1.length) (e2 : m2 = a.2.length) : [PO.row [[wZ, wZ]], .row (List.replicate m1 [I 0]), .row (List.replicate m2 [I 0]), .row [[.psl 1 m1, .psl 2 m2]]] = [.row [[wZ, wZ]], .row (qA (prR (jnR a.1 b.1) a.1.length 0)), .row (qA (prR (jnW a.2 b.2) a.2.length 0)), .row [[.psl 1 a.1.length, .psl 2 a.2.length]]] := by
 subst e1; subst e2; rw [zn1, zn1, zaS, zaS]
theorem getD_mem {l : List Int} {j : Nat} (h : j < l.length) : l.getD j 0 ∈ l := by simp [h]
theorem zpc (c : Cod) (a b : List Int × List Int) (h1 : b.1.length = a.1.length) (h2 : b.2.length = a.2.length) (h3 : 0 < a.1.length /\ a.1.length <= 1000) (h4 : 0 < a.2.length /\ a.2.length <= 1000) (hb1 : ∀ x ∈ a.1, 0 <= x /\ x <= 100000) (hb2 : ∀ x ∈ b.1, 0 <= x /\ x <= 100000) (hb3 : ∀ x ∈ a.2, 0 <= x /\ x <= 100000) (hb4 : ∀ x ∈ b.2, 0 <= x /\ x <= 100000) (hy : ∀ x ∈ jnW a.2 b.2, x <= c.most) : ACall Tryz.prog G 90 [.agg (qK c), .agg (jg a), .agg (jg b)] (.tup [.agg (jg (jnR a.1 b.1, jnW a.2 b.2)), .v (.bool true)]) := by
 refine zS Tryz.func90 rfl (by kernel_rfl) rfl ?_
 refine zl (zh (zg rfl rfl (jf rfl (zY rfl)) (zg rfl rfl (jf rfl (zY rfl)) (zg rfl rfl (jf rfl (zY rfl)) (jb rfl (wJ rfl rfl zgT rfl rfl) (zg rfl rfl (zn rfl rfl) (zo (zf (zl ?_)))))))))
 refine qx vz ?_
 refine qx vz ?_
 refine qx vz ?_
 refine wR (fun _ => True) (fun k => match k with | 0 => .stable | 1 => .stable | 2 => .stable | 3 => .own 1 | 4 => .stable | 5 => .stable | 6 => .stable | 7 => .own 2 | 8 => .rd [1, 2] | 9 => .own 3 | 10 => .writes | _ => .here) mixed (by kernel_rfl) rfl (by kernel_rfl) trivial ?_
 refine wo rfl rfl (fun m hm => zu rfl rfl wK) (wo rfl rfl (fun m hm => zA rfl rfl rfl jO) (wo rfl rfl (fun m hm => qh rfl rfl rfl Tryz.underlying23) ?_))
 refine zgb rfl rfl (zaH rfl rfl Tryz.underlying23 ti3 rfl rfl rfl (zs := [.int .i64 0]) rfl rfl rfl (by simp; omega) (by simp; omega) (by decide) rfl) ?_
 refine wo rfl rfl (fun m hm => zu rfl rfl jG) (wo rfl rfl (fun m hm => zA rfl rfl rfl jO) (wo rfl rfl (fun m hm => qh rfl rfl rfl Tryz.underlying23) ?_))
 refine zgb rfl rfl (zaH rfl rfl Tryz.underlying23 ti3 rfl rfl rfl (zs := [.int .i64 0]) rfl rfl rfl (by simp; omega) (by simp; omega) (by decide) rfl) ?_
 refine zkx [1, 2] rfl rfl (fun m hm hC => zfH (cs := [_, _]) rfl zkY rfl ⟨_, _, rfl, zbO rfl ((hm.one 1 rfl).trans rfl) (by simp), ⟨_, _, rfl, zbO rfl ((hm.one 2 rfl).trans rfl) (by simp), rfl⟩⟩ (by rfl) (by simp [ofV])) ?_
 refine zgb rfl rfl (zb1 rfl zgT rfl rfl rfl) ?_
 refine zaw rfl rfl (jk rfl rfl rfl rfl rfl rfl (zkN rfl) xX (by rfl) (by rfl)) trivial ?_
 refine wQ (zf (zl (zl (zh (zg rfl rfl (zn rfl rfl) (zo (zf (zB ?_))))))))
 refine qy (ι := { q : Nat // q <= a.1.length }) (fun q => ⟨Tryz.f90.ntmps, frL [(3, .pub (.ptr (qK c))), (4, .pub (.ptr (jg a))), (5, .pub (.ptr (jg b))), (6, .pp 0 1 0 0), (8, .pp 3 1 0 0), (9, I (q.1 : Int))], [.row [[wZ, wZ]], .row (qA (prR (jnR a.1 b.1) a.1.length q.1)), .row (qA (prR (jnW a.2 b.2) a.2.length 0)), .row [[.psl 1 a.1.length, .psl 2 a.2.length]]]⟩) (fun q => a.1.length - q.1) (⟨0, by omega⟩) ?_ ?_
 ·
  exact zt _ ⟨rfl, rfl, rfl, rfl, rfl, rfl, trivial⟩ (zq2 (by simp) (by simp))
 ·
  rintro ⟨q, hq⟩
  dsimp only
  refine zl (zl (zh (zg rfl rfl (zi rfl rfl) (zg rfl rfl (zu rfl rfl wK) (zg rfl rfl (zA rfl rfl rfl jO) (zg rfl rfl (qh rfl rfl rfl Tryz.underlying23) (zg rfl rfl (qi rfl rfl rfl) (zo (zf (zx rfl (fun h_0 => ?_) (fun h_0 => ?_)))))))))))
  ·
   have hlt : q < a.1.length := by simpa [zO] using h_0
   have hltb : q < b.1.length := by omega
   have v1 := hb1 _ (List.getElem_mem hlt)
   have v2 := hb2 _ (List.getElem_mem hltb)
   refine zC (zf (zl (zB ?_)))
   refine wR (fun _ => True) (fun k => match k with | 16 => .writes | _ => .here) mixed (by kernel_rfl) rfl (by kernel_rfl) trivial ?_
   refine zX rfl rfl (qE rfl rfl rfl rfl wK) (zX rfl rfl (zK rfl rfl rfl rfl rfl rfl jO) (zX rfl rfl (zi rfl rfl) (zX rfl rfl (zu rfl rfl wK) (zX rfl rfl (zA rfl rfl rfl jO) (zX rfl rfl (zi rfl rfl) (zX rfl rfl (zG rfl rfl rfl jv (by omega) (wu hlt) jC) (zX rfl rfl (zA rfl rfl rfl ty3) (zX rfl rfl (zcY rfl rfl rfl ⟨(by omega), (by omega)⟩) (zX rfl rfl (zu rfl rfl wK) (zX rfl rfl (zA rfl rfl rfl jO) (zX rfl rfl (zi rfl rfl) ?_)))))))))))
   refine zX rfl rfl (zG rfl rfl rfl jv (by omega) (wu hltb) jC) (zX rfl rfl (zA rfl rfl rfl ty3) (zX rfl rfl (zV rfl rfl rfl ⟨(by omega), (by omega)⟩) ?_))
   refine zX rfl rfl (qc rfl rfl rfl rfl (by rw [qm, qC (yB h1) (by omega)]) jv (by omega) (by omega) (jh _)) ?_
   refine zaw rfl rfl (jk (r := [I ((prR (jnR a.1 b.1) a.1.length q).getD q 0)]) rfl rfl rfl rfl (by rw [qm, qC (yB h1) (by omega)]) (wY (by rw [qC (yB h1) (by omega)]; omega)) (jF rfl) ty3 (by rfl) (by rfl)) trivial ?_
   refine wQ (zD (zf (zh (zg rfl rfl (zi rfl rfl) (zg rfl rfl (zV rfl rfl rfl ⟨(by omega), (by omega)⟩) (zg rfl rfl (zn rfl rfl) (zo ?_)))))))
   exact ⟨⟨q + 1, by omega⟩, by dsimp only; omega, zt _ ⟨rfl, rfl, rfl, rfl, rfl, rfl, trivial⟩ (congrArg (fun z => [PO.row [[wZ, wZ]], PO.row z, PO.row (qA (prR (jnW a.2 b.2) a.2.length 0)), PO.row [[.psl 1 a.1.length, .psl 2 a.2.length]]]) ((wW _ _ _ _).trans (congrArg qA (zc2 (yB h1) hlt (znY h1 hlt).symm))))⟩
  ·
   have hge : a.1.length <= q := by simpa [zO] using h_0
   have hq2 : q = a.1.length := by omega
   refine qp (zL (zL (qw (zf (zl (zl (zh (zg rfl rfl (zn rfl rfl) (zo (zf (zB ?_)))))))))))
   refine qy (ι := { r : Nat // r <= a.2.length /\ ∀ j, j < r -> (jnW a.2 b.2).getD j 0 <= c.most }) (fun r => ⟨Tryz.f90.ntmps, frL [(3, .pub (.ptr (qK c))), (4, .pub (.ptr (jg a))), (5, .pub (.ptr (jg b))), (6, .pp 0 1 0 0), (8, .pp 3 1 0 0), (10, I (r.1 : Int))], [.row [[wZ, wZ]], .row (qA (prR (jnR a.1 b.1) a.1.length a.1.length)), .row (qA (prR (jnW a.2 b.2) a.2.length r.1)), .row [[.psl 1 a.1.length, .psl 2 a.2.length]]]⟩) (fun r => a.2.length - r.1) (⟨0, by omega, fun j hj => absurd hj (by omega)⟩) ?_ ?_
   ·
    exact zt _ ⟨rfl, rfl, rfl, rfl, rfl, rfl, trivial⟩ ((by rw [hq2]))
   ·
    rintro ⟨r, hr⟩
    dsimp only
    refine zl (zl (zh (zg rfl rfl (zi rfl rfl) (zg rfl rfl (zu rfl rfl jG) (zg rfl rfl (zA rfl rfl rfl jO) (zg rfl rfl (qh rfl rfl rfl Tryz.underlying23) (zg rfl rfl (qi rfl rfl rfl) (zo (zf (zx rfl (fun h_1 => ?_) (fun h_1 => ?_)))))))))))
    ·
     have hlt : r < a.2.length := by simpa [zO] using h_1
     have hltb : r < b.2.length := by omega
     have v1 := hb3 _ (List.getElem_mem hlt)
     have v2 := hb4 _ (List.getElem_mem hltb)
     refine zC (zf (zl (zB (zl ?_))))
     refine wR (fun _ => True) (fun k => match k with | 15 => .writes | _ => .here) mixed (by kernel_rfl) rfl (by kernel_rfl) trivial ?_
     refine zX rfl rfl (qE rfl rfl rfl rfl jG) (zX rfl rfl (zK rfl rfl rfl rfl rfl rfl jO) (zX rfl rfl (zi rfl rfl) (zX rfl rfl (zu rfl rfl jG) (zX rfl rfl (zA rfl rfl rfl jO) (zX rfl rfl (zi rfl rfl) (zX rfl rfl (zG rfl rfl rfl jv (by omega) (wu hlt) jC) (zX rfl rfl (zA rfl rfl rfl ty3) (zX rfl rfl (zu rfl rfl jG) (zX rfl rfl (zA rfl rfl rfl jO) (zX rfl rfl (zi rfl rfl) (zX rfl rfl (zG rfl rfl rfl jv (by omega) (wu hltb) jC) ?_)))))))))))
     refine zX rfl rfl (zA rfl rfl rfl ty3) (zX rfl rfl (zV rfl rfl rfl ⟨(by omega), (by omega)⟩) ?_)
     refine zX rfl rfl (qc rfl rfl rfl rfl (by rw [qm, qC (jL h2) (by omega)]) jv (by omega) (by omega) (jh _)) ?_
     refine zaw rfl rfl (jk (r := [I ((prR (jnW a.2 b.2) a.2.length r).getD r 0)]) rfl rfl rfl rfl (by rw [qm, qC (jL h2) (by omega)]) (wY (by rw [qC (jL h2) (by omega)]; omega)) (jF rfl) ty3 (by rfl) (by rfl)) trivial ?_
     refine wQ (zf (zl ?_))
     refine qx (zt (mem' := [.row [[wZ, wZ]], .row (qA (prR (jnR a.1 b.1) a.1.length a.1.length)), .row (qA (prR (jnW a.2 b.2) a.2.length (r + 1))), .row [[.psl 1 a.1.length, .psl 2 a.2.length]]]) [(3, .pub (.ptr (qK c))), (4, .pub (.ptr (jg a))), (5, .pub (.ptr (jg b))), (6, .pp 0 1 0 0), (8, .pp 3 1 0 0), (10, I (r : Int))] ?_ ?_) ?_
     ·
      exact ⟨rfl, rfl, rfl, rfl, rfl, rfl, trivial⟩
     ·
      exact (congrArg (fun z => [PO.row [[wZ, wZ]], PO.row (qA (prR (jnR a.1 b.1) a.1.length a.1.length)), PO.row z, PO.row [[.psl 1 a.1.length, .psl 2 a.2.length]]]) ((wW _ _ _ _).trans (congrArg qA (zc2 (jL h2) hlt (zo4 h2 hlt).symm))))
     have hv := zoK (M := jnW a.2 b.2) (n := a.2.length) (k := r + 1) (j := r) (jL h2) (by omega) (by omega)
     refine qY mixed (by kernel_rfl) rfl ?_
     refine zH rfl (qE rfl rfl rfl rfl jG) (zH rfl (zK rfl rfl rfl rfl rfl rfl jO) (zH rfl (zi rfl rfl) ?_))
     refine zH rfl (qc rfl rfl rfl rfl (by rw [qm, qC (jL h2) (by omega)]) jv (by omega) (by omega) (jh _)) ?_
     refine zH rfl (zK (c := I ((prR (jnW a.2 b.2) a.2.length (r + 1)).getD r 0)) rfl rfl rfl (by rw [qm, qC (jL h2) (by omega)]) (wY (by rw [qC (jL h2) (by omega)]; omega)) rfl ty3) ?_
     refine zH rfl (zu rfl rfl jZ) (zH rfl (zA rfl rfl rfl ty3) (zH rfl (qR rfl rfl rfl) (jw (zf (zx rfl (fun h_2 => ?_) (fun h_2 => ?_))))))
     ·
      exfalso
      have := hy _ (getD_mem (l := jnW a.2 b.2) (j := r) (by rw [jL h2]; exact hlt))
      rw [hv] at h_2
      simp at h_2
      simp at this
      omega
     ·
      have hnx : ∀ j, j < r + 1 -> (jnW a.2 b.2).getD j 0 <= c.most := by
       intro j hj
       by_cases e : j = r
       ·
        rw [e, ← hv]; simpa using h_2
       ·
        exact hr.2 j (by omega)
      refine zC (zD (zf (zh (zg rfl rfl (zi rfl rfl) (zg rfl rfl (zV rfl rfl rfl ⟨(by omega), (by omega)⟩) (zg rfl rfl (zn rfl rfl) (zo ?_)))))))
      exact ⟨⟨r + 1, by omega, hnx⟩, by dsimp only; omega, zt _ ⟨rfl, rfl, rfl, rfl, rfl, rfl, trivial⟩ (rfl)⟩
    ·
     have hge : a.2.length <= r := by simpa [zO] using h_1
     have hr2 : r = a.2.length := by omega
     refine qp (zL (zL (qw (zf (zl ?_)))))
     refine qx (kY (k := 1) (m := a.1.length) (c := 3) (i := 0) (j := 0) (rows := (prR (jnR a.1 b.1) a.1.length a.1.length).map fun n => [AV.v (.int .i64 n)]) ?_ ?_ rfl rfl rfl rfl) ?_
     ·
      exact (congrArg (fun z => some (PO.row z)) (yK _))
     ·
      rw [List.length_map, qC (yB h1) (by omega)]
     refine qx (kY (k := 2) (m := a.2.length) (c := 3) (i := 0) (j := 1) (rows := (prR (jnW a.2 b.2) a.2.length r).map fun n => [AV.v (.int .i64 n)]) ?_ ?_ rfl rfl rfl rfl) ?_
     ·
      exact (congrArg (fun z => some (PO.row z)) (yK _))
     ·
      rw [List.length_map, qC (jL h2) (by omega)]
     refine zh (zg rfl rfl (qN (cs := [_, _]) rfl rfl rfl rfl rfl (by exact zLb rfl) rfl xX) ?_)
     refine jb rfl (qG rfl rfl rfl rfl rfl rfl (zY rfl) xX (by rfl) (by exact zLb rfl)) ?_
     refine zg rfl rfl (zn rfl rfl) (zo (zf (zP ?_)))
     exact ⟨.inr rfl, ⟨_, rfl, ⟨_, _, rfl, (jK rfl rfl rfl rfl xX rfl ⟨_, _, rfl, AVle.of (by rw [zhZ (yB h1)]; rfl), ⟨_, _, rfl, AVle.of (by rw [hr2, zhZ (jL h2)]; rfl), rfl⟩⟩), ⟨_, _, rfl, AVle.refl _, rfl⟩⟩⟩⟩
theorem zrz (c : Cod) (a b : List Int × List Int) (h1 : b.1.length = a.1.length) (h2 : b.2.length = a.2.length) (h3 : 0 < a.1.length /\ a.1.length <= 1000) (h4 : 0 < a.2.length /\ a.2.length <= 1000) (hb1 : ∀ x ∈ a.1, 0 <= x /\ x <= 100000) (hb2 : ∀ x ∈ b.1, 0 <= x /\ x <= 100000) (hb3 : ∀ x ∈ a.2, 0 <= x /\ x <= 100000) (hb4 : ∀ x ∈ b.2, 0 <= x /\ x <= 100000) (hn : ¬ ∀ x ∈ jnW a.2 b.2, x <= c.most) : ACall Tryz.prog G 90 [.agg (qK c), .agg (jg a), .agg (jg b)] (.tup [.agg [.top, .top], .v (.bool false)]) := by
 refine zS Tryz.func90 rfl (by kernel_rfl) rfl ?_
 refine zl (zh (zg rfl rfl (jf rfl (zY rfl)) (zg rfl rfl (jf rfl (zY rfl)) (zg rfl rfl (jf rfl (zY rfl)) (jb rfl (wJ rfl rfl zgT rfl rfl) (zg rfl rfl (zn rfl rfl) (zo (zf (zl ?_)))))))))
 refine qx vz ?_
 refine qx vz ?_
 refine qx vz ?_
 refine wR (fun _ => True) (fun k => match k with | 0 => .stable | 1 => .stable | 2 => .stable | 3 => .own 1 | 4 => .stable | 5 => .stable | 6 => .stable | 7 => .own 2 | 8 => .rd [1, 2] | 9 => .own 3 | 10 => .writes | _ => .here) mixed (by kernel_rfl) rfl (by kernel_rfl) trivial ?_
 refine wo rfl rfl (fun m hm => zu rfl rfl wK) (wo rfl rfl (fun m hm => zA rfl rfl rfl jO) (wo rfl rfl (fun m hm => qh rfl rfl rfl Tryz.underlying23) ?_))
 refine zgb rfl rfl (zaH rfl rfl Tryz.underlying23 ti3 rfl rfl rfl (zs := [.int .i64 0]) rfl rfl rfl (by simp; omega) (by simp; omega) (by decide) rfl) ?_
 refine wo rfl rfl (fun m hm => zu rfl rfl jG) (wo rfl rfl (fun m hm => zA rfl rfl rfl jO) (wo rfl rfl (fun m hm => qh rfl rfl rfl Tryz.underlying23) ?_))
 refine zgb rfl rfl (zaH rfl rfl Tryz.underlying23 ti3 rfl rfl rfl (zs := [.int .i64 0]) rfl rfl rfl (by simp; omega) (by simp; omega) (by decide) rfl) ?_
 refine zkx [1, 2] rfl rfl (fun m hm hC => zfH (cs := [_, _]) rfl zkY rfl ⟨_, _, rfl, zbO rfl ((hm.one 1 rfl).trans rfl) (by simp), ⟨_, _, rfl, zbO rfl ((hm.one 2 rfl).trans rfl) (by simp), rfl⟩⟩ (by rfl) (by simp [ofV])) ?_
 refine zgb rfl rfl (zb1 rfl zgT rfl rfl rfl) ?_
 refine zaw rfl rfl (jk rfl rfl rfl rfl rfl rfl (zkN rfl) xX (by rfl) (by rfl)) trivial ?_
 refine wQ (zf (zl (zl (zh (zg rfl rfl (zn rfl rfl) (zo (zf (zB ?_))))))))
 refine qy (ι := { q : Nat // q <= a.1.length }) (fun q => ⟨Tryz.f90.ntmps, frL [(3, .pub (.ptr (qK c))), (4, .pub (.ptr (jg a))), (5, .pub (.ptr (jg b))), (6, .pp 0 1 0 0), (8, .pp 3 1 0 0), (9, I (q.1 : Int))], [.row [[wZ, wZ]], .row (qA (prR (jnR a.1 b.1) a.1.length q.1)), .row (qA (prR (jnW a.2 b.2) a.2.length 0)), .row [[.psl 1 a.1.length, .psl 2 a.2.length]]]⟩) (fun q => a.1.length - q.1) (⟨0, by omega⟩) ?_ ?_
 ·
  exact zt _ ⟨rfl, rfl, rfl, rfl, rfl, rfl, trivial⟩ (zq2 (by simp) (by simp))
 ·
  rintro ⟨q, hq⟩
  dsimp only
  refine zl (zl (zh (zg rfl rfl (zi rfl rfl) (zg rfl rfl (zu rfl rfl wK) (zg rfl rfl (zA rfl rfl rfl jO) (zg rfl rfl (qh rfl rfl rfl Tryz.underlying23) (zg rfl rfl (qi rfl rfl rfl) (zo (zf (zx rfl (fun h_0 => ?_) (fun h_0 => ?_)))))))))))
  ·
   have hlt : q < a.1.length := by simpa [zO] using h_0
   have hltb : q < b.1.length := by omega
   have v1 := hb1 _ (List.getElem_mem hlt)
   have v2 := hb2 _ (List.getElem_mem hltb)
   refine zC (zf (zl (zB ?_)))
   refine wR (fun _ => True) (fun k => match k with | 16 => .writes | _ => .here) mixed (by kernel_rfl) rfl (by kernel_rfl) trivial ?_
   refine zX rfl rfl (qE rfl rfl rfl rfl wK) (zX rfl rfl (zK rfl rfl rfl rfl rfl rfl jO) (zX rfl rfl (zi rfl rfl) (zX rfl rfl (zu rfl rfl wK) (zX rfl rfl (zA rfl rfl rfl jO) (zX rfl rfl (zi rfl rfl) (zX rfl rfl (zG rfl rfl rfl jv (by omega) (wu hlt) jC) (zX rfl rfl (zA rfl rfl rfl ty3) (zX rfl rfl (zcY rfl rfl rfl ⟨(by omega), (by omega)⟩) (zX rfl rfl (zu rfl rfl wK) (zX rfl rfl (zA rfl rfl rfl jO) (zX rfl rfl (zi rfl rfl) ?_)))))))))))
   refine zX rfl rfl (zG rfl rfl rfl jv (by omega) (wu hltb) jC) (zX rfl rfl (zA rfl rfl rfl ty3) (zX rfl rfl (zV rfl rfl rfl ⟨(by omega), (by omega)⟩) ?_))
   refine zX rfl rfl (qc rfl rfl rfl rfl (by rw [qm, qC (yB h1) (by omega)]) jv (by omega) (by omega) (jh _)) ?_
   refine zaw rfl rfl (jk (r := [I ((prR (jnR a.1 b.1) a.1.length q).getD q 0)]) rfl rfl rfl rfl (by rw [qm, qC (yB h1) (by omega)]) (wY (by rw [qC (yB h1) (by omega)]; omega)) (jF rfl) ty3 (by rfl) (by rfl)) trivial ?_
   refine wQ (zD (zf (zh (zg rfl rfl (zi rfl rfl) (zg rfl rfl (zV rfl rfl rfl ⟨(by omega), (by omega)⟩) (zg rfl rfl (zn rfl rfl) (zo ?_)))))))
   exact ⟨⟨q + 1, by omega⟩, by dsimp only; omega, zt _ ⟨rfl, rfl, rfl, rfl, rfl, rfl, trivial⟩ (congrArg (fun z => [PO.row [[wZ, wZ]], PO.row z, PO.row (qA (prR (jnW a.2 b.2) a.2.length 0)), PO.row [[.psl 1 a.1.length, .psl 2 a.2.length]]]) ((wW _ _ _ _).trans (congrArg qA (zc2 (yB h1) hlt (znY h1 hlt).symm))))⟩
  ·
   have hge : a.1.length <= q := by simpa [zO] using h_0
   have hq2 : q = a.1.length := by omega
   refine qp (zL (zL (qw (zf (zl (zl (zh (zg rfl rfl (zn rfl rfl) (zo (zf (zB ?_)))))))))))
   refine qy (ι := { r : Nat // r <= a.2.length /\ ∀ j, j < r -> (jnW a.2 b.2).getD j 0 <= c.most }) (fun r => ⟨Tryz.f90.ntmps, frL [(3, .pub (.ptr (qK c))), (4, .pub (.ptr (jg a))), (5, .pub (.ptr (jg b))), (6, .pp 0 1 0 0), (8, .pp 3 1 0 0), (10, I (r.1 : Int))], [.row [[wZ, wZ]], .row (qA (prR (jnR a.1 b.1) a.1.length a.1.length)), .row (qA (prR (jnW a.2 b.2) a.2.length r.1)), .row [[.psl 1 a.1.length, .psl 2 a.2.length]]]⟩) (fun r => a.2.length - r.1) (⟨0, by omega, fun j hj => absurd hj (by omega)⟩) ?_ ?_
   ·
    exact zt _ ⟨rfl, rfl, rfl, rfl, rfl, rfl, trivial⟩ ((by rw [hq2]))
   ·
    rintro ⟨r, hr⟩
    dsimp only
    refine zl (zl (zh (zg rfl rfl (zi rfl rfl) (zg rfl rfl (zu rfl rfl jG) (zg rfl rfl (zA rfl rfl rfl jO) (zg rfl rfl (qh rfl rfl rfl Tryz.underlying23) (zg rfl rfl (qi rfl rfl rfl) (zo (zf (zx rfl (fun h_1 => ?_) (fun h_1 => ?_)))))))))))
    ·
     have hlt : r < a.2.length := by simpa [zO] using h_1
     have hltb : r < b.2.length := by omega
     have v1 := hb3 _ (List.getElem_mem hlt)
     have v2 := hb4 _ (List.getElem_mem hltb)
     refine zC (zf (zl (zB (zl ?_))))
     refine wR (fun _ => True) (fun k => match k with | 15 => .writes | _ => .here) mixed (by kernel_rfl) rfl (by kernel_rfl) trivial ?_
     refine zX rfl rfl (qE rfl rfl rfl rfl jG) (zX rfl rfl (zK rfl rfl rfl rfl rfl rfl jO) (zX rfl rfl (zi rfl rfl) (zX rfl rfl (zu rfl rfl jG) (zX rfl rfl (zA rfl rfl rfl jO) (zX rfl rfl (zi rfl rfl) (zX rfl rfl (zG rfl rfl rfl jv (by omega) (wu hlt) jC) (zX rfl rfl (zA rfl rfl rfl ty3) (zX rfl rfl (zu rfl rfl jG) (zX rfl rfl (zA rfl rfl rfl jO) (zX rfl rfl (zi rfl rfl) (zX rfl rfl (zG rfl rfl rfl jv (by omega) (wu hltb) jC) ?_)))))))))))
     refine zX rfl rfl (zA rfl rfl rfl ty3) (zX rfl rfl (zV rfl rfl rfl ⟨(by omega), (by omega)⟩) ?_)
     refine zX rfl rfl (qc rfl rfl rfl rfl (by rw [qm, qC (jL h2) (by omega)]) jv (by omega) (by omega) (jh _)) ?_
     refine zaw rfl rfl (jk (r := [I ((prR (jnW a.2 b.2) a.2.length r).getD r 0)]) rfl rfl rfl rfl (by rw [qm, qC (jL h2) (by omega)]) (wY (by rw [qC (jL h2) (by omega)]; omega)) (jF rfl) ty3 (by rfl) (by rfl)) trivial ?_
     refine wQ (zf (zl ?_))
     refine qx (zt (mem' := [.row [[wZ, wZ]], .row (qA (prR (jnR a.1 b.1) a.1.length a.1.length)), .row (qA (prR (jnW a.2 b.2) a.2.length (r + 1))), .row [[.psl 1 a.1.length, .psl 2 a.2.length]]]) [(3, .pub (.ptr (qK c))), (4, .pub (.ptr (jg a))), (5, .pub (.ptr (jg b))), (6, .pp 0 1 0 0), (8, .pp 3 1 0 0), (10, I (r : Int))] ?_ ?_) ?_
     ·
      exact ⟨rfl, rfl, rfl, rfl, rfl, rfl, trivial⟩
     ·
      exact (congrArg (fun z => [PO.row [[wZ, wZ]], PO.row (qA (prR (jnR a.1 b.1) a.1.length a.1.length)), PO.row z, PO.row [[.psl 1 a.1.length, .psl 2 a.2.length]]]) ((wW _ _ _ _).trans (congrArg qA (zc2 (jL h2) hlt (zo4 h2 hlt).symm))))
     have hv := zoK (M := jnW a.2 b.2) (n := a.2.length) (k := r + 1) (j := r) (jL h2) (by omega) (by omega)
     refine qY mixed (by kernel_rfl) rfl ?_
     refine zH rfl (qE rfl rfl rfl rfl jG) (zH rfl (zK rfl rfl rfl rfl rfl rfl jO) (zH rfl (zi rfl rfl) ?_))
     refine zH rfl (qc rfl rfl rfl rfl (by rw [qm, qC (jL h2) (by omega)]) jv (by omega) (by omega) (jh _)) ?_
     refine zH rfl (zK (c := I ((prR (jnW a.2 b.2) a.2.length (r + 1)).getD r 0)) rfl rfl rfl (by rw [qm, qC (jL h2) (by omega)]) (wY (by rw [qC (jL h2) (by omega)]; omega)) rfl ty3) ?_
     refine zH rfl (zu rfl rfl jZ) (zH rfl (zA rfl rfl rfl ty3) (zH rfl (qR rfl rfl rfl) (jw (zf (zx rfl (fun h_2 => ?_) (fun h_2 => ?_))))))
     ·
      refine zl ?_
      refine qx (kY (k := 1) (m := a.1.length) (c := 3) (i := 0) (j := 0) (rows := (prR (jnR a.1 b.1) a.1.length a.1.length).map fun n => [AV.v (.int .i64 n)]) ?_ ?_ rfl rfl rfl rfl) ?_
      ·
       exact (congrArg (fun z => some (PO.row z)) (yK _))
      ·
       rw [List.length_map, qC (yB h1) (by omega)]
      refine qx (kY (k := 2) (m := a.2.length) (c := 3) (i := 0) (j := 1) (rows := (prR (jnW a.2 b.2) a.2.length (r + 1)).map fun n => [AV.v (.int .i64 n)]) ?_ ?_ rfl rfl rfl rfl) ?_
      ·
       exact (congrArg (fun z => some (PO.row z)) (yK _))
      ·
       rw [List.length_map, qC (jL h2) (by omega)]
      refine zh (zg rfl rfl (qN (cs := [_, _]) rfl rfl rfl rfl rfl (by exact zLb rfl) rfl xX) ?_)
      refine jb rfl (qG rfl rfl rfl rfl rfl rfl (zY rfl) xX (by rfl) (by exact zLb rfl)) ?_
      refine zg rfl rfl (zn rfl rfl) (zo (zf (zP (qF (zQ (zQ (qF (zQ ?_))))))))
      exact ⟨.inr rfl, ⟨_, rfl, ⟨_, _, rfl, (jK rfl rfl rfl rfl xX rfl ⟨_, _, rfl, AVle.top _, ⟨_, _, rfl, AVle.top _, rfl⟩⟩), ⟨_, _, rfl, AVle.refl _, rfl⟩⟩⟩⟩
     ·
      have hnx : ∀ j, j < r + 1 -> (jnW a.2 b.2).getD j 0 <= c.most := by
       intro j hj
       by_cases e : j = r
       ·
        rw [e, ← hv]; simpa using h_2
       ·
        exact hr.2 j (by omega)
      refine zC (zD (zf (zh (zg rfl rfl (zi rfl rfl) (zg rfl rfl (zV rfl rfl rfl ⟨(by omega), (by omega)⟩) (zg rfl rfl (zn rfl rfl) (zo ?_)))))))
      exact ⟨⟨r + 1, by omega, hnx⟩, by dsimp only; omega, zt _ ⟨rfl, rfl, rfl, rfl, rfl, rfl, trivial⟩ (rfl)⟩
    ·
     have hge : a.2.length <= r := by simpa [zO] using h_1
     have hr2 : r = a.2.length := by omega
     exfalso
     apply hn
     intro x hx
     obtain ⟨j, hj, rfl⟩ := List.getElem_of_mem hx
     rw [jL h2] at hj
     have := hr.2 j (by omega)
     simpa [jL h2, hj] using this
end Go.Av
end
section
namespace Go.Av
open Go.Proofs
def rdJ (K n j : Nat) : List Int := (List.range K).map fun p => if K <= p + j then (n : Int) / (10 ^ (K - 1 - p) : Nat) % 10 else 0
theorem zhf (K n j : Nat) : (rdJ K n j).length = K := by simp [rdJ]
theorem zsk (K n : Nat) : rdJ K n 0 = List.replicate K 0 := by
 unfold rdJ
 refine List.ext_getElem (by simp) fun i h1 h2 => ?_
 have : i < K := by simpa using h1
 simp; omega
theorem zsQ (K n : Nat) : rdJ K n K = ql K n := by
 unfold rdJ ql
 refine List.map_congr_left fun p hp => ?_
 rw [if_pos (by omega)]
theorem zqF {K n j : Nat} (h : j < K) : (rdJ K n j).set (K - 1 - j) ((n : Int) / (10 ^ j : Nat) % 10) = rdJ K n (j + 1) := by
 unfold rdJ
 refine List.ext_getElem (by simp) fun i h1 h2 => ?_
 have hi : i < K := by simpa using h1
 rw [List.getElem_set]
 simp only [List.getElem_map, List.getElem_range]
 by_cases e : K - 1 - j = i
 ·
  subst e
  rw [if_pos rfl, if_pos (by omega), show K - 1 - (K - 1 - j) = j by omega]
 ·
  rw [if_neg e]
  by_cases e2 : K <= i + j
  ·
   rw [if_pos e2, if_pos (by omega)]
  ·
   rw [if_neg e2, if_neg (by omega)]
def smJ (n j : Nat) : Int := jB j (fun p => (n : Int) / (10 ^ p : Nat) % 10)
theorem zm9 (n j : Nat) : 0 <= smJ n j /\ smJ n j <= 9 * j := by
 unfold smJ
 induction j with
 | zero => simp [jB]
 | succ j ih => simp only [jB]; omega
theorem zpo {K n : Nat} (h : 1 <= K /\ K <= 3) : smJ n K = zjh (ql K n) := by
 have : K = 1 ∨ K = 2 ∨ K = 3 := by omega
 rcases this with rfl | rfl | rfl
 ·
  simp [smJ, jB, ql, zjh, List.range_succ]
 ·
  simp [smJ, jB, ql, zjh, List.range_succ]; omega
 ·
  simp [smJ, jB, ql, zjh, List.range_succ]; omega
theorem zp4 (n j : Nat) : (n : Int) / (10 ^ j : Nat) / 10 = (n : Int) / (10 ^ (j + 1) : Nat) := by
 show ((n / 10 ^ j / 10 : Nat) : Int) = ((n / 10 ^ (j + 1) : Nat) : Int)
 rw [Nat.div_div_eq_div_mul, Nat.pow_succ]
theorem zse (n j : Nat) : 0 <= (n : Int) / (10 ^ j : Nat) /\ (n : Int) / (10 ^ j : Nat) <= n := by
 constructor
 ·
  exact Int.natCast_nonneg (n / 10 ^ j)
 ·
  exact Int.ofNat_le.2 (Nat.div_le_self n (10 ^ j))
theorem zlI {K n i : Nat} : 0 <= vF (ql K n) i /\ vF (ql K n) i <= 9 := by
 unfold vF
 split
 ·
  exact zeu K n _ (List.getElem_mem _)
 ·
  omega
theorem zpw {K n i : Nat} (h : i < K) : (ql K n).getD i 0 = vF (ql K n) i := by
 unfold vF; rw [dif_pos (by rw [vk]; exact h)]; simp [vk, h]
theorem zqw {K n i : Nat} (hK : 1 <= K /\ K <= 3) (h : K <= i) : smJ n K % 10 = vF (ql K n) i := by
 unfold vF; rw [dif_neg (by rw [vk]; omega), zpo hK]
def wsK (g : List (List UInt8)) (place : Nat) (ds : List Int) (i : Nat) : Int := jB i (fun j => wrN (chF g j place, vF ds j))
def okK (c : Cod) (g : List (List UInt8)) (place : Nat) (ds : List Int) (i : Nat) : Bool := (List.range i).all fun j => okP c (chF g j place, vF ds j)
theorem zc4 (c : Cod) (g : List (List UInt8)) (place : Nat) (ds : List Int) (i : Nat) : okK c g place ds (i + 1) = (okK c g place ds i && okP c (chF g i place, vF ds i)) := by simp [okK, List.range_succ]
theorem zkG (g : List (List UInt8)) (place : Nat) (ds : List Int) (i : Nat) : 0 <= wsK g place ds i /\ wsK g place ds i <= i := by
 unfold wsK
 induction i with
 | zero => simp [jB]
 | succ i ih => have := zbv (chF g i place, vF ds i); simp only [jB]; omega
def fnK (c : Cod) (l : List (List (List UInt8))) (place : Nat) (ds : List Int) (k : Nat) : Bool := (l.take k).all fun g => zfW c g place ds && decide (zbu g place ds <= c.most)
theorem zng {c : Cod} {l : List (List (List UInt8))} {place : Nat} {ds : List Int} {k : Nat} (h : k < l.length) : fnK c l place ds (k + 1) = (fnK c l place ds k && (zfW c l[k] place ds && decide (zbu l[k] place ds <= c.most))) := by
 unfold fnK; rw [List.take_succ_eq_append_getElem h, List.all_append]; simp
theorem zlA {c : Cod} {l : List (List (List UInt8))} {place : Nat} {ds : List Int} {k : Nat} (h : l.length <= k) : fnK c l place ds k = zdv c l place ds := by
 unfold fnK zdv; rw [List.take_of_length_le h]
theorem zp3 {c : Cod} {g : List (List UInt8)} {place K n : Nat} : okK c g place (ql K n) (K + 1) = zfW c g place (ql K n) := by unfold okK zfW; rw [vk]
theorem zen {g : List (List UInt8)} {place K n : Nat} : wsK g place (ql K n) (K + 1) = zbu g place (ql K n) := by unfold wsK zbu; rw [vk]
theorem qL (l : List (List (List UInt8))) (place : Nat) (ds : List Int) : (vX l place ds).length = l.length := by simp [vX]
theorem zpD {l : List (List (List UInt8))} {place : Nat} {ds : List Int} {k : Nat} (h : k < l.length) : (vX l place ds)[k]'(by rw [qL]; exact h) = zbu l[k] place ds := by simp [vX]
def jV (c : Cod) (l : List (List (List UInt8))) (place n : Nat) : List (List Int × List Int) := ((List.range n).filter fun n => zdv c l place (ql c.fields.length n)).map fun n => (ql c.fields.length n, vX l place (ql c.fields.length n))
theorem zdg (c : Cod) (l : List (List (List UInt8))) (place : Nat) : jV c l place (10 ^ c.fields.length) = jl c l place := rfl
theorem zoP {c : Cod} {l : List (List (List UInt8))} {place n : Nat} (h : zdv c l place (ql c.fields.length n) = true) : jV c l place (n + 1) = jV c l place n ++ [(ql c.fields.length n, vX l place (ql c.fields.length n))] := by
 unfold jV; rw [List.range_succ, List.filter_append, List.map_append]; simp [h]
theorem zpx {c : Cod} {l : List (List (List UInt8))} {place n : Nat} (h : zdv c l place (ql c.fields.length n) = false) : jV c l place (n + 1) = jV c l place n := by
 unfold jV; rw [List.range_succ, List.filter_append, List.map_append]; simp [h]
theorem zcR (c : Cod) (l : List (List (List UInt8))) (place n : Nat) : (jV c l place n).length <= n := by
 unfold jV; rw [List.length_map]; exact Nat.le_trans (List.length_filter_le ..) (by simp)
def jo (X : List (List Int × List Int)) : List (List EV) := X.map fun x => [EV.pub (zO x.1), EV.pub (zO x.2)]
theorem zgN (X : List (List Int × List Int)) : jo X = (X.map jg).map (·.map .pub) := by simp [jo, jg]
theorem zgX (X : List (List Int × List Int)) : (jo X).length = X.length := by simp [jo]
theorem zgu (X : List (List Int × List Int)) : ∀ q ∈ jo X, q.length = 2 := fun q hq => by obtain ⟨x, _, rfl⟩ := List.mem_map.1 hq; rfl
theorem zft (X : List (List Int × List Int)) (a b : List Int) : jo X ++ [[EV.pub (zO a), EV.pub (zO b)]] = jo (X ++ [(a, b)]) := by simp [jo]
theorem zka {K : Nat} (h : K <= 3) : 10 ^ K <= 1000 := by
 have : K = 0 ∨ K = 1 ∨ K = 2 ∨ K = 3 := by omega
 rcases this with rfl | rfl | rfl | rfl <;> decide
end Go.Av
end
