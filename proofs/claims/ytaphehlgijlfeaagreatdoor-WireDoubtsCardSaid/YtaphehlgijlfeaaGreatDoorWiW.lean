
import Derived.Test.YtaphehlgijlfeaaGreatDoorWiO
import Derived.Test.YtaphehlgijlfeaaGreatDoorWiN
set_option linter.unusedVariables false
set_option linter.unusedSimpArgs false
section
namespace Go.Av
open Go.Proofs
def mrg : List (List Int) -> List (List Int) -> List (List Int)
 | [], b => b
 | x :: a, [] => x :: a
 | x :: a, y :: b => if ltL x y then x :: mrg a (y :: b) else y :: mrg (x :: a) b
termination_by a b => a.length + b.length
theorem zew (a : List (List Int)) : mrg a [] = a := by cases a <;> simp [mrg]
theorem zdo : ∀ (n : Nat) (a b : List (List Int)), a.length + b.length <= n -> (mrg a b).Perm (a ++ b) := by
 intro n
 induction n with
 | zero =>
  intro a b h
  have h1 : a = [] := List.eq_nil_of_length_eq_zero (by omega)
  have h2 : b = [] := List.eq_nil_of_length_eq_zero (by omega)
  subst h1; subst h2; simp [mrg]
 | succ n ih =>
  intro a b h
  cases a with
  | nil => simp [mrg]
  | cons x a =>
   cases b with
   | nil => rw [zew]; simp
   | cons y b =>
    rw [mrg]
    by_cases hc : ltL x y = true
    ·
     rw [if_pos hc]
     exact (ih a (y :: b) (by simp at h ⊢; omega)).cons x
    ·
     rw [if_neg hc]
     refine ((ih (x :: a) b (by simp at h ⊢; omega)).cons y).trans ?_
     exact (List.perm_middle (a := y) (l₁ := x :: a) (l₂ := b)).symm
theorem zkt : ∀ (n : Nat) (a b : List (List Int)), a.length + b.length <= n -> yL a -> yL b -> yL (mrg a b) := by
 intro n
 induction n with
 | zero =>
  intro a b h h1 h2
  have e1 : a = [] := List.eq_nil_of_length_eq_zero (by omega)
  subst e1; simpa [mrg] using h2
 | succ n ih =>
  intro a b h h1 h2
  cases a with
  | nil => simpa [mrg] using h2
  | cons x a =>
   cases b with
   | nil => rw [zew]; exact h1
   | cons y b =>
    unfold yL at h1 h2 ih ⊢
    have q1 := List.pairwise_cons.1 h1
    have q2 := List.pairwise_cons.1 h2
    rw [mrg]
    by_cases hc : ltL x y = true
    ·
     rw [if_pos hc, List.pairwise_cons]
     refine ⟨fun z hz => ?_, ih a (y :: b) (by simp at h ⊢; omega) q1.2 h2⟩
     have hz' := (zdo _ a (y :: b) (Nat.le_refl _)).mem_iff.1 hz
     rcases List.mem_append.1 hz' with hz' | hz'
     ·
      exact q1.1 z hz'
     ·
      rcases List.mem_cons.1 hz' with rfl | hz'
      ·
       exact zd0 hc
      ·
       exact zaV (q2.1 z hz') (zd0 hc)
    ·
     have hc' : ltL x y = false := by simpa using hc
     rw [if_neg hc, List.pairwise_cons]
     refine ⟨fun z hz => ?_, ih (x :: a) b (by simp at h ⊢; omega) h1 q2.2⟩
     have hz' := (zdo _ (x :: a) b (Nat.le_refl _)).mem_iff.1 hz
     rcases List.mem_append.1 hz' with hz' | hz'
     ·
      rcases List.mem_cons.1 hz' with rfl | hz'
      ·
       exact hc'
      ·
       exact zaV (q1.1 z hz') hc'
     ·
      exact q2.1 z hz'
theorem zoo (a b : List (List Int)) : mrg (sortL a) (sortL b) = sortL (a ++ b) :=
 zdn ((zdo _ _ _ (Nat.le_refl _)).trans ((wF a).append (wF b))) (zkt _ _ _ (Nat.le_refl _) (kR a) (kR b))
theorem zpK (a b : List (List Int)) : (mrg a b).length = a.length + b.length := by rw [(zdo _ a b (Nat.le_refl _)).length_eq, List.length_append]
theorem zgG (l : List (List Int)) : (sortL l).length = l.length := (wF l).length_eq
theorem zqp {l : List (List Int)} (h : l.length < 2) : sortL l = l := (zdn (List.Perm.refl _) (by
 unfold yL
 match l, h with
 | [], _ => simp
 | [x], _ => simp)).symm
theorem zmY {A B : List (List Int)} {i k : Nat} (hi : i < A.length) (h : k = B.length ∨ ltL (A.getD i []) (B.getD k []) = true) (hk : k <= B.length) : mrg (A.drop i) (B.drop k) = A.getD i [] :: mrg (A.drop (i + 1)) (B.drop k) := by
 have e : A.getD i [] = A[i] := by simp [hi]
 rw [List.drop_eq_getElem_cons hi, e]
 by_cases hkl : k < B.length
 ·
  have e2 : B.getD k [] = B[k] := by simp [hkl]
  rw [List.drop_eq_getElem_cons hkl, mrg, if_pos]
  rcases h with h | h
  ·
   omega
  ·
   rwa [e, e2] at h
 ·
  rw [List.drop_eq_nil_of_le (show B.length <= k by omega), zew, zew]
theorem zl3 {A B : List (List Int)} {i k : Nat} (hk : k < B.length) (h : i < A.length -> ltL (A.getD i []) (B.getD k []) = false) (hi : i <= A.length) : mrg (A.drop i) (B.drop k) = B.getD k [] :: mrg (A.drop i) (B.drop (k + 1)) := by
 have e : B.getD k [] = B[k] := by simp [hk]
 rw [List.drop_eq_getElem_cons hk, e]
 by_cases hil : i < A.length
 ·
  have e2 : A.getD i [] = A[i] := by simp [hil]
  have := h hil
  rw [e, e2] at this
  rw [List.drop_eq_getElem_cons hil, mrg, if_neg (by rw [this]; simp)]
 ·
  rw [List.drop_eq_nil_of_le (show A.length <= i by omega)]
  simp only [mrg]
theorem zbA {M T : List (List Int)} {n : Nat} {x : List Int} (h : M.drop n = x :: T) : M.drop (n + 1) = T /\ M.take (n + 1) = M.take n ++ [x] := by
 have hn : n < M.length := by
  rcases Nat.lt_or_ge n M.length with h1 | h1
  ·
   exact h1
  ·
   rw [List.drop_eq_nil_of_le h1] at h; cases h
 rw [List.drop_eq_getElem_cons hn] at h
 injection h with h1 h2
 exact ⟨h2, by rw [List.take_succ_eq_append_getElem hn, h1]⟩
theorem zi8 : ∀ {a b : List Int} {k : Nat}, a.take k = b.take k -> k <= a.length -> k <= b.length -> ltL a b = ltL (a.drop k) (b.drop k) := by
  intro a
  induction a with
  | nil => intro b k _ h2 _; have : k = 0 := by simpa using h2
           subst this; simp
  | cons x a ih =>
    intro b k h h2 h3
    cases k with
    | zero => simp
    | succ k =>
      cases b with
      | nil => simp at h3
      | cons y b =>
        simp only [List.take_succ_cons, List.cons.injEq] at h
        obtain ⟨rfl, h⟩ := h
        simp only [List.drop_succ_cons]
        rw [← ih h (by simpa using h2) (by simpa using h3)]
        simp [ltL]
theorem zrh {a b : List Int} {k : Nat} (h : a.take k = b.take k) (ha : k < a.length) (hb : k < b.length) (hne : a[k] ≠ b[k]) : ltL a b = decide (a[k] < b[k]) := by
 rw [zi8 h (by omega) (by omega), List.drop_eq_getElem_cons ha, List.drop_eq_getElem_cons hb]
 simp [ltL, hne]
theorem zpu {a b : List Int} {k : Nat} (h : a.take k = b.take k) (ha : k <= a.length) (hb : k <= b.length) (hq : a.length <= k ∨ b.length <= k) : ltL a b = decide (a.length < b.length) := by
 rw [zi8 h ha hb]
 by_cases h1 : a.length <= k
 ·
  rw [List.drop_eq_nil_of_le h1]
  by_cases h2 : b.length <= k
  ·
   rw [List.drop_eq_nil_of_le h2]; simp [ltL]; omega
  ·
   rw [List.drop_eq_getElem_cons (show k < b.length by omega)]; simp [ltL]; omega
 ·
  have h2 : b.length <= k := by omega
  rw [List.drop_eq_nil_of_le h2, List.drop_eq_getElem_cons (show k < a.length by omega)]
  simp [ltL]; omega
end Go.Av
end
section
namespace Go.Av
open Go.Proofs
set_option maxRecDepth 100000
set_option maxHeartbeats 1000000
variable {G : Glob}
theorem zdm {L : List (List Int)} {k : Nat} (h : k < L.length) : (L.map fun m => [zO m])[k]? = some [zO (L.getD k [])] := by simp [h]
theorem zlC {L : List (List Int)} (h : ∀ m ∈ L, m.length <= 1000) (k : Nat) : (L.getD k []).length <= 1000 := by
 by_cases hk : k < L.length
 ·
  rw [List.getD_eq_getElem?_getD, List.getElem?_eq_getElem hk]; exact h _ (List.getElem_mem hk)
 ·
  simp [hk]
theorem zsI (L : List (List Int)) : (((L.map fun m => [zO m]).take (((((L.map fun m => [zO m]).length : Nat) : Int) / 2)).toNat).drop (0 : Int).toNat) = (L.take (L.length / 2)).map fun m => [zO m] := by
 rw [List.length_map]
 have : ((L.length : Int) / 2).toNat = L.length / 2 := by omega
 rw [this]; simp [List.map_take]
theorem zso (L : List (List Int)) : (((L.map fun m => [zO m]).take ((((L.map fun m => [zO m]).length : Nat) : Int)).toNat).drop (((((L.map fun m => [zO m]).length : Nat) : Int) / 2)).toNat) = (L.drop (L.length / 2)).map fun m => [zO m] := by
 rw [List.length_map]
 have : ((L.length : Int) / 2).toNat = L.length / 2 := by omega
 rw [this, Int.toNat_natCast, List.take_of_length_le (by simp), List.map_drop]
theorem mk2 (a b : Nat) : ∃ x y : Nat, x = a /\ y = b := ⟨a, b, rfl, rfl⟩
theorem zix {M : List (List Int)} {n : Nat} {x : List Int} (h : M.take (n + 1) = M.take n ++ [x]) : yQ (M.take n) ++ [[EV.pub (zO x)]] = yQ (M.take (n + 1)) := by rw [h]; simp [yQ]; rfl
theorem zoW {M : List (List Int)} {n : Nat} (h : n <= M.length) : (M.take n).length = n := by simp; omega
theorem zqH {i k la lb : Nat} {h : Bool} (e : (((k : Int) == (lb : Int)) || (decide ((i : Int) < (la : Int)) && h)) = true) (hl : i < la ∨ k < lb) (hk : k <= lb) : i < la /\ (k = lb ∨ h = true) := by
 simp at e
 rcases e with e | e
 ·
  exact ⟨by omega, .inl (by omega)⟩
 ·
  exact ⟨e.1, .inr e.2⟩
theorem zo6 {i k la lb : Nat} {h : Bool} (e : (((k : Int) == (lb : Int)) || (decide ((i : Int) < (la : Int)) && h)) = false) (hk : k <= lb) : k < lb /\ (i < la -> h = false) := by
 simp at e
 exact ⟨by omega, fun hi => by have := e.2 hi; simpa using this⟩
theorem zhc (L : List (List Int)) : (L.map fun m => [zO m]).length = L.length := List.length_map ..
theorem f42 (a b : List Int) (ha : a.length <= 100000) (hb : b.length <= 100000) : ACall Tryz.prog G 42 [zO a, zO b] (.v (.bool (ltL a b))) := by
 refine zS Tryz.func42 rfl (by kernel_rfl) rfl ?_
 refine zl (zh (zg rfl rfl (zn rfl rfl) (zo (zf (zl (zl (zh (zg rfl rfl (zn rfl rfl) (zo (zf (zB ?_)))))))))))
 refine qy (ι := { k : Nat // k <= a.length /\ k <= b.length /\ a.take k = b.take k }) (fun k => ⟨Tryz.f42.ntmps, frL [(0, .pub (zO a)), (1, .pub (zO b)), (5, I (k.1 : Int))], []⟩) (fun k => a.length - k.1) (⟨0, by simp⟩) ?_ ?_
 ·
  exact zt _ ⟨rfl, rfl, rfl, trivial⟩ (rfl)
 ·
  rintro ⟨k, hk⟩
  dsimp only
  refine zl (zl (zh (zg rfl rfl (zi rfl rfl) (zg rfl rfl (zq rfl rfl) (zg rfl rfl (qh rfl rfl rfl Tryz.underlying23) (zg rfl rfl (qi rfl rfl rfl) (zg rfl rfl (zi rfl rfl) (zk rfl rfl rfl (fun hg => zi rfl rfl) (zk rfl rfl rfl (fun hg => zq rfl rfl) (zk rfl rfl rfl (fun hg => qh rfl rfl (if_pos hg) Tryz.underlying23) (zk rfl rfl rfl (fun hg => qi rfl (if_pos hg) (if_pos hg)) ?_)))))))))))
  refine zg rfl rfl (qI rfl rfl rfl rfl) (zo (zf (zx rfl (fun h_0 => ?_) (fun h_0 => ?_))))
  ·
   have hla : k < a.length := by simp [zO] at h_0; omega
   have hlb : k < b.length := by simp [zO] at h_0; omega
   refine zC (zf (zl (zB (zl ?_))))
   refine qY mixed (by kernel_rfl) rfl ?_
   refine zH rfl (zq rfl rfl) (zH rfl (zi rfl rfl) (zH rfl (zG rfl rfl rfl jv (by omega) (wu hla) jC) (zH rfl (zA rfl rfl rfl ty3) (zH rfl (zq rfl rfl) (zH rfl (zi rfl rfl) (zH rfl (zG rfl rfl rfl jv (by omega) (wu hlb) jC) (zH rfl (zA rfl rfl rfl ty3) (zH rfl (vg rfl rfl rfl) (jw (zf (zx rfl (fun h_1 => ?_) (fun h_1 => ?_))))))))))))
   ·
    have hne : a[k] ≠ b[k] := by simpa using h_1
    refine zl ?_
    refine qY mixed (by kernel_rfl) rfl ?_
    refine zH rfl (zq rfl rfl) (zH rfl (zi rfl rfl) (zH rfl (zG rfl rfl rfl jv (by omega) (wu hla) jC) (zH rfl (zA rfl rfl rfl ty3) (zH rfl (zq rfl rfl) (zH rfl (zi rfl rfl) (zH rfl (zG rfl rfl rfl jv (by omega) (wu hlb) jC) (zH rfl (zA rfl rfl rfl ty3) (zH rfl (qi rfl rfl rfl) (zH rfl (zn rfl rfl) (jw (zf ?_)))))))))))
    refine zP (qF (zQ (zQ (qF (zQ ?_)))))
    exact ⟨.inr rfl, AVle.of (by rw [zrh hk.2.2 hla hlb hne])⟩
   ·
    have heq : a[k] = b[k] := by simpa using h_1
    refine zC (zD (zf (zh (zg rfl rfl (zi rfl rfl) (zg rfl rfl (zV rfl rfl rfl ⟨(by omega), (by omega)⟩) (zg rfl rfl (zn rfl rfl) (zo ?_)))))))
    exact ⟨⟨k + 1, by omega, by omega, by rw [List.take_succ_eq_append_getElem hla, List.take_succ_eq_append_getElem hlb, hk.2.2, heq]⟩, by dsimp only; omega, zt _ ⟨rfl, rfl, rfl, trivial⟩ (rfl)⟩
  ·
   have hge : a.length <= k ∨ b.length <= k := by simp [zO] at h_0; omega
   refine qp (zL (zL (qw (zf (zl (zh (zg rfl rfl (zq rfl rfl) (zg rfl rfl (qh rfl rfl rfl Tryz.underlying23) (zg rfl rfl (zq rfl rfl) (zg rfl rfl (qh rfl rfl rfl Tryz.underlying23) (zg rfl rfl (qi rfl rfl rfl) ?_)))))))))))
   refine zg rfl rfl (zn rfl rfl) (zo (zf (zP ?_)))
   exact ⟨.inr rfl, AVle.of (by rw [zpu hk.2.2 hk.1 hk.2.1 hge]; simp [zO])⟩
theorem zqO (L : List (List Int)) (hs : L.length < 2) : ACall Tryz.prog G 91 [jc L] (jc (sortL L)) := by
 refine zS Tryz.func91 rfl (by kernel_rfl) rfl ?_
 refine zl (zh (zg rfl rfl (zn rfl rfl) (zo (zf (zl (zl (zh (zg rfl rfl (zq rfl rfl) (zg rfl rfl (qh rfl rfl rfl Tryz.underlying30) (zg rfl rfl (qi rfl rfl rfl) (zo ?_)))))))))))
 refine zf (zx rfl (fun h_0 => ?_) (fun h_0 => ?_))
 ·
  refine zl (zh (zg rfl rfl (zq rfl rfl) (zg rfl rfl (zW rfl rfl) (zo (zf (zP (zQ ?_)))))))
  exact ⟨.inr rfl, AVle.of (by rw [zqp hs])⟩
 ·
  exfalso; simp [jc] at h_0; omega
theorem f91 : ∀ (n : Nat) (L : List (List Int)), L.length <= n -> L.length <= 4000000 -> (∀ m ∈ L, m.length <= 1000) -> ACall Tryz.prog G 91 [jc L] (jc (sortL L)) := by
 intro n
 induction n with
 | zero => intro L h0 _ _; have : L = [] := List.eq_nil_of_length_eq_zero (by omega); subst this; exact zqO [] (by simp)
 | succ n ih =>
 intro L hln hL hm
 by_cases hs : L.length < 2
 exact zqO L hs
 obtain ⟨A, hA⟩ : ∃ A, A = (sortL (L.take (L.length / 2))) := ⟨_, rfl⟩
 obtain ⟨B, hB⟩ : ∃ B, B = (sortL (L.drop (L.length / 2))) := ⟨_, rfl⟩
 have hAl : A.length = L.length / 2 := by rw [hA, zgG]; simp; omega
 have hBl : B.length = L.length - L.length / 2 := by rw [hB, zgG]; simp
 have hAm : ∀ m ∈ A, m.length <= 1000 := fun m h => hm m (List.mem_of_mem_take (zb9.1 (hA ▸ h)))
 have hBm : ∀ m ∈ B, m.length <= 1000 := fun m h => hm m (List.mem_of_mem_drop (zb9.1 (hB ▸ h)))
 have hM : mrg A B = sortL L := by rw [hA, hB, zoo, List.take_append_drop]
 have hMl := zpK A B
 refine zS Tryz.func91 rfl (by kernel_rfl) rfl ?_
 refine zl (zh (zg rfl rfl (zn rfl rfl) (zo (zf (zl (zl (zh (zg rfl rfl (zq rfl rfl) (zg rfl rfl (qh rfl rfl rfl Tryz.underlying30) (zg rfl rfl (qi rfl rfl rfl) (zo ?_)))))))))))
 refine zf (zx rfl (fun h_0 => ?_) (fun h_0 => ?_))
 ·
  exfalso; simp [jc] at h_0; omega
 ·
  refine zC (zf (zl ?_))
  refine qY mixed (by kernel_rfl) rfl ?_
  refine zH rfl (zq rfl rfl) (zH rfl (zq rfl rfl) (zH rfl (qh rfl rfl rfl Tryz.underlying30) ?_))
  refine zH rfl (zcj rfl rfl rfl ⟨by simp, by simp; omega, by omega⟩) ?_
  refine zH rfl (zhU rfl rfl rfl rfl zea kz (by omega) (by simp; omega) (by simp; omega)) ?_
  refine zH rfl (zy (av := [jc (L.take (L.length / 2))]) rfl ⟨congrArg (fun z => EV.pub (AV.sl z)) (zsI L), trivial⟩ (by have := ih (L.take (L.length / 2)) (by simp; omega) (by simp; omega) (fun m h => hm m (List.mem_of_mem_take h)); rw [← hA] at this; exact this)) ?_
  refine zH rfl (zq rfl rfl) (zH rfl (zq rfl rfl) (zH rfl (qh rfl rfl rfl Tryz.underlying30) ?_))
  refine zH rfl (zcj rfl rfl rfl ⟨by simp, by simp; omega, by omega⟩) ?_
  refine zH rfl (zhU rfl rfl rfl rfl zea kz (by simp; omega) (by simp; omega) (by simp)) ?_
  refine zH rfl (zy (av := [jc (L.drop (L.length / 2))]) rfl ⟨congrArg (fun z => EV.pub (AV.sl z)) (zso L), trivial⟩ (by have := ih (L.drop (L.length / 2)) (by simp; omega) (by simp; omega) (fun m h => hm m (List.mem_of_mem_drop h)); rw [← hB] at this; exact this)) ?_
  refine zH rfl (zW rfl rfl) (zH rfl (zW rfl rfl) (jw (zf (zl (zh (zg rfl rfl (zn rfl rfl) (zo (zf (zl (zh (zg rfl rfl (zn rfl rfl) ?_)))))))))))
  refine zg rfl rfl (zn rfl rfl) (zo (zf (zl (zB ?_))))
  refine qx (kG 5 rfl) ?_
  refine qy (ι := { p : Nat × Nat // (p.1 <= A.length /\ p.2 <= B.length /\ (mrg A B).drop (p.1 + p.2) = mrg (A.drop p.1) (B.drop p.2)) }) (fun p => ⟨Tryz.f91.ntmps, frL [(3, .pub (jc A)), (4, .pub (jc B)), (5, .psl 0 (p.1.1 + p.1.2)), (6, I (p.1.1 : Int)), (7, I (p.1.2 : Int))], [.row (yQ ((mrg A B).take (p.1.1 + p.1.2)))]⟩) (fun p => A.length + B.length - (p.1.1 + p.1.2)) (⟨(0, 0), by simp⟩) ?_ ?_
  ·
   exact zt _ ⟨rfl, rfl, rfl, rfl, rfl, trivial⟩ (rfl)
  ·
   rintro ⟨⟨i, k⟩, hi⟩
   dsimp only at hi ⊢
   refine zl (zl (zh (zg rfl rfl (zi rfl rfl) (zg rfl rfl (zq rfl rfl) (zg rfl rfl (qh rfl rfl rfl Tryz.underlying30) (zg rfl rfl (qi rfl rfl rfl) (zg rfl rfl (zi rfl rfl) (zk rfl rfl rfl (fun hg => zi rfl rfl) (zk rfl rfl rfl (fun hg => zq rfl rfl) (zk rfl rfl rfl (fun hg => qh rfl rfl (if_pos hg) Tryz.underlying30) (zk rfl rfl rfl (fun hg => qi rfl (if_pos hg) (if_pos hg)) ?_)))))))))))
   refine zg rfl rfl (qU rfl rfl rfl rfl) (zo (zf (zx rfl (fun h_1 => ?_) (fun h_1 => ?_))))
   ·
    have hlo : i < A.length ∨ k < B.length := by simp [jc] at h_1; omega
    refine zC (zf (zB (zl ?_)))
    refine qY mixed (by kernel_rfl) rfl ?_
    refine zH rfl (zi rfl rfl) (zH rfl (zq rfl rfl) (zH rfl (qh rfl rfl rfl Tryz.underlying30) (zH rfl (qJ rfl rfl rfl) (zH rfl (zi rfl rfl) (jm rfl (fun hg => zi rfl rfl) (jm rfl (fun hg => zq rfl rfl) (jm rfl (fun hg => qh rfl rfl (if_pos hg) Tryz.underlying30) (jm rfl (fun hg => qi rfl (if_pos hg) (if_pos hg)) (jm rfl (fun hg => zi rfl (if_pos hg)) (jm (jH rfl rfl rfl) (fun hg => zq rfl rfl) (jm (jH rfl rfl rfl) (fun hg => zi rfl rfl) ?_)))))))))))
    refine jm (jH rfl rfl rfl) (fun hg => zG rfl (if_pos hg) (if_pos hg) zea (by omega) (zdm (by simp at hg; omega)) kz) ?_
    refine jm (jH rfl rfl rfl) (fun hg => zA rfl (if_pos hg) rfl jO) (jm (jH rfl rfl rfl) (fun hg => zq rfl rfl) (jm (jH rfl rfl rfl) (fun hg => zi rfl rfl) ?_))
    refine jm (jH rfl rfl rfl) (fun hg => zG rfl (if_pos hg) (if_pos hg) zea (by omega) (zdm (by simp at hg; omega)) kz) ?_
    refine jm (jH rfl rfl rfl) (fun hg => zA rfl (if_pos hg) rfl jO) (jm (jH rfl rfl rfl) (fun hg => zy (av := [_, _]) rfl ⟨((if_pos hg)), ((if_pos hg)), trivial⟩ (f42 (A.getD i []) (B.getD k []) (Nat.le_trans (zlC hAm i) (by omega)) (Nat.le_trans (zlC hBm k) (by omega)))) (jm rfl (fun hg => qI rfl (if_pos hg) (zha hg) rfl) (zH rfl (qU rfl rfl rfl rfl) (jw (zf (zx rfl (fun h_2 => ?_) (fun h_2 => ?_)))))))
    ·
     have hb1 := zqH (by rw [zhc, zhc] at h_2; exact h_2) hlo hi.2.1
     have hdc := zbA (hi.2.2.trans (zmY hb1.1 hb1.2 hi.2.1))
     have hsn := zix hdc.2
     refine Exists.elim (mk2 (i + 1) k) (fun i2 e2 => Exists.elim e2 (fun k2 e3 => ?_))
     have e6 : i2 = i + 1 := e3.1
     have e7 : k2 = k := e3.2
     have hin2 : ((i2, k2).1 <= A.length /\ (i2, k2).2 <= B.length /\ (mrg A B).drop ((i2, k2).1 + (i2, k2).2) = mrg (A.drop (i2, k2).1) (B.drop (i2, k2).2)) := by rw [e6, e7]; exact ⟨by have := hb1.1; omega, hi.2.1, by rw [show i + 1 + k = i + k + 1 by omega]; exact hdc.1⟩
     have hmq : yQ ((mrg A B).take (i + k)) ++ [[EV.pub (zO (A.getD i []))]] = yQ ((mrg A B).take (i2 + k2)) := by rw [hsn, e6, e7, show i + 1 + k = i + k + 1 by omega]
     have hls : i2 + k2 = i + k + 1 := by omega
     refine zl (zh (zg rfl rfl (zI rfl rfl) (zg rfl rfl (zq rfl rfl) (zg rfl rfl (zi rfl rfl) (zg rfl rfl (zG rfl rfl rfl zea (by omega) (zdm hb1.1) kz) (zg rfl rfl (zA rfl rfl rfl jO) ?_))))))
     refine zg rfl rfl (qg (size := 1) (rows := [[_]]) rfl Tryz.underlying30 zmt rfl (by decide) rfl (by decide) ⟨_, _, rfl, (kQ rfl), rfl⟩ (by rfl) (by simp [ofV]) rfl (by simp)) ?_
     refine jb rfl (vS rfl rfl rfl rfl (by simp [yQ]; omega) rfl zo9 (zdu _) (by simp) (by simp; omega) (by unfold maxLen; simp; omega)) ?_
     refine zg rfl rfl (qo rfl rfl) (zo (zf (zh (zg rfl rfl (zi rfl rfl) (zg rfl rfl (zV rfl rfl rfl ⟨(by omega), (by omega)⟩) (zg rfl rfl (zn rfl rfl) (zo (zD ?_))))))))
     exact ⟨⟨(i2, k2), hin2⟩, by dsimp only; omega, zt _ ⟨rfl, rfl, congrArg (EV.psl 0) hls.symm, congrArg (fun z : Nat => I (z : Int)) e6.symm, congrArg (fun z : Nat => I (z : Int)) e7.symm, trivial⟩ (congrArg (fun z => [PO.row z]) hmq)⟩
    ·
     have hb2 := zo6 (by rw [zhc, zhc] at h_2; exact h_2) hi.2.1
     have hdc := zbA (hi.2.2.trans (zl3 hb2.1 hb2.2 hi.1))
     have hsn := zix hdc.2
     refine Exists.elim (mk2 i (k + 1)) (fun i2 e2 => Exists.elim e2 (fun k2 e3 => ?_))
     have e6 : i2 = i := e3.1
     have e7 : k2 = k + 1 := e3.2
     have hin2 : ((i2, k2).1 <= A.length /\ (i2, k2).2 <= B.length /\ (mrg A B).drop ((i2, k2).1 + (i2, k2).2) = mrg (A.drop (i2, k2).1) (B.drop (i2, k2).2)) := by rw [e6, e7]; exact ⟨hi.1, by have := hb2.1; omega, by rw [show i + (k + 1) = i + k + 1 by omega]; exact hdc.1⟩
     have hmq : yQ ((mrg A B).take (i + k)) ++ [[EV.pub (zO (B.getD k []))]] = yQ ((mrg A B).take (i2 + k2)) := by rw [hsn, e6, e7, show i + (k + 1) = i + k + 1 by omega]
     have hls : i2 + k2 = i + k + 1 := by omega
     refine zl (zh (zg rfl rfl (zI rfl rfl) (zg rfl rfl (zq rfl rfl) (zg rfl rfl (zi rfl rfl) (zg rfl rfl (zG rfl rfl rfl zea (by omega) (zdm hb2.1) kz) (zg rfl rfl (zA rfl rfl rfl jO) ?_))))))
     refine zg rfl rfl (qg (size := 1) (rows := [[_]]) rfl Tryz.underlying30 zmt rfl (by decide) rfl (by decide) ⟨_, _, rfl, (kQ rfl), rfl⟩ (by rfl) (by simp [ofV]) rfl (by simp)) ?_
     refine jb rfl (vS rfl rfl rfl rfl (by simp [yQ]; omega) rfl zo9 (zdu _) (by simp) (by simp; omega) (by unfold maxLen; simp; omega)) ?_
     refine zg rfl rfl (qo rfl rfl) (zo (zf (zh (zg rfl rfl (zi rfl rfl) (zg rfl rfl (zV rfl rfl rfl ⟨(by omega), (by omega)⟩) (zg rfl rfl (zn rfl rfl) (zo (zD ?_))))))))
     exact ⟨⟨(i2, k2), hin2⟩, by dsimp only; omega, zt _ ⟨rfl, rfl, congrArg (EV.psl 0) hls.symm, congrArg (fun z : Nat => I (z : Int)) e6.symm, congrArg (fun z : Nat => I (z : Int)) e7.symm, trivial⟩ (congrArg (fun z => [PO.row z]) hmq)⟩
   ·
    have hge : A.length <= i /\ B.length <= k := by simp [jc] at h_1; omega
    refine qp (zL (zL (qw (zf (zl (zh (zg rfl rfl (zI rfl rfl) (zg rfl rfl (qo rfl rfl) (zo (zf (zP ?_)))))))))))
    exact ⟨.inr rfl, ⟨((mrg A B).take (i + k)).map (fun m => [nums m]), congrArg (fun z => some (PO.row z)) (zgE _), by rw [List.length_map]; exact zoW (by omega), by rw [List.take_of_length_le (by omega), hM]; rfl⟩⟩
end Go.Av
end
