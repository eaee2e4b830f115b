import Derived.Test.YtaphehlgijlfeaaGreatDoorWiO
import Derived.Test.YtaphehlgijlfeaaGreatDoorWiN
import Derived.Test.YtaphehlgijlfeaaGreatDoorPlatN
import Derived.Test.YtaphehlgijlfeaaGreatDoorWiM
import Derived.Test.YtaphehlgijlfeaaGreatDoorWiQ
set_option linter.unusedVariables false
set_option linter.unusedSimpArgs false
section
namespace Go.Av
open Go.Proofs
def mrg:List (List Int) -> List (List Int) -> List (List Int)
 | [], b=>b
 | x :: a, []=>x :: a
 | x :: a, y :: b=>if ltL x y then x :: mrg a (y :: b) else y :: mrg (x :: a) b
termination_by a b=>a.length + b.length
theorem zew (a:List (List Int)):mrg a [] = a:=by cases a <;> simp [mrg]
theorem zdo:∀ (n:Nat) (a b:List (List Int)), a.length + b.length <= n -> (mrg a b).Perm (a ++ b):=by
 intro n
 induction n with
 | zero=>
  intro a b h
  have h1:a = []:=List.eq_nil_of_length_eq_zero (by omega)
  have h2:b = []:=List.eq_nil_of_length_eq_zero (by omega)
  subst h1; subst h2; simp [mrg]
 | succ n ih=>
  intro a b h
  cases a with
  | nil=>simp [mrg]
  | cons x a=>
   cases b with
   | nil=>rw [zew]; simp
   | cons y b=>
    rw [mrg]
    by_cases hc:ltL x y = true
    ·
     rw [if_pos hc]
     exact (ih a (y :: b) (by simp at h ⊢; omega)).cons x
    ·
     rw [if_neg hc]
     refine ((ih (x :: a) b (by simp at h ⊢; omega)).cons y).trans ?_
     exact (List.perm_middle (a:=y) (l₁:=x :: a) (l₂:=b)).symm
theorem zkt:∀ (n:Nat) (a b:List (List Int)), a.length + b.length <= n -> yL a -> yL b -> yL (mrg a b):=by
 intro n
 induction n with
 | zero=>
  intro a b h h1 h2
  have e1:a = []:=List.eq_nil_of_length_eq_zero (by omega)
  subst e1; simpa [mrg] using h2
 | succ n ih=>
  intro a b h h1 h2
  cases a with
  | nil=>simpa [mrg] using h2
  | cons x a=>
   cases b with
   | nil=>rw [zew]; exact h1
   | cons y b=>
    unfold yL at h1 h2 ih ⊢
    have q1:=List.pairwise_cons.1 h1
    have q2:=List.pairwise_cons.1 h2
    rw [mrg]
    by_cases hc:ltL x y = true
    ·
     rw [if_pos hc, List.pairwise_cons]
     refine ⟨fun z hz=>?_, ih a (y :: b) (by simp at h ⊢; omega) q1.2 h2⟩
     have hz':=(zdo _ a (y :: b) (Nat.le_refl _)).mem_iff.1 hz
     rcases List.mem_append.1 hz' with hz' | hz'
     ·
      exact q1.1 z hz'
     ·
      rcases List.mem_cons.1 hz' with rfl | hz'
      ·
       exact zd0 hc
      ·
       exact zaV (q2.1 z hz') (zd0 hc)
    ·
     have hc':ltL x y = false:=by simpa using hc
     rw [if_neg hc, List.pairwise_cons]
     refine ⟨fun z hz=>?_, ih (x :: a) b (by simp at h ⊢; omega) h1 q2.2⟩
     have hz':=(zdo _ (x :: a) b (Nat.le_refl _)).mem_iff.1 hz
     rcases List.mem_append.1 hz' with hz' | hz'
     ·
      rcases List.mem_cons.1 hz' with rfl | hz'
      ·
       exact hc'
      ·
       exact zaV (q1.1 z hz') hc'
     ·
      exact q2.1 z hz'
theorem zoo (a b:List (List Int)):mrg (sortL a) (sortL b) = sortL (a ++ b):=
 zdn ((zdo _ _ _ (Nat.le_refl _)).trans ((wF a).append (wF b))) (zkt _ _ _ (Nat.le_refl _) (kR a) (kR b))
theorem zpK (a b:List (List Int)):(mrg a b).length = a.length + b.length:=by rw [(zdo _ a b (Nat.le_refl _)).length_eq, List.length_append]
theorem zgG (l:List (List Int)):(sortL l).length = l.length:=(wF l).length_eq
theorem zqp {l:List (List Int)} (h:l.length < 2):sortL l = l:=(zdn (List.Perm.refl _) (by
 unfold yL
 match l, h with
 | [], _=>simp
 | [x], _=>simp)).symm
theorem zmY {A B:List (List Int)} {i k:Nat} (hi:i < A.length) (h:k = B.length ∨ ltL (A.getD i []) (B.getD k []) = true) (hk:k <= B.length):mrg (A.drop i) (B.drop k) = A.getD i [] :: mrg (A.drop (i + 1)) (B.drop k):=by
 have e:A.getD i [] = A[i]:=by simp [hi]
 rw [List.drop_eq_getElem_cons hi, e]
 by_cases hkl:k < B.length
 ·
  have e2:B.getD k [] = B[k]:=by simp [hkl]
  rw [List.drop_eq_getElem_cons hkl, mrg, if_pos]
  rcases h with h | h
  ·
   omega
  ·
   rwa [e, e2] at h
 ·
  rw [List.drop_eq_nil_of_le (show B.length <= k by omega), zew, zew]
theorem zl3 {A B:List (List Int)} {i k:Nat} (hk:k < B.length) (h:i < A.length -> ltL (A.getD i []) (B.getD k []) = false) (hi:i <= A.length):mrg (A.drop i) (B.drop k) = B.getD k [] :: mrg (A.drop i) (B.drop (k + 1)):=by
 have e:B.getD k [] = B[k]:=by simp [hk]
 rw [List.drop_eq_getElem_cons hk, e]
 by_cases hil:i < A.length
 ·
  have e2:A.getD i [] = A[i]:=by simp [hil]
  have:=h hil
  rw [e, e2] at this
  rw [List.drop_eq_getElem_cons hil, mrg, if_neg (by rw [this]; simp)]
 ·
  rw [List.drop_eq_nil_of_le (show A.length <= i by omega)]
  simp only[mrg]
theorem zbA {M T:List (List Int)} {n:Nat} {x:List Int} (h:M.drop n = x :: T):M.drop (n + 1) = T /\ M.take (n + 1) = M.take n ++ [x]:=by
 have hn:n < M.length:=by
  rcases Nat.lt_or_ge n M.length with h1 | h1
  ·
   exact h1
  ·
   rw [List.drop_eq_nil_of_le h1] at h; cases h
 rw [List.drop_eq_getElem_cons hn] at h
 injection h with h1 h2
 exact ⟨h2, by rw [List.take_succ_eq_append_getElem hn, h1]⟩
theorem zi8:∀ {a b:List Int} {k:Nat}, a.take k = b.take k -> k <= a.length -> k <= b.length -> ltL a b = ltL (a.drop k) (b.drop k):=by
  intro a
  induction a with
  | nil => intro b k _ h2 _; have : k = 0 := by simpa using h2
           subst this; simp
  | cons x a ih=>
    intro b k h h2 h3
    cases k with
    | zero=>simp
    | succ k=>
      cases b with
      | nil=>simp at h3
      | cons y b=>
        simp only[List.take_succ_cons, List.cons.injEq] at h
        obtain ⟨rfl, h⟩:=h
        simp only[List.drop_succ_cons]
        rw [← ih h (by simpa using h2) (by simpa using h3)]
        simp [ltL]
theorem zrh {a b:List Int} {k:Nat} (h:a.take k = b.take k) (ha:k < a.length) (hb:k < b.length) (hne:a[k] ≠ b[k]):ltL a b = decide (a[k] < b[k]):=by
 rw [zi8 h (by omega) (by omega), List.drop_eq_getElem_cons ha, List.drop_eq_getElem_cons hb]
 simp [ltL, hne]
theorem zpu {a b:List Int} {k:Nat} (h:a.take k = b.take k) (ha:k <= a.length) (hb:k <= b.length) (hq:a.length <= k ∨ b.length <= k):ltL a b = decide (a.length < b.length):=by
 rw [zi8 h ha hb]
 by_cases h1:a.length <= k
 ·
  rw [List.drop_eq_nil_of_le h1]
  by_cases h2:b.length <= k
  ·
   rw [List.drop_eq_nil_of_le h2]; simp [ltL]; omega
  ·
   rw [List.drop_eq_getElem_cons (show k < b.length by omega)]; simp [ltL]; omega
 ·
  have h2:b.length <= k:=by omega
  rw [List.drop_eq_nil_of_le h2, List.drop_eq_getElem_cons (show k < a.length by omega)]
  simp [ltL]; omega
end Go.Av
end
section
namespace Go.Av
open Go.Proofs
set_option maxRecDepth 100000
set_option maxHeartbeats 1000000
variable {G:Glob}
theorem zdm {L:List (List Int)} {k:Nat} (h:k < L.length):(L.map fun m=>[zO m])[k]? = some [zO (L.getD k [])]:=by simp [h]
theorem zlC {L:List (List Int)} (h:∀ m ∈ L, m.length <= 1000) (k:Nat):(L.getD k []).length <= 1000:=by
 by_cases hk:k < L.length
 ·
  rw [List.getD_eq_getElem?_getD, List.getElem?_eq_getElem hk]; exact h _ (List.getElem_mem hk)
 ·
  simp [hk]
theorem zsI (L:List (List Int)):(((L.map fun m=>[zO m]).take (((((L.map fun m=>[zO m]).length:Nat):Int) / 2)).toNat).drop (0:Int).toNat) = (L.take (L.length / 2)).map fun m=>[zO m]:=by
 rw [List.length_map]
 have:((L.length:Int) / 2).toNat = L.length / 2:=by omega
 rw [this]; simp [List.map_take]
theorem zso (L:List (List Int)):(((L.map fun m=>[zO m]).take ((((L.map fun m=>[zO m]).length:Nat):Int)).toNat).drop (((((L.map fun m=>[zO m]).length:Nat):Int) / 2)).toNat) = (L.drop (L.length / 2)).map fun m=>[zO m]:=by
 rw [List.length_map]
 have:((L.length:Int) / 2).toNat = L.length / 2:=by omega
 rw [this, Int.toNat_natCast, List.take_of_length_le (by simp), List.map_drop]
theorem mk2 (a b:Nat):∃ x y:Nat, x = a /\ y = b:=⟨a, b, rfl, rfl⟩
theorem zix {M:List (List Int)} {n:Nat} {x:List Int} (h:M.take (n + 1) = M.take n ++ [x]):yQ (M.take n) ++ [[EV.pub (zO x)]] = yQ (M.take (n + 1)):=by rw [h]; simp [yQ]; rfl
theorem zoW {M:List (List Int)} {n:Nat} (h:n <= M.length):(M.take n).length = n:=by simp; omega
theorem zqH {i k la lb:Nat} {h:Bool} (e:(((k:Int) == (lb:Int)) || (decide ((i:Int) < (la:Int)) && h)) = true) (hl:i < la ∨ k < lb) (hk:k <= lb):i < la /\ (k = lb ∨ h = true):=by
 simp at e
 rcases e with e | e
 ·
  exact ⟨by omega, .inl (by omega)⟩
 ·
  exact ⟨e.1, .inr e.2⟩
theorem zo6 {i k la lb:Nat} {h:Bool} (e:(((k:Int) == (lb:Int)) || (decide ((i:Int) < (la:Int)) && h)) = false) (hk:k <= lb):k < lb /\ (i < la -> h = false):=by
 simp at e
 exact ⟨by omega, fun hi=>by have:=e.2 hi; simpa using this⟩
theorem zhc (L:List (List Int)):(L.map fun m=>[zO m]).length = L.length:=List.length_map ..
theorem f42 (a b:List Int) (ha:a.length <= 100000) (hb:b.length <= 100000):ACall Tryz.prog G 42 [zO a, zO b] (.v (.bool (ltL a b))):=by
 refine zS Tryz.func42 Y (by kernel_rfl) Y ?_
 refine zuy (zh (zE8 (zn Y Y) (zo (zf (zuy (zuy (zh (zE8 (zn Y Y) (zo (zf (zB ?_)))))))))))
 refine qy (ι:={ k:Nat // k <= a.length /\ k <= b.length /\ a.take k = b.take k }) (fun k=>⟨Tryz.f42.ntmps, frL [(0, .pub (zO a)), (1, .pub (zO b)), (5, I (k.1:Int))], []⟩) (fun k=>a.length - k.1) (⟨0, by simp⟩) ?_ ?_
 ·
  exact zt _ ⟨Y, Y, Y, trivial⟩ (Y)
 ·
  rintro ⟨k, hk⟩
  dsimp only
  refine zuy (zuy (zh (zE8 (zi Y Y) (zE8 (zq Y Y) (zE8 (qh Y Y Y Tryz.underlying23) (zE8 (qi Y Y Y) (zE8 (zi Y Y) (zE9 Y (fun hg=>zi Y Y) (zE9 Y (fun hg=>zq Y Y) (zE9 Y (fun hg=>qh Y Y (if_pos hg) Tryz.underlying23) (zE9 Y (fun hg=>qi Y (if_pos hg) (if_pos hg)) ?_)))))))))))
  refine zE8 (qI Y Y Y Y) (zo (zf (zx Y (fun h_0=>?_) (fun h_0=>?_))))
  ·
   have hla:k < a.length:=by simp [zO] at h_0; omega
   have hlb:k < b.length:=by simp [zO] at h_0; omega
   refine zC (zf (zuy (zB (zuy ?_))))
   refine qY mixed (by kernel_rfl) Y ?_
   refine zH Y (zq Y Y) (zH Y (zi Y Y) (zH Y (zG Y Y Y jv (by omega) (wu hla) jC) (zH Y (zA Y Y Y ty3) (zH Y (zq Y Y) (zH Y (zi Y Y) (zH Y (zG Y Y Y jv (by omega) (wu hlb) jC) (zH Y (zA Y Y Y ty3) (zH Y (vg Y Y Y) (jw (zf (zx Y (fun h_1=>?_) (fun h_1=>?_))))))))))))
   ·
    have hne:a[k] ≠ b[k]:=by simpa using h_1
    refine zuy ?_
    refine qY mixed (by kernel_rfl) Y ?_
    refine zH Y (zq Y Y) (zH Y (zi Y Y) (zH Y (zG Y Y Y jv (by omega) (wu hla) jC) (zH Y (zA Y Y Y ty3) (zH Y (zq Y Y) (zH Y (zi Y Y) (zH Y (zG Y Y Y jv (by omega) (wu hlb) jC) (zH Y (zA Y Y Y ty3) (zH Y (qi Y Y Y) (zH Y (zn Y Y) (jw (zf ?_)))))))))))
    refine zP (qF (zQ (zQ (qF (zQ ?_)))))
    exact ⟨.inr Y, AVle.of (by rw [zrh hk.2.2 hla hlb hne])⟩
   ·
    have heq:a[k] = b[k]:=by simpa using h_1
    refine zC (zD (zf (zh (zE8 (zi Y Y) (zE8 (zV Y Y Y ⟨(by omega), (by omega)⟩) (zE8 (zn Y Y) (zo ?_)))))))
    exact ⟨⟨k + 1, by omega, by omega, by rw [List.take_succ_eq_append_getElem hla, List.take_succ_eq_append_getElem hlb, hk.2.2, heq]⟩, by dsimp only; omega, zt _ ⟨Y, Y, Y, trivial⟩ (Y)⟩
  ·
   have hge:a.length <= k ∨ b.length <= k:=by simp [zO] at h_0; omega
   refine qp (zL (zL (qw (zf (zuy (zh (zE8 (zq Y Y) (zE8 (qh Y Y Y Tryz.underlying23) (zE8 (zq Y Y) (zE8 (qh Y Y Y Tryz.underlying23) (zE8 (qi Y Y Y) ?_)))))))))))
   refine zE8 (zn Y Y) (zo (zf (zP ?_)))
   exact ⟨.inr Y, AVle.of (by rw [zpu hk.2.2 hk.1 hk.2.1 hge]; simp [zO])⟩
theorem zqO (L:List (List Int)) (hs:L.length < 2):ACall Tryz.prog G 91 [jc L] (jc (sortL L)):=by
 refine zS Tryz.func91 Y (by kernel_rfl) Y ?_
 refine zuy (zh (zE8 (zn Y Y) (zo (zf (zuy (zuy (zh (zE8 (zq Y Y) (zE8 (qh Y Y Y Tryz.underlying30) (zE8 (qi Y Y Y) (zo ?_)))))))))))
 refine zf (zx Y (fun h_0=>?_) (fun h_0=>?_))
 ·
  refine zuy (zh (zE8 (zq Y Y) (zE8 (zW Y Y) (zo (zf (zP (zQ ?_)))))))
  exact ⟨.inr Y, AVle.of (by rw [zqp hs])⟩
 ·
  exfalso; simp [jc] at h_0; omega
theorem f91:∀ (n:Nat) (L:List (List Int)), L.length <= n -> L.length <= 4000000 -> (∀ m ∈ L, m.length <= 1000) -> ACall Tryz.prog G 91 [jc L] (jc (sortL L)):=by
 intro n
 induction n with
 | zero=>intro L h0 _ _; have:L = []:=List.eq_nil_of_length_eq_zero (by omega); subst this; exact zqO [] (by simp)
 | succ n ih=>
 intro L hln hL hm
 by_cases hs:L.length < 2
 exact zqO L hs
 obtain ⟨A, hA⟩:∃ A, A = (sortL (L.take (L.length / 2))):=⟨_, rfl⟩
 obtain ⟨B, hB⟩:∃ B, B = (sortL (L.drop (L.length / 2))):=⟨_, rfl⟩
 have hAl:A.length = L.length / 2:=by rw [hA, zgG]; simp; omega
 have hBl:B.length = L.length - L.length / 2:=by rw [hB, zgG]; simp
 have hAm:∀ m ∈ A, m.length <= 1000:=fun m h=>hm m (List.mem_of_mem_take (zb9.1 (hA ▸ h)))
 have hBm:∀ m ∈ B, m.length <= 1000:=fun m h=>hm m (List.mem_of_mem_drop (zb9.1 (hB ▸ h)))
 have hM:mrg A B = sortL L:=by rw [hA, hB, zoo, List.take_append_drop]
 have hMl:=zpK A B
 refine zS Tryz.func91 Y (by kernel_rfl) Y ?_
 refine zuy (zh (zE8 (zn Y Y) (zo (zf (zuy (zuy (zh (zE8 (zq Y Y) (zE8 (qh Y Y Y Tryz.underlying30) (zE8 (qi Y Y Y) (zo ?_)))))))))))
 refine zf (zx Y (fun h_0=>?_) (fun h_0=>?_))
 ·
  exfalso; simp [jc] at h_0; omega
 ·
  refine zC (zf (zuy ?_))
  refine qY mixed (by kernel_rfl) Y ?_
  refine zH Y (zq Y Y) (zH Y (zq Y Y) (zH Y (qh Y Y Y Tryz.underlying30) ?_))
  refine zH Y (zcj Y Y Y ⟨by simp, by simp; omega, by omega⟩) ?_
  refine zH Y (zhU Y Y Y Y zea kz (by omega) (by simp; omega) (by simp; omega)) ?_
  refine zH Y (zy (av:=[jc (L.take (L.length / 2))]) Y ⟨congrArg (fun z=>EV.pub (AV.sl z)) (zsI L), trivial⟩ (by have:=ih (L.take (L.length / 2)) (by simp; omega) (by simp; omega) (fun m h=>hm m (List.mem_of_mem_take h)); rw [← hA] at this; exact this)) ?_
  refine zH Y (zq Y Y) (zH Y (zq Y Y) (zH Y (qh Y Y Y Tryz.underlying30) ?_))
  refine zH Y (zcj Y Y Y ⟨by simp, by simp; omega, by omega⟩) ?_
  refine zH Y (zhU Y Y Y Y zea kz (by simp; omega) (by simp; omega) (by simp)) ?_
  refine zH Y (zy (av:=[jc (L.drop (L.length / 2))]) Y ⟨congrArg (fun z=>EV.pub (AV.sl z)) (zso L), trivial⟩ (by have:=ih (L.drop (L.length / 2)) (by simp; omega) (by simp; omega) (fun m h=>hm m (List.mem_of_mem_drop h)); rw [← hB] at this; exact this)) ?_
  refine zH Y (zW Y Y) (zH Y (zW Y Y) (jw (zf (zuy (zh (zE8 (zn Y Y) (zo (zf (zuy (zh (zE8 (zn Y Y) ?_)))))))))))
  refine zE8 (zn Y Y) (zo (zf (zuy (zB ?_))))
  refine qx (kG 5 Y) ?_
  refine qy (ι:={ p:Nat × Nat // (p.1 <= A.length /\ p.2 <= B.length /\ (mrg A B).drop (p.1 + p.2) = mrg (A.drop p.1) (B.drop p.2)) }) (fun p=>⟨Tryz.f91.ntmps, frL [(3, .pub (jc A)), (4, .pub (jc B)), (5, .psl 0 (p.1.1 + p.1.2)), (6, I (p.1.1:Int)), (7, I (p.1.2:Int))], [.row (yQ ((mrg A B).take (p.1.1 + p.1.2)))]⟩) (fun p=>A.length + B.length - (p.1.1 + p.1.2)) (⟨(0, 0), by simp⟩) ?_ ?_
  ·
   exact zt _ ⟨Y, Y, Y, Y, Y, trivial⟩ (Y)
  ·
   rintro ⟨⟨i, k⟩, hi⟩
   dsimp only at hi ⊢
   refine zuy (zuy (zh (zE8 (zi Y Y) (zE8 (zq Y Y) (zE8 (qh Y Y Y Tryz.underlying30) (zE8 (qi Y Y Y) (zE8 (zi Y Y) (zE9 Y (fun hg=>zi Y Y) (zE9 Y (fun hg=>zq Y Y) (zE9 Y (fun hg=>qh Y Y (if_pos hg) Tryz.underlying30) (zE9 Y (fun hg=>qi Y (if_pos hg) (if_pos hg)) ?_)))))))))))
   refine zE8 (qU Y Y Y Y) (zo (zf (zx Y (fun h_1=>?_) (fun h_1=>?_))))
   ·
    have hlo:i < A.length ∨ k < B.length:=by simp [jc] at h_1; omega
    refine zC (zf (zB (zuy ?_)))
    refine qY mixed (by kernel_rfl) Y ?_
    refine zH Y (zi Y Y) (zH Y (zq Y Y) (zH Y (qh Y Y Y Tryz.underlying30) (zH Y (qJ Y Y Y) (zH Y (zi Y Y) (jm Y (fun hg=>zi Y Y) (jm Y (fun hg=>zq Y Y) (jm Y (fun hg=>qh Y Y (if_pos hg) Tryz.underlying30) (jm Y (fun hg=>qi Y (if_pos hg) (if_pos hg)) (jm Y (fun hg=>zi Y (if_pos hg)) (jm (jH Y Y Y) (fun hg=>zq Y Y) (jm (jH Y Y Y) (fun hg=>zi Y Y) ?_)))))))))))
    refine jm (jH Y Y Y) (fun hg=>zG Y (if_pos hg) (if_pos hg) zea (by omega) (zdm (by simp at hg; omega)) kz) ?_
    refine jm (jH Y Y Y) (fun hg=>zA Y (if_pos hg) Y jO) (jm (jH Y Y Y) (fun hg=>zq Y Y) (jm (jH Y Y Y) (fun hg=>zi Y Y) ?_))
    refine jm (jH Y Y Y) (fun hg=>zG Y (if_pos hg) (if_pos hg) zea (by omega) (zdm (by simp at hg; omega)) kz) ?_
    refine jm (jH Y Y Y) (fun hg=>zA Y (if_pos hg) Y jO) (jm (jH Y Y Y) (fun hg=>zy (av:=[_, _]) Y ⟨((if_pos hg)), ((if_pos hg)), trivial⟩ (f42 (A.getD i []) (B.getD k []) (Nat.le_trans (zlC hAm i) (by omega)) (Nat.le_trans (zlC hBm k) (by omega)))) (jm Y (fun hg=>qI Y (if_pos hg) (zha hg) Y) (zH Y (qU Y Y Y Y) (jw (zf (zx Y (fun h_2=>?_) (fun h_2=>?_)))))))
    ·
     have hb1:=zqH (by rw [zhc, zhc] at h_2; exact h_2) hlo hi.2.1
     have hdc:=zbA (hi.2.2.trans (zmY hb1.1 hb1.2 hi.2.1))
     have hsn:=zix hdc.2
     refine Exists.elim (mk2 (i + 1) k) (fun i2 e2=>Exists.elim e2 (fun k2 e3=>?_))
     have e6:i2 = i + 1:=e3.1
     have e7:k2 = k:=e3.2
     have hin2:((i2, k2).1 <= A.length /\ (i2, k2).2 <= B.length /\ (mrg A B).drop ((i2, k2).1 + (i2, k2).2) = mrg (A.drop (i2, k2).1) (B.drop (i2, k2).2)):=by rw [e6, e7]; exact ⟨by have:=hb1.1; omega, hi.2.1, by rw [show i + 1 + k = i + k + 1 by omega]; exact hdc.1⟩
     have hmq:yQ ((mrg A B).take (i + k)) ++ [[EV.pub (zO (A.getD i []))]] = yQ ((mrg A B).take (i2 + k2)):=by rw [hsn, e6, e7, show i + 1 + k = i + k + 1 by omega]
     have hls:i2 + k2 = i + k + 1:=by omega
     refine zuy (zh (zE8 (zI Y Y) (zE8 (zq Y Y) (zE8 (zi Y Y) (zE8 (zG Y Y Y zea (by omega) (zdm hb1.1) kz) (zE8 (zA Y Y Y jO) ?_))))))
     refine zE8 (qg (size:=1) (rows:=[[_]]) Y Tryz.underlying30 zmt Y (by decide) Y (by decide) ⟨_, _, Y, (kQ Y), Y⟩ (by rfl) (by simp [ofV]) Y (by simp)) ?_
     refine jb Y (vS Y Y Y Y (by simp [yQ]; omega) Y zo9 (zdu _) (by simp) (by simp; omega) (by unfold maxLen; simp; omega)) ?_
     refine zE8 (qo Y Y) (zo (zf (zh (zE8 (zi Y Y) (zE8 (zV Y Y Y ⟨(by omega), (by omega)⟩) (zE8 (zn Y Y) (zo (zD ?_))))))))
     exact ⟨⟨(i2, k2), hin2⟩, by dsimp only; omega, zt _ ⟨Y, Y, congrArg (EV.psl 0) hls.symm, congrArg (fun z:Nat=>I (z:Int)) e6.symm, congrArg (fun z:Nat=>I (z:Int)) e7.symm, trivial⟩ (congrArg (fun z=>[PO.row z]) hmq)⟩
    ·
     have hb2:=zo6 (by rw [zhc, zhc] at h_2; exact h_2) hi.2.1
     have hdc:=zbA (hi.2.2.trans (zl3 hb2.1 hb2.2 hi.1))
     have hsn:=zix hdc.2
     refine Exists.elim (mk2 i (k + 1)) (fun i2 e2=>Exists.elim e2 (fun k2 e3=>?_))
     have e6:i2 = i:=e3.1
     have e7:k2 = k + 1:=e3.2
     have hin2:((i2, k2).1 <= A.length /\ (i2, k2).2 <= B.length /\ (mrg A B).drop ((i2, k2).1 + (i2, k2).2) = mrg (A.drop (i2, k2).1) (B.drop (i2, k2).2)):=by rw [e6, e7]; exact ⟨hi.1, by have:=hb2.1; omega, by rw [show i + (k + 1) = i + k + 1 by omega]; exact hdc.1⟩
     have hmq:yQ ((mrg A B).take (i + k)) ++ [[EV.pub (zO (B.getD k []))]] = yQ ((mrg A B).take (i2 + k2)):=by rw [hsn, e6, e7, show i + (k + 1) = i + k + 1 by omega]
     have hls:i2 + k2 = i + k + 1:=by omega
     refine zuy (zh (zE8 (zI Y Y) (zE8 (zq Y Y) (zE8 (zi Y Y) (zE8 (zG Y Y Y zea (by omega) (zdm hb2.1) kz) (zE8 (zA Y Y Y jO) ?_))))))
     refine zE8 (qg (size:=1) (rows:=[[_]]) Y Tryz.underlying30 zmt Y (by decide) Y (by decide) ⟨_, _, Y, (kQ Y), Y⟩ (by rfl) (by simp [ofV]) Y (by simp)) ?_
     refine jb Y (vS Y Y Y Y (by simp [yQ]; omega) Y zo9 (zdu _) (by simp) (by simp; omega) (by unfold maxLen; simp; omega)) ?_
     refine zE8 (qo Y Y) (zo (zf (zh (zE8 (zi Y Y) (zE8 (zV Y Y Y ⟨(by omega), (by omega)⟩) (zE8 (zn Y Y) (zo (zD ?_))))))))
     exact ⟨⟨(i2, k2), hin2⟩, by dsimp only; omega, zt _ ⟨Y, Y, congrArg (EV.psl 0) hls.symm, congrArg (fun z:Nat=>I (z:Int)) e6.symm, congrArg (fun z:Nat=>I (z:Int)) e7.symm, trivial⟩ (congrArg (fun z=>[PO.row z]) hmq)⟩
   ·
    have hge:A.length <= i /\ B.length <= k:=by simp [jc] at h_1; omega
    refine qp (zL (zL (qw (zf (zuy (zh (zE8 (zI Y Y) (zE8 (qo Y Y) (zo (zf (zP ?_)))))))))))
    exact ⟨.inr Y, ⟨((mrg A B).take (i + k)).map (fun m=>[nums m]), congrArg (fun z=>some (PO.row z)) (zgE _), by rw [List.length_map]; exact zoW (by omega), by rw [List.take_of_length_le (by omega), hM]; rfl⟩⟩
theorem xX:tyIs Tryz.prog 122 true 2 = true:=by kernel_rfl
theorem wK:fldIs Tryz.prog 122 0 0 = true:=by kernel_rfl
theorem jG:fldIs Tryz.prog 122 1 1 = true:=by kernel_rfl
theorem zkY:xn Tryz.prog 122 [(0, 1), (1, 1)] [.slice none 0 0, .slice none 0 0]:=⟨_, Tryz.underlying122, by kernel_rfl, by kernel_rfl⟩
theorem zgT:(Tryz.prog.info? 122).bind (·.zero) = some (.agg #[.slice none 0 0, .slice none 0 0]):=by kernel_rfl
def prR (M:List Int) (n k:Nat):List Int:=M.take k ++ List.replicate (n - k) 0
theorem qC {M:List Int} {n k:Nat} (h:M.length = n) (hk:k <= n):(prR M n k).length = n:=by simp [prR]; omega
theorem zn1 (M:List Int) (n:Nat):prR M n 0 = List.replicate n 0:=by simp [prR]
theorem zhZ {M:List Int} {n:Nat} (h:M.length = n):prR M n n = M:=by simp [prR, ← h]
theorem zc2 {M:List Int} {n k:Nat} (h:M.length = n) (hk:k < n) {y:Int} (hy:y = M[k]'(by omega)):(prR M n k).set k y = prR M n (k + 1):=by
 subst hy
 unfold prR
 rw [List.set_append_right _ _ (by simp; omega), List.length_take, Nat.min_eq_left (by omega), Nat.sub_self]
 rw [show n - k = (n - (k + 1)) + 1 by omega, List.replicate_succ, List.set_cons_zero, List.take_succ_eq_append_getElem (show k < M.length by omega), List.append_assoc]
 rfl
theorem zoK {M:List Int} {n k j:Nat} (h:M.length = n) (hk:k <= n) (hj:j < k):(prR M n k).getD j 0 = M.getD j 0:=by
 have e:(M.take k).length = k:=by simp; omega
 simp only[prR, List.getD_eq_getElem?_getD, List.getElem?_append, List.getElem?_take, e, if_pos hj]
def jg (x:List Int × List Int):List AV:=[zO x.1, zO x.2]
theorem yB {a b:List Int} (h:b.length = a.length):(jnR a b).length = a.length:=by simp [jnR, h]
theorem jL {a b:List Int} (h:b.length = a.length):(jnW a b).length = a.length:=by simp [jnW, h]
theorem znY {a b:List Int} (h:b.length = a.length) {k:Nat} (hk:k < a.length):(jnR a b)[k]'(by rw [yB h]; exact hk) = 10 * a[k] + b[k]:=by simp [jnR]
theorem zo4 {a b:List Int} (h:b.length = a.length) {k:Nat} (hk:k < a.length):(jnW a b)[k]'(by rw [jL h]; exact hk) = a[k] + b[k]:=by simp [jnW]
theorem zaS (n:Nat):List.replicate n [I 0] = qA (List.replicate n (0:Int)):=by simp [qA]
theorem zq2 {a b:List Int × List Int} {m1 m2:Nat} (e1:m1 = a.1.length) (e2:m2 = a.2.length):[PO.row [[wZ, wZ]], .row (List.replicate m1 [I 0]), .row (List.replicate m2 [I 0]), .row [[.psl 1 m1, .psl 2 m2]]] = [.row [[wZ, wZ]], .row (qA (prR (jnR a.1 b.1) a.1.length 0)), .row (qA (prR (jnW a.2 b.2) a.2.length 0)), .row [[.psl 1 a.1.length, .psl 2 a.2.length]]]:=by
 subst e1; subst e2; rw [zn1, zn1, zaS, zaS]
theorem getD_mem {l:List Int} {j:Nat} (h:j < l.length):l.getD j 0 ∈ l:=by simp [h]
theorem zpc (c:Cod) (a b:List Int × List Int) (h1:b.1.length = a.1.length) (h2:b.2.length = a.2.length) (h3:0 < a.1.length /\ a.1.length <= 1000) (h4:0 < a.2.length /\ a.2.length <= 1000) (hb1:∀ x ∈ a.1, 0 <= x /\ x <= 100000) (hb2:∀ x ∈ b.1, 0 <= x /\ x <= 100000) (hb3:∀ x ∈ a.2, 0 <= x /\ x <= 100000) (hb4:∀ x ∈ b.2, 0 <= x /\ x <= 100000) (hy:∀ x ∈ jnW a.2 b.2, x <= c.most):ACall Tryz.prog G 90 [.agg (qK c), .agg (jg a), .agg (jg b)] (.tup [.agg (jg (jnR a.1 b.1, jnW a.2 b.2)), .v (.bool true)]):=by
 refine zS Tryz.func90 Y (by kernel_rfl) Y ?_
 refine zuy (zh (zE8 (jf Y (zY Y)) (zE8 (jf Y (zY Y)) (zE8 (jf Y (zY Y)) (jb Y (wJ Y Y zgT Y Y) (zE8 (zn Y Y) (zo (zf (zuy ?_)))))))))
 refine qx vz ?_
 refine qx vz ?_
 refine qx vz ?_
 refine wR (fun _=>True) (fun k=>match k with | 0=>.stable | 1=>.stable | 2=>.stable | 3=>.own 1 | 4=>.stable | 5=>.stable | 6=>.stable | 7=>.own 2 | 8=>.rd [1, 2] | 9=>.own 3 | 10=>.writes | _=>.here) mixed (by kernel_rfl) rfl (by kernel_rfl) trivial ?_
 refine zuC Y Y (fun m hm=>zu Y Y wK) (zuC Y Y (fun m hm=>zA Y Y Y jO) (zuC Y Y (fun m hm=>qh Y Y Y Tryz.underlying23) ?_))
 refine zgb Y Y (zaH Y Y Tryz.underlying23 ti3 Y Y Y (zs:=[.int .i64 0]) Y Y Y (by simp; omega) (by simp; omega) (by decide) Y) ?_
 refine zuC Y Y (fun m hm=>zu Y Y jG) (zuC Y Y (fun m hm=>zA Y Y Y jO) (zuC Y Y (fun m hm=>qh Y Y Y Tryz.underlying23) ?_))
 refine zgb Y Y (zaH Y Y Tryz.underlying23 ti3 Y Y Y (zs:=[.int .i64 0]) Y Y Y (by simp; omega) (by simp; omega) (by decide) Y) ?_
 refine zkx [1, 2] Y Y (fun m hm hC=>zfH (cs:=[_, _]) Y zkY Y ⟨_, _, Y, zbO Y ((hm.one 1 Y).trans Y) (by simp), ⟨_, _, Y, zbO Y ((hm.one 2 Y).trans Y) (by simp), Y⟩⟩ (by rfl) (by simp [ofV])) ?_
 refine zgb Y Y (zb1 Y zgT Y Y Y) ?_
 refine zaw Y Y (jk Y Y Y Y Y Y (zkN Y) xX (by rfl) (by rfl)) trivial ?_
 refine wQ (zf (zuy (zuy (zh (zE8 (zn Y Y) (zo (zf (zB ?_))))))))
 refine qy (ι:={ q:Nat // q <= a.1.length }) (fun q=>⟨Tryz.f90.ntmps, frL [(3, .pub (.ptr (qK c))), (4, .pub (.ptr (jg a))), (5, .pub (.ptr (jg b))), (6, .pp 0 1 0 0), (8, .pp 3 1 0 0), (9, I (q.1:Int))], [.row [[wZ, wZ]], .row (qA (prR (jnR a.1 b.1) a.1.length q.1)), .row (qA (prR (jnW a.2 b.2) a.2.length 0)), .row [[.psl 1 a.1.length, .psl 2 a.2.length]]]⟩) (fun q=>a.1.length - q.1) (⟨0, by omega⟩) ?_ ?_
 ·
  exact zt _ ⟨Y, Y, Y, Y, Y, Y, trivial⟩ (zq2 (by simp) (by simp))
 ·
  rintro ⟨q, hq⟩
  dsimp only
  refine zuy (zuy (zh (zE8 (zi Y Y) (zE8 (zu Y Y wK) (zE8 (zA Y Y Y jO) (zE8 (qh Y Y Y Tryz.underlying23) (zE8 (qi Y Y Y) (zo (zf (zx Y (fun h_0=>?_) (fun h_0=>?_)))))))))))
  ·
   have hlt:q < a.1.length:=by simpa [zO] using h_0
   have hltb:q < b.1.length:=by omega
   have v1:=hb1 _ (List.getElem_mem hlt)
   have v2:=hb2 _ (List.getElem_mem hltb)
   refine zC (zf (zuy (zB ?_)))
   refine wR (fun _=>True) (fun k=>match k with | 16=>.writes | _=>.here) mixed (by kernel_rfl) rfl (by kernel_rfl) trivial ?_
   refine zX Y Y (qE Y Y Y Y wK) (zX Y Y (zK Y Y Y Y Y Y jO) (zX Y Y (zi Y Y) (zX Y Y (zu Y Y wK) (zX Y Y (zA Y Y Y jO) (zX Y Y (zi Y Y) (zX Y Y (zG Y Y Y jv (by omega) (wu hlt) jC) (zX Y Y (zA Y Y Y ty3) (zX Y Y (zcY Y Y Y ⟨(by omega), (by omega)⟩) (zX Y Y (zu Y Y wK) (zX Y Y (zA Y Y Y jO) (zX Y Y (zi Y Y) ?_)))))))))))
   refine zX Y Y (zG Y Y Y jv (by omega) (wu hltb) jC) (zX Y Y (zA Y Y Y ty3) (zX Y Y (zV Y Y Y ⟨(by omega), (by omega)⟩) ?_))
   refine zX Y Y (qc Y Y Y Y (by rw [qm, qC (yB h1) (by omega)]) jv (by omega) (by omega) (jh _)) ?_
   refine zaw Y Y (jk (r:=[I ((prR (jnR a.1 b.1) a.1.length q).getD q 0)]) Y Y Y Y (by rw [qm, qC (yB h1) (by omega)]) (wY (by rw [qC (yB h1) (by omega)]; omega)) (jF Y) ty3 (by rfl) (by rfl)) trivial ?_
   refine wQ (zD (zf (zh (zE8 (zi Y Y) (zE8 (zV Y Y Y ⟨(by omega), (by omega)⟩) (zE8 (zn Y Y) (zo ?_)))))))
   exact ⟨⟨q + 1, by omega⟩, by dsimp only; omega, zt _ ⟨Y, Y, Y, Y, Y, Y, trivial⟩ (congrArg (fun z=>[PO.row [[wZ, wZ]], PO.row z, PO.row (qA (prR (jnW a.2 b.2) a.2.length 0)), PO.row [[.psl 1 a.1.length, .psl 2 a.2.length]]]) ((wW _ _ _ _).trans (congrArg qA (zc2 (yB h1) hlt (znY h1 hlt).symm))))⟩
  ·
   have hge:a.1.length <= q:=by simpa [zO] using h_0
   have hq2:q = a.1.length:=by omega
   refine qp (zL (zL (qw (zf (zuy (zuy (zh (zE8 (zn Y Y) (zo (zf (zB ?_)))))))))))
   refine qy (ι:={ r:Nat // r <= a.2.length /\ ∀ j, j < r -> (jnW a.2 b.2).getD j 0 <= c.most }) (fun r=>⟨Tryz.f90.ntmps, frL [(3, .pub (.ptr (qK c))), (4, .pub (.ptr (jg a))), (5, .pub (.ptr (jg b))), (6, .pp 0 1 0 0), (8, .pp 3 1 0 0), (10, I (r.1:Int))], [.row [[wZ, wZ]], .row (qA (prR (jnR a.1 b.1) a.1.length a.1.length)), .row (qA (prR (jnW a.2 b.2) a.2.length r.1)), .row [[.psl 1 a.1.length, .psl 2 a.2.length]]]⟩) (fun r=>a.2.length - r.1) (⟨0, by omega, fun j hj=>absurd hj (by omega)⟩) ?_ ?_
   ·
    exact zt _ ⟨Y, Y, Y, Y, Y, Y, trivial⟩ ((by rw [hq2]))
   ·
    rintro ⟨r, hr⟩
    dsimp only
    refine zuy (zuy (zh (zE8 (zi Y Y) (zE8 (zu Y Y jG) (zE8 (zA Y Y Y jO) (zE8 (qh Y Y Y Tryz.underlying23) (zE8 (qi Y Y Y) (zo (zf (zx Y (fun h_1=>?_) (fun h_1=>?_)))))))))))
    ·
     have hlt:r < a.2.length:=by simpa [zO] using h_1
     have hltb:r < b.2.length:=by omega
     have v1:=hb3 _ (List.getElem_mem hlt)
     have v2:=hb4 _ (List.getElem_mem hltb)
     refine zC (zf (zuy (zB (zuy ?_))))
     refine wR (fun _=>True) (fun k=>match k with | 15=>.writes | _=>.here) mixed (by kernel_rfl) rfl (by kernel_rfl) trivial ?_
     refine zX Y Y (qE Y Y Y Y jG) (zX Y Y (zK Y Y Y Y Y Y jO) (zX Y Y (zi Y Y) (zX Y Y (zu Y Y jG) (zX Y Y (zA Y Y Y jO) (zX Y Y (zi Y Y) (zX Y Y (zG Y Y Y jv (by omega) (wu hlt) jC) (zX Y Y (zA Y Y Y ty3) (zX Y Y (zu Y Y jG) (zX Y Y (zA Y Y Y jO) (zX Y Y (zi Y Y) (zX Y Y (zG Y Y Y jv (by omega) (wu hltb) jC) ?_)))))))))))
     refine zX Y Y (zA Y Y Y ty3) (zX Y Y (zV Y Y Y ⟨(by omega), (by omega)⟩) ?_)
     refine zX Y Y (qc Y Y Y Y (by rw [qm, qC (jL h2) (by omega)]) jv (by omega) (by omega) (jh _)) ?_
     refine zaw Y Y (jk (r:=[I ((prR (jnW a.2 b.2) a.2.length r).getD r 0)]) Y Y Y Y (by rw [qm, qC (jL h2) (by omega)]) (wY (by rw [qC (jL h2) (by omega)]; omega)) (jF Y) ty3 (by rfl) (by rfl)) trivial ?_
     refine wQ (zf (zuy ?_))
     refine qx (zt (mem':=[.row [[wZ, wZ]], .row (qA (prR (jnR a.1 b.1) a.1.length a.1.length)), .row (qA (prR (jnW a.2 b.2) a.2.length (r + 1))), .row [[.psl 1 a.1.length, .psl 2 a.2.length]]]) [(3, .pub (.ptr (qK c))), (4, .pub (.ptr (jg a))), (5, .pub (.ptr (jg b))), (6, .pp 0 1 0 0), (8, .pp 3 1 0 0), (10, I (r:Int))] ?_ ?_) ?_
     ·
      exact ⟨Y, Y, Y, Y, Y, Y, trivial⟩
     ·
      exact (congrArg (fun z=>[PO.row [[wZ, wZ]], PO.row (qA (prR (jnR a.1 b.1) a.1.length a.1.length)), PO.row z, PO.row [[.psl 1 a.1.length, .psl 2 a.2.length]]]) ((wW _ _ _ _).trans (congrArg qA (zc2 (jL h2) hlt (zo4 h2 hlt).symm))))
     have hv:=zoK (M:=jnW a.2 b.2) (n:=a.2.length) (k:=r + 1) (j:=r) (jL h2) (by omega) (by omega)
     refine qY mixed (by kernel_rfl) Y ?_
     refine zH Y (qE Y Y Y Y jG) (zH Y (zK Y Y Y Y Y Y jO) (zH Y (zi Y Y) ?_))
     refine zH Y (qc Y Y Y Y (by rw [qm, qC (jL h2) (by omega)]) jv (by omega) (by omega) (jh _)) ?_
     refine zH Y (zK (c:=I ((prR (jnW a.2 b.2) a.2.length (r + 1)).getD r 0)) Y Y Y (by rw [qm, qC (jL h2) (by omega)]) (wY (by rw [qC (jL h2) (by omega)]; omega)) Y ty3) ?_
     refine zH Y (zu Y Y jZ) (zH Y (zA Y Y Y ty3) (zH Y (qR Y Y Y) (jw (zf (zx Y (fun h_2=>?_) (fun h_2=>?_))))))
     ·
      exfalso
      have:=hy _ (getD_mem (l:=jnW a.2 b.2) (j:=r) (by rw [jL h2]; exact hlt))
      rw [hv] at h_2
      simp at h_2
      simp at this
      omega
     ·
      have hnx:∀ j, j < r + 1 -> (jnW a.2 b.2).getD j 0 <= c.most:=by
       intro j hj
       by_cases e:j = r
       ·
        rw [e, ← hv]; simpa using h_2
       ·
        exact hr.2 j (by omega)
      refine zC (zD (zf (zh (zE8 (zi Y Y) (zE8 (zV Y Y Y ⟨(by omega), (by omega)⟩) (zE8 (zn Y Y) (zo ?_)))))))
      exact ⟨⟨r + 1, by omega, hnx⟩, by dsimp only; omega, zt _ ⟨Y, Y, Y, Y, Y, Y, trivial⟩ (Y)⟩
    ·
     have hge:a.2.length <= r:=by simpa [zO] using h_1
     have hr2:r = a.2.length:=by omega
     refine qp (zL (zL (qw (zf (zuy ?_)))))
     refine qx (kY (k:=1) (m:=a.1.length) (c:=3) (i:=0) (j:=0) (rows:=(prR (jnR a.1 b.1) a.1.length a.1.length).map fun n=>[AV.v (.int .i64 n)]) ?_ ?_ Y Y Y Y) ?_
     ·
      exact (congrArg (fun z=>some (PO.row z)) (yK _))
     ·
      rw [List.length_map, qC (yB h1) (by omega)]
     refine qx (kY (k:=2) (m:=a.2.length) (c:=3) (i:=0) (j:=1) (rows:=(prR (jnW a.2 b.2) a.2.length r).map fun n=>[AV.v (.int .i64 n)]) ?_ ?_ Y Y Y Y) ?_
     ·
      exact (congrArg (fun z=>some (PO.row z)) (yK _))
     ·
      rw [List.length_map, qC (jL h2) (by omega)]
     refine zh (zE8 (qN (cs:=[_, _]) Y Y Y Y Y (by exact zLb Y) Y xX) ?_)
     refine jb Y (qG Y Y Y Y Y Y (zY Y) xX (by rfl) (by exact zLb Y)) ?_
     refine zE8 (zn Y Y) (zo (zf (zP ?_)))
     exact ⟨.inr Y, ⟨_, Y, ⟨_, _, Y, (jK Y Y Y Y xX Y ⟨_, _, Y, AVle.of (by rw [zhZ (yB h1)]; rfl), ⟨_, _, Y, AVle.of (by rw [hr2, zhZ (jL h2)]; rfl), Y⟩⟩), ⟨_, _, Y, AVle.refl _, Y⟩⟩⟩⟩
theorem zrz (c:Cod) (a b:List Int × List Int) (h1:b.1.length = a.1.length) (h2:b.2.length = a.2.length) (h3:0 < a.1.length /\ a.1.length <= 1000) (h4:0 < a.2.length /\ a.2.length <= 1000) (hb1:∀ x ∈ a.1, 0 <= x /\ x <= 100000) (hb2:∀ x ∈ b.1, 0 <= x /\ x <= 100000) (hb3:∀ x ∈ a.2, 0 <= x /\ x <= 100000) (hb4:∀ x ∈ b.2, 0 <= x /\ x <= 100000) (hn:¬ ∀ x ∈ jnW a.2 b.2, x <= c.most):ACall Tryz.prog G 90 [.agg (qK c), .agg (jg a), .agg (jg b)] (.tup [.agg [.top, .top], .v (.bool false)]):=by
 refine zS Tryz.func90 Y (by kernel_rfl) Y ?_
 refine zuy (zh (zE8 (jf Y (zY Y)) (zE8 (jf Y (zY Y)) (zE8 (jf Y (zY Y)) (jb Y (wJ Y Y zgT Y Y) (zE8 (zn Y Y) (zo (zf (zuy ?_)))))))))
 refine qx vz ?_
 refine qx vz ?_
 refine qx vz ?_
 refine wR (fun _=>True) (fun k=>match k with | 0=>.stable | 1=>.stable | 2=>.stable | 3=>.own 1 | 4=>.stable | 5=>.stable | 6=>.stable | 7=>.own 2 | 8=>.rd [1, 2] | 9=>.own 3 | 10=>.writes | _=>.here) mixed (by kernel_rfl) rfl (by kernel_rfl) trivial ?_
 refine zuC Y Y (fun m hm=>zu Y Y wK) (zuC Y Y (fun m hm=>zA Y Y Y jO) (zuC Y Y (fun m hm=>qh Y Y Y Tryz.underlying23) ?_))
 refine zgb Y Y (zaH Y Y Tryz.underlying23 ti3 Y Y Y (zs:=[.int .i64 0]) Y Y Y (by simp; omega) (by simp; omega) (by decide) Y) ?_
 refine zuC Y Y (fun m hm=>zu Y Y jG) (zuC Y Y (fun m hm=>zA Y Y Y jO) (zuC Y Y (fun m hm=>qh Y Y Y Tryz.underlying23) ?_))
 refine zgb Y Y (zaH Y Y Tryz.underlying23 ti3 Y Y Y (zs:=[.int .i64 0]) Y Y Y (by simp; omega) (by simp; omega) (by decide) Y) ?_
 refine zkx [1, 2] Y Y (fun m hm hC=>zfH (cs:=[_, _]) Y zkY Y ⟨_, _, Y, zbO Y ((hm.one 1 Y).trans Y) (by simp), ⟨_, _, Y, zbO Y ((hm.one 2 Y).trans Y) (by simp), Y⟩⟩ (by rfl) (by simp [ofV])) ?_
 refine zgb Y Y (zb1 Y zgT Y Y Y) ?_
 refine zaw Y Y (jk Y Y Y Y Y Y (zkN Y) xX (by rfl) (by rfl)) trivial ?_
 refine wQ (zf (zuy (zuy (zh (zE8 (zn Y Y) (zo (zf (zB ?_))))))))
 refine qy (ι:={ q:Nat // q <= a.1.length }) (fun q=>⟨Tryz.f90.ntmps, frL [(3, .pub (.ptr (qK c))), (4, .pub (.ptr (jg a))), (5, .pub (.ptr (jg b))), (6, .pp 0 1 0 0), (8, .pp 3 1 0 0), (9, I (q.1:Int))], [.row [[wZ, wZ]], .row (qA (prR (jnR a.1 b.1) a.1.length q.1)), .row (qA (prR (jnW a.2 b.2) a.2.length 0)), .row [[.psl 1 a.1.length, .psl 2 a.2.length]]]⟩) (fun q=>a.1.length - q.1) (⟨0, by omega⟩) ?_ ?_
 ·
  exact zt _ ⟨Y, Y, Y, Y, Y, Y, trivial⟩ (zq2 (by simp) (by simp))
 ·
  rintro ⟨q, hq⟩
  dsimp only
  refine zuy (zuy (zh (zE8 (zi Y Y) (zE8 (zu Y Y wK) (zE8 (zA Y Y Y jO) (zE8 (qh Y Y Y Tryz.underlying23) (zE8 (qi Y Y Y) (zo (zf (zx Y (fun h_0=>?_) (fun h_0=>?_)))))))))))
  ·
   have hlt:q < a.1.length:=by simpa [zO] using h_0
   have hltb:q < b.1.length:=by omega
   have v1:=hb1 _ (List.getElem_mem hlt)
   have v2:=hb2 _ (List.getElem_mem hltb)
   refine zC (zf (zuy (zB ?_)))
   refine wR (fun _=>True) (fun k=>match k with | 16=>.writes | _=>.here) mixed (by kernel_rfl) rfl (by kernel_rfl) trivial ?_
   refine zX Y Y (qE Y Y Y Y wK) (zX Y Y (zK Y Y Y Y Y Y jO) (zX Y Y (zi Y Y) (zX Y Y (zu Y Y wK) (zX Y Y (zA Y Y Y jO) (zX Y Y (zi Y Y) (zX Y Y (zG Y Y Y jv (by omega) (wu hlt) jC) (zX Y Y (zA Y Y Y ty3) (zX Y Y (zcY Y Y Y ⟨(by omega), (by omega)⟩) (zX Y Y (zu Y Y wK) (zX Y Y (zA Y Y Y jO) (zX Y Y (zi Y Y) ?_)))))))))))
   refine zX Y Y (zG Y Y Y jv (by omega) (wu hltb) jC) (zX Y Y (zA Y Y Y ty3) (zX Y Y (zV Y Y Y ⟨(by omega), (by omega)⟩) ?_))
   refine zX Y Y (qc Y Y Y Y (by rw [qm, qC (yB h1) (by omega)]) jv (by omega) (by omega) (jh _)) ?_
   refine zaw Y Y (jk (r:=[I ((prR (jnR a.1 b.1) a.1.length q).getD q 0)]) Y Y Y Y (by rw [qm, qC (yB h1) (by omega)]) (wY (by rw [qC (yB h1) (by omega)]; omega)) (jF Y) ty3 (by rfl) (by rfl)) trivial ?_
   refine wQ (zD (zf (zh (zE8 (zi Y Y) (zE8 (zV Y Y Y ⟨(by omega), (by omega)⟩) (zE8 (zn Y Y) (zo ?_)))))))
   exact ⟨⟨q + 1, by omega⟩, by dsimp only; omega, zt _ ⟨Y, Y, Y, Y, Y, Y, trivial⟩ (congrArg (fun z=>[PO.row [[wZ, wZ]], PO.row z, PO.row (qA (prR (jnW a.2 b.2) a.2.length 0)), PO.row [[.psl 1 a.1.length, .psl 2 a.2.length]]]) ((wW _ _ _ _).trans (congrArg qA (zc2 (yB h1) hlt (znY h1 hlt).symm))))⟩
  ·
   have hge:a.1.length <= q:=by simpa [zO] using h_0
   have hq2:q = a.1.length:=by omega
   refine qp (zL (zL (qw (zf (zuy (zuy (zh (zE8 (zn Y Y) (zo (zf (zB ?_)))))))))))
   refine qy (ι:={ r:Nat // r <= a.2.length /\ ∀ j, j < r -> (jnW a.2 b.2).getD j 0 <= c.most }) (fun r=>⟨Tryz.f90.ntmps, frL [(3, .pub (.ptr (qK c))), (4, .pub (.ptr (jg a))), (5, .pub (.ptr (jg b))), (6, .pp 0 1 0 0), (8, .pp 3 1 0 0), (10, I (r.1:Int))], [.row [[wZ, wZ]], .row (qA (prR (jnR a.1 b.1) a.1.length a.1.length)), .row (qA (prR (jnW a.2 b.2) a.2.length r.1)), .row [[.psl 1 a.1.length, .psl 2 a.2.length]]]⟩) (fun r=>a.2.length - r.1) (⟨0, by omega, fun j hj=>absurd hj (by omega)⟩) ?_ ?_
   ·
    exact zt _ ⟨Y, Y, Y, Y, Y, Y, trivial⟩ ((by rw [hq2]))
   ·
    rintro ⟨r, hr⟩
    dsimp only
    refine zuy (zuy (zh (zE8 (zi Y Y) (zE8 (zu Y Y jG) (zE8 (zA Y Y Y jO) (zE8 (qh Y Y Y Tryz.underlying23) (zE8 (qi Y Y Y) (zo (zf (zx Y (fun h_1=>?_) (fun h_1=>?_)))))))))))
    ·
     have hlt:r < a.2.length:=by simpa [zO] using h_1
     have hltb:r < b.2.length:=by omega
     have v1:=hb3 _ (List.getElem_mem hlt)
     have v2:=hb4 _ (List.getElem_mem hltb)
     refine zC (zf (zuy (zB (zuy ?_))))
     refine wR (fun _=>True) (fun k=>match k with | 15=>.writes | _=>.here) mixed (by kernel_rfl) rfl (by kernel_rfl) trivial ?_
     refine zX Y Y (qE Y Y Y Y jG) (zX Y Y (zK Y Y Y Y Y Y jO) (zX Y Y (zi Y Y) (zX Y Y (zu Y Y jG) (zX Y Y (zA Y Y Y jO) (zX Y Y (zi Y Y) (zX Y Y (zG Y Y Y jv (by omega) (wu hlt) jC) (zX Y Y (zA Y Y Y ty3) (zX Y Y (zu Y Y jG) (zX Y Y (zA Y Y Y jO) (zX Y Y (zi Y Y) (zX Y Y (zG Y Y Y jv (by omega) (wu hltb) jC) ?_)))))))))))
     refine zX Y Y (zA Y Y Y ty3) (zX Y Y (zV Y Y Y ⟨(by omega), (by omega)⟩) ?_)
     refine zX Y Y (qc Y Y Y Y (by rw [qm, qC (jL h2) (by omega)]) jv (by omega) (by omega) (jh _)) ?_
     refine zaw Y Y (jk (r:=[I ((prR (jnW a.2 b.2) a.2.length r).getD r 0)]) Y Y Y Y (by rw [qm, qC (jL h2) (by omega)]) (wY (by rw [qC (jL h2) (by omega)]; omega)) (jF Y) ty3 (by rfl) (by rfl)) trivial ?_
     refine wQ (zf (zuy ?_))
     refine qx (zt (mem':=[.row [[wZ, wZ]], .row (qA (prR (jnR a.1 b.1) a.1.length a.1.length)), .row (qA (prR (jnW a.2 b.2) a.2.length (r + 1))), .row [[.psl 1 a.1.length, .psl 2 a.2.length]]]) [(3, .pub (.ptr (qK c))), (4, .pub (.ptr (jg a))), (5, .pub (.ptr (jg b))), (6, .pp 0 1 0 0), (8, .pp 3 1 0 0), (10, I (r:Int))] ?_ ?_) ?_
     ·
      exact ⟨Y, Y, Y, Y, Y, Y, trivial⟩
     ·
      exact (congrArg (fun z=>[PO.row [[wZ, wZ]], PO.row (qA (prR (jnR a.1 b.1) a.1.length a.1.length)), PO.row z, PO.row [[.psl 1 a.1.length, .psl 2 a.2.length]]]) ((wW _ _ _ _).trans (congrArg qA (zc2 (jL h2) hlt (zo4 h2 hlt).symm))))
     have hv:=zoK (M:=jnW a.2 b.2) (n:=a.2.length) (k:=r + 1) (j:=r) (jL h2) (by omega) (by omega)
     refine qY mixed (by kernel_rfl) Y ?_
     refine zH Y (qE Y Y Y Y jG) (zH Y (zK Y Y Y Y Y Y jO) (zH Y (zi Y Y) ?_))
     refine zH Y (qc Y Y Y Y (by rw [qm, qC (jL h2) (by omega)]) jv (by omega) (by omega) (jh _)) ?_
     refine zH Y (zK (c:=I ((prR (jnW a.2 b.2) a.2.length (r + 1)).getD r 0)) Y Y Y (by rw [qm, qC (jL h2) (by omega)]) (wY (by rw [qC (jL h2) (by omega)]; omega)) Y ty3) ?_
     refine zH Y (zu Y Y jZ) (zH Y (zA Y Y Y ty3) (zH Y (qR Y Y Y) (jw (zf (zx Y (fun h_2=>?_) (fun h_2=>?_))))))
     ·
      refine zuy ?_
      refine qx (kY (k:=1) (m:=a.1.length) (c:=3) (i:=0) (j:=0) (rows:=(prR (jnR a.1 b.1) a.1.length a.1.length).map fun n=>[AV.v (.int .i64 n)]) ?_ ?_ Y Y Y Y) ?_
      ·
       exact (congrArg (fun z=>some (PO.row z)) (yK _))
      ·
       rw [List.length_map, qC (yB h1) (by omega)]
      refine qx (kY (k:=2) (m:=a.2.length) (c:=3) (i:=0) (j:=1) (rows:=(prR (jnW a.2 b.2) a.2.length (r + 1)).map fun n=>[AV.v (.int .i64 n)]) ?_ ?_ Y Y Y Y) ?_
      ·
       exact (congrArg (fun z=>some (PO.row z)) (yK _))
      ·
       rw [List.length_map, qC (jL h2) (by omega)]
      refine zh (zE8 (qN (cs:=[_, _]) Y Y Y Y Y (by exact zLb Y) Y xX) ?_)
      refine jb Y (qG Y Y Y Y Y Y (zY Y) xX (by rfl) (by exact zLb Y)) ?_
      refine zE8 (zn Y Y) (zo (zf (zP (qF (zQ (zQ (qF (zQ ?_))))))))
      exact ⟨.inr Y, ⟨_, Y, ⟨_, _, Y, (jK Y Y Y Y xX Y ⟨_, _, Y, AVle.top _, ⟨_, _, Y, AVle.top _, Y⟩⟩), ⟨_, _, Y, AVle.refl _, Y⟩⟩⟩⟩
     ·
      have hnx:∀ j, j < r + 1 -> (jnW a.2 b.2).getD j 0 <= c.most:=by
       intro j hj
       by_cases e:j = r
       ·
        rw [e, ← hv]; simpa using h_2
       ·
        exact hr.2 j (by omega)
      refine zC (zD (zf (zh (zE8 (zi Y Y) (zE8 (zV Y Y Y ⟨(by omega), (by omega)⟩) (zE8 (zn Y Y) (zo ?_)))))))
      exact ⟨⟨r + 1, by omega, hnx⟩, by dsimp only; omega, zt _ ⟨Y, Y, Y, Y, Y, Y, trivial⟩ (Y)⟩
    ·
     have hge:a.2.length <= r:=by simpa [zO] using h_1
     have hr2:r = a.2.length:=by omega
     exfalso
     apply hn
     intro x hx
     obtain ⟨j, hj, rfl⟩:=List.getElem_of_mem hx
     rw [jL h2] at hj
     have:=hr.2 j (by omega)
     simpa [jL h2, hj] using this
end Go.Av
end
section
namespace Go.Av
open Go.Proofs
def rdJ (K n j:Nat):List Int:=(List.range K).map fun p=>if K <= p + j then (n:Int) / (10 ^ (K - 1 - p):Nat) % 10 else 0
theorem zhf (K n j:Nat):(rdJ K n j).length = K:=by simp [rdJ]
theorem zsk (K n:Nat):rdJ K n 0 = List.replicate K 0:=by
 unfold rdJ
 refine List.ext_getElem (by simp) fun i h1 h2=>?_
 have:i < K:=by simpa using h1
 simp; omega
theorem zsQ (K n:Nat):rdJ K n K = ql K n:=by
 unfold rdJ ql
 refine List.map_congr_left fun p hp=>?_
 rw [if_pos (by omega)]
theorem zqF {K n j:Nat} (h:j < K):(rdJ K n j).set (K - 1 - j) ((n:Int) / (10 ^ j:Nat) % 10) = rdJ K n (j + 1):=by
 unfold rdJ
 refine List.ext_getElem (by simp) fun i h1 h2=>?_
 have hi:i < K:=by simpa using h1
 rw [List.getElem_set]
 simp only[List.getElem_map, List.getElem_range]
 by_cases e:K - 1 - j = i
 ·
  subst e
  rw [if_pos rfl, if_pos (by omega), show K - 1 - (K - 1 - j) = j by omega]
 ·
  rw [if_neg e]
  by_cases e2:K <= i + j
  ·
   rw [if_pos e2, if_pos (by omega)]
  ·
   rw [if_neg e2, if_neg (by omega)]
def smJ (n j:Nat):Int:=jB j (fun p=>(n:Int) / (10 ^ p:Nat) % 10)
theorem zm9 (n j:Nat):0 <= smJ n j /\ smJ n j <= 9 * j:=by
 unfold smJ
 induction j with
 | zero=>simp [jB]
 | succ j ih=>simp only[jB]; omega
theorem zpo {K n:Nat} (h:1 <= K /\ K <= 3):smJ n K = zjh (ql K n):=by
 have:K = 1 ∨ K = 2 ∨ K = 3:=by omega
 rcases this with rfl | rfl | rfl
 ·
  simp [smJ, jB, ql, zjh, List.range_succ]
 ·
  simp [smJ, jB, ql, zjh, List.range_succ]; omega
 ·
  simp [smJ, jB, ql, zjh, List.range_succ]; omega
theorem zp4 (n j:Nat):(n:Int) / (10 ^ j:Nat) / 10 = (n:Int) / (10 ^ (j + 1):Nat):=by
 show ((n / 10 ^ j / 10:Nat):Int) = ((n / 10 ^ (j + 1):Nat):Int)
 rw [Nat.div_div_eq_div_mul, Nat.pow_succ]
theorem zse (n j:Nat):0 <= (n:Int) / (10 ^ j:Nat) /\ (n:Int) / (10 ^ j:Nat) <= n:=by
 constructor
 ·
  exact Int.natCast_nonneg (n / 10 ^ j)
 ·
  exact Int.ofNat_le.2 (Nat.div_le_self n (10 ^ j))
theorem zlI {K n i:Nat}:0 <= vF (ql K n) i /\ vF (ql K n) i <= 9:=by
 unfold vF
 split
 ·
  exact zeu K n _ (List.getElem_mem _)
 ·
  omega
theorem zpw {K n i:Nat} (h:i < K):(ql K n).getD i 0 = vF (ql K n) i:=by
 unfold vF; rw [dif_pos (by rw [vk]; exact h)]; simp [vk, h]
theorem zqw {K n i:Nat} (hK:1 <= K /\ K <= 3) (h:K <= i):smJ n K % 10 = vF (ql K n) i:=by
 unfold vF; rw [dif_neg (by rw [vk]; omega), zpo hK]
def wsK (g:List (List UInt8)) (pz:Nat) (ds:List Int) (i:Nat):Int:=jB i (fun j=>wrN (chF g j pz, vF ds j))
def okK (c:Cod) (g:List (List UInt8)) (pz:Nat) (ds:List Int) (i:Nat):Bool:=(List.range i).all fun j=>okP c (chF g j pz, vF ds j)
theorem zc4 (c:Cod) (g:List (List UInt8)) (pz:Nat) (ds:List Int) (i:Nat):okK c g pz ds (i + 1) = (okK c g pz ds i && okP c (chF g i pz, vF ds i)):=by simp [okK, List.range_succ]
theorem zkG (g:List (List UInt8)) (pz:Nat) (ds:List Int) (i:Nat):0 <= wsK g pz ds i /\ wsK g pz ds i <= i:=by
 unfold wsK
 induction i with
 | zero=>simp [jB]
 | succ i ih=>have:=zbv (chF g i pz, vF ds i); simp only[jB]; omega
def fnK (c:Cod) (l:List (List (List UInt8))) (pz:Nat) (ds:List Int) (k:Nat):Bool:=(l.take k).all fun g=>zfW c g pz ds && decide (zbu g pz ds <= c.most)
theorem zng {c:Cod} {l:List (List (List UInt8))} {pz:Nat} {ds:List Int} {k:Nat} (h:k < l.length):fnK c l pz ds (k + 1) = (fnK c l pz ds k && (zfW c l[k] pz ds && decide (zbu l[k] pz ds <= c.most))):=by
 unfold fnK; rw [List.take_succ_eq_append_getElem h, List.all_append]; simp
theorem zlA {c:Cod} {l:List (List (List UInt8))} {pz:Nat} {ds:List Int} {k:Nat} (h:l.length <= k):fnK c l pz ds k = zdv c l pz ds:=by
 unfold fnK zdv; rw [List.take_of_length_le h]
theorem zp3 {c:Cod} {g:List (List UInt8)} {pz K n:Nat}:okK c g pz (ql K n) (K + 1) = zfW c g pz (ql K n):=by unfold okK zfW; rw [vk]
theorem zen {g:List (List UInt8)} {pz K n:Nat}:wsK g pz (ql K n) (K + 1) = zbu g pz (ql K n):=by unfold wsK zbu; rw [vk]
theorem qL (l:List (List (List UInt8))) (pz:Nat) (ds:List Int):(vX l pz ds).length = l.length:=by simp [vX]
theorem zpD {l:List (List (List UInt8))} {pz:Nat} {ds:List Int} {k:Nat} (h:k < l.length):(vX l pz ds)[k]'(by rw [qL]; exact h) = zbu l[k] pz ds:=by simp [vX]
def jV (c:Cod) (l:List (List (List UInt8))) (pz n:Nat):List (List Int × List Int):=((List.range n).filter fun n=>zdv c l pz (ql c.fields.length n)).map fun n=>(ql c.fields.length n, vX l pz (ql c.fields.length n))
theorem zdg (c:Cod) (l:List (List (List UInt8))) (pz:Nat):jV c l pz (10 ^ c.fields.length) = jl c l pz:=rfl
theorem zoP {c:Cod} {l:List (List (List UInt8))} {pz n:Nat} (h:zdv c l pz (ql c.fields.length n) = true):jV c l pz (n + 1) = jV c l pz n ++ [(ql c.fields.length n, vX l pz (ql c.fields.length n))]:=by
 unfold jV; rw [List.range_succ, List.filter_append, List.map_append]; simp [h]
theorem zpx {c:Cod} {l:List (List (List UInt8))} {pz n:Nat} (h:zdv c l pz (ql c.fields.length n) = false):jV c l pz (n + 1) = jV c l pz n:=by
 unfold jV; rw [List.range_succ, List.filter_append, List.map_append]; simp [h]
theorem zcR (c:Cod) (l:List (List (List UInt8))) (pz n:Nat):(jV c l pz n).length <= n:=by
 unfold jV; rw [List.length_map]; exact Nat.le_trans (List.length_filter_le ..) (by simp)
def jo (X:List (List Int × List Int)):List (List EV):=X.map fun x=>[EV.pub (zO x.1), EV.pub (zO x.2)]
theorem zgN (X:List (List Int × List Int)):jo X = (X.map jg).map (·.map .pub):=by simp [jo, jg]
theorem zgX (X:List (List Int × List Int)):(jo X).length = X.length:=by simp [jo]
theorem zgu (X:List (List Int × List Int)):∀ q ∈ jo X, q.length = 2:=fun q hq=>by obtain ⟨x, _, rfl⟩:=List.mem_map.1 hq; rfl
theorem zft (X:List (List Int × List Int)) (a b:List Int):jo X ++ [[EV.pub (zO a), EV.pub (zO b)]] = jo (X ++ [(a, b)]):=by simp [jo]
theorem zka {K:Nat} (h:K <= 3):10 ^ K <= 1000:=by
 have:K = 0 ∨ K = 1 ∨ K = 2 ∨ K = 3:=by omega
 rcases this with rfl | rfl | rfl | rfl <;> decide
end Go.Av
end
section
namespace Go.Av
open Go.Proofs
set_option maxRecDepth 100000
set_option maxHeartbeats 1000000
variable {G:Glob}
theorem zq6:elemIs Tryz.prog 123 122 2 48:=⟨Tryz.underlying123, Tryz.t122, _, by kernel_rfl, rfl, rfl, rfl, rfl, by decide⟩
theorem znT:Tryz.prog.info? 122 = some Tryz.t122:=by kernel_rfl
theorem ifp {α:Type} {c:Prop} [Decidable c] {a b:α} (h:c):(if c then a else b) = a:=if_pos h
theorem zlQ {l:List (List (List UInt8))} {k:Nat} (h:k < l.length):(l.map fun g=>[jD g])[k]? = some [jD (l.getD k [])]:=by simp [h]
theorem zk9 {g:List (List UInt8)} {k:Nat} (h:k < g.length):(g.map fun s=>[eS s])[k]? = some [eS (g.getD k [])]:=by simp [h]
theorem zjB {w:List UInt8} {k:Nat} (h:k < w.length):w[k]? = some (w.getD k 0):=by simp [h]
theorem znW {M:List Int} {n k:Nat} (h:M.length = n) (hk:k < n):(prR M n k).set k 0 = prR M n k:=by
 unfold prR
 rw [List.set_append_right _ _ (by simp; omega), List.length_take, Nat.min_eq_left (by omega), Nat.sub_self]
 rw [show n - k = (n - (k + 1)) + 1 by omega, List.replicate_succ, List.set_cons_zero]
theorem kW {X:List Int} {k:Nat} {w:Int} (h:k < X.length):(qA (X.set k w))[k]? = some [I w]:=by simp [qA, h]
theorem zst {X:List (List EV)} {K L n m1 m2:Nat} (e1:m1 = K) (e2:m2 = L):[PO.row X, .row (List.replicate m1 [I 0]), .row (List.replicate m2 [I 0]), .row [[.psl 1 m1, .psl 2 m2]]] = [PO.row X, .row (qA (rdJ K n 0)), .row (qA (List.replicate L 0)), .row [[.psl 1 K, .psl 2 L]]]:=by
 subst e1; subst e2; rw [zsk, zaS, zaS]
theorem toN {K j:Nat} (h:j < K):((K:Int) - 1 - (j:Int)).toNat = K - 1 - j:=by omega
theorem kD {k:Nat} (X:List (List Int × List Int)):PO.okL k (.row (jo X)):=fun r hr x hx=>by
 obtain ⟨q, _, rfl⟩:=List.mem_map.1 hr
 simp at hx
 rcases hx with rfl | rfl <;> trivial
theorem getD_in {l:List (List (List UInt8))} {k:Nat} (h:k < l.length):l.getD k [] ∈ l /\ l.getD k [] = l[k]:=by
 have e:l.getD k [] = l[k]:=by simp [h]
 exact ⟨e ▸ List.getElem_mem h, e⟩
theorem f89 (c:Cod) (l:List (List (List UInt8))) (p:Nat) (hc:jA c = true) (hl:l.length <= 3) (hl0:0 < l.length) (hcp:∀ g ∈ l, jX c g = true) (hp:p < 5):ACall Tryz.prog G 89 [.agg (qK c), qO l, ei (p:Int)] (.sl ((jl c l p).map jg)):=by
 have hcb:=wI hc
 have hpK:=zka hcb.1.2
 refine zS Tryz.func89 Y (by kernel_rfl) Y ?_
 refine zuy (zh (zE8 (jf Y (zY Y)) (zE8 (zn Y Y) (zo (zf (zuy (zh (zE8 (zn Y Y) (zo (zf (zuy ?_)))))))))))
 refine zuy (zh (zE8 (zn Y Y) (zo (zf (zB ?_)))))
 refine qy (ι:={ k:Nat // k <= c.fields.length }) (fun k=>⟨Tryz.f89.ntmps, frL [(1, .pub (qO l)), (2, I (p:Int)), (3, .pub (.ptr (qK c))), (7, I ((10 ^ k.1:Nat):Int)), (8, I (k.1:Int))], []⟩) (fun k=>c.fields.length - k.1) (⟨0, by omega⟩) ?_ ?_
 ·
  exact zt _ ⟨Y, Y, Y, Y, Y, trivial⟩ (Y)
 ·
  rintro ⟨k, hk⟩
  dsimp only
  refine zuy (zuy (zh (zE8 (zi Y Y) (zE8 (zu Y Y jS) (zE8 (zA Y Y Y zah) (zE8 (qh Y Y Y Tryz.underlying22) (zE8 (qi Y Y Y) (zo (zf (zx Y (fun h_0=>?_) (fun h_0=>?_)))))))))))
  ·
   have hlt:k < c.fields.length:=by simpa using h_0
   have hpw:=zka (K:=k) (by omega)
   have hpz:(0:Int) <= ((10 ^ k:Nat):Int) /\ ((10 ^ k:Nat):Int) <= 1000:=⟨Int.natCast_nonneg _, Int.ofNat_le.2 hpw⟩
   refine zC (zf (zuy (zB (zh (zE8 (zi Y Y) (zE8 (zcY Y Y Y ⟨Int.le_trans (by omega) (Int.mul_nonneg (by omega) hpz.1), Int.le_trans (Int.mul_le_mul_of_nonneg_left hpz.2 (by omega)) (by omega)⟩) (zE8 (zn Y Y) (zo (zD (zf (zh ?_)))))))))))
   refine zE8 (zi Y Y) (zE8 (zV Y Y Y ⟨(by omega), (by omega)⟩) (zE8 (zn Y Y) (zo ?_)))
   exact ⟨⟨k + 1, by omega⟩, by dsimp only; omega, zt _ ⟨Y, Y, Y, (congrArg I (by rw [Nat.pow_succ]; omega)), Y, trivial⟩ (Y)⟩
  ·
   have hge:c.fields.length <= k:=by simpa using h_0
   have hk2:k = c.fields.length:=by omega
   refine qp (zL (zL (qw (zf (zuy (zh (zE8 (zn Y Y) (zo (zf (zuy (zuy ?_)))))))))))
   refine zh (zE8 (zn Y Y) (zo (zf (zB ?_))))
   refine qx (kG 9 Y) ?_
   refine qy (ι:={ n:Nat // n <= 10 ^ c.fields.length }) (fun n=>⟨Tryz.f89.ntmps, frL [(1, .pub (qO l)), (2, I (p:Int)), (3, .pub (.ptr (qK c))), (7, I ((10 ^ c.fields.length:Nat):Int)), (9, .psl 0 (jV c l p n.1).length), (10, I (n.1:Int))], [.row (jo (jV c l p n.1))]⟩) (fun n=>10 ^ c.fields.length - n.1) (⟨0, Nat.zero_le _⟩) ?_ ?_
   ·
    exact zt _ ⟨Y, Y, Y, (congrArg (fun z:Nat=>I ((10 ^ z:Nat):Int)) hk2), Y, Y, trivial⟩ (Y)
   ·
    rintro ⟨n, hn⟩
    dsimp only
    refine zuy (zuy (zh (zE8 (zi Y Y) (zE8 (zi Y Y) (zE8 (qi Y Y Y) (zo (zf (zx Y (fun h_1=>?_) (fun h_1=>?_)))))))))
    ·
     have hn10:n < 10 ^ c.fields.length:=by simp only[decide_eq_true_eq] at h_1; omega
     refine zC (zf (zuy (zB (zuy ?_))))
     refine qx vz ?_
     refine qx vz ?_
     refine qx vz ?_
     refine wR (fun _=>True) (fun k=>match k with | 0=>.stable | 1=>.stable | 2=>.stable | 3=>.own 1 | 4=>.stable | 5=>.stable | 6=>.own 2 | 7=>.rd [1, 2] | 8=>.own 3 | 9=>.writes | _=>.here) mixed (by kernel_rfl) rfl (by kernel_rfl) trivial ?_
     refine zuC Y Y (fun m hm=>zu Y Y jS) (zuC Y Y (fun m hm=>zA Y Y Y zah) (zuC Y Y (fun m hm=>qh Y Y Y Tryz.underlying22) ?_))
     refine zgb Y Y (zaH Y Y Tryz.underlying23 ti3 Y Y Y (zs:=[.int .i64 0]) Y Y Y (by simp; omega) (by simp; omega) (by decide) Y) ?_
     refine zuC Y Y (fun m hm=>zq Y Y) (zuC Y Y (fun m hm=>qh Y Y Y Tryz.underlying26) ?_)
     refine zgb Y Y (zaH Y Y Tryz.underlying23 ti3 Y Y Y (zs:=[.int .i64 0]) Y Y Y (by simp; omega) (by simp; omega) (by decide) Y) ?_
     refine zkx [1, 2] Y Y (fun m hm hC=>zfH (cs:=[_, _]) Y zkY Y ⟨_, _, Y, zbO Y ((hm.one 1 Y).trans Y) (by simp), ⟨_, _, Y, zbO Y ((hm.one 2 Y).trans Y) (by simp), Y⟩⟩ (by rfl) (by simp [ofV])) ?_
     refine zgb Y Y (zb1 Y zgT Y Y Y) ?_
     refine zaw Y Y (jk Y Y Y Y Y Y (zkN Y) xX (by rfl) (by rfl)) trivial ?_
     refine wQ (zf (zuy (zh (zE8 (zi Y Y) (zE8 (zn Y Y) (zE8 (zn Y Y) (zo (zf (zuy (zuy (zh ?_)))))))))))
     refine zE8 (zu Y Y jS) (zE8 (zA Y Y Y zah) (zE8 (qh Y Y Y Tryz.underlying22) ?_))
     refine zE8 (ze5 Y Y Y ⟨by simp; omega, by simp; omega⟩) ?_
     refine zE8 (zn Y Y) (zo (zf (zB ?_)))
     refine qy (ι:={ j:Nat // j <= c.fields.length }) (fun j=>⟨Tryz.f89.ntmps, frL [(1, .pub (qO l)), (2, I (p:Int)), (3, .pub (.ptr (qK c))), (7, I ((10 ^ c.fields.length:Nat):Int)), (9, .psl 0 (jV c l p n).length), (10, I (n:Int)), (11, .pp 3 1 0 0), (12, I ((n:Int) / (10 ^ j.1:Nat))), (13, I (smJ n j.1)), (14, I ((c.fields.length:Int) - 1 - (j.1:Int)))], [.row (jo (jV c l p n)), .row (qA (rdJ c.fields.length n j.1)), .row (qA (List.replicate l.length 0)), .row [[.psl 1 c.fields.length, .psl 2 l.length]]]⟩) (fun j=>c.fields.length - j.1) (⟨0, by omega⟩) ?_ ?_
     ·
      exact zt _ ⟨Y, Y, Y, Y, Y, Y, Y, (congrArg I (by simp)), Y, (congrArg I (by simp)), trivial⟩ (zst (by simp) (by simp))
     ·
      rintro ⟨j, hj⟩
      dsimp only
      refine zuy (zuy (zh (zE8 (zi Y Y) (zE8 (zbe Y Y Y) (zo (zf (zx Y (fun h_2=>?_) (fun h_2=>?_))))))))
      ·
       have hj:j < c.fields.length:=by simp only[decide_eq_true_eq] at h_2; omega
       have hd:=zse n j
       have hsb:=zm9 n j
       refine zC (zf (zuy (zB (zh (zE8 (qE Y Y Y Y wK) (zE8 (zK Y Y Y Y Y Y jO) (zE8 (zi Y Y) (zE8 (zi Y Y) ?_))))))))
       refine zE8 (yA Y Y Y ⟨hd.1, by decide⟩) ?_
       refine zE8 (zi Y Y) (zE8 (zi Y Y) ?_)
       refine zE8 (yA Y Y Y ⟨hd.1, by decide⟩) ?_
       refine zE8 (zV Y Y Y ⟨(by omega), (by omega)⟩) (zE8 (zi Y Y) ?_)
       refine zE8 (zcj Y Y Y ⟨hd.1, Int.le_trans hd.2 (by omega), by decide⟩) ?_
       refine zE8 (qc Y Y Y Y (by rw [qm, zhf]) jv (by omega) (by omega) (jh _)) ?_
       refine jb Y (qG (r:=[I ((rdJ c.fields.length n j).getD (c.fields.length - 1 - j) 0)]) Y Y Y Y (by rw [qm, zhf]) (by rw [toN hj]; exact wY (by rw [zhf]; omega)) (jF Y) ty3 (by rfl) (by exact zLb Y)) ?_
       refine zE8 (zn Y Y) (zE8 (zn Y Y) (zo (zD (zf (zh (zE8 (zi Y Y) (zE8 (ze5 Y Y Y ⟨(by omega), (by omega)⟩) (zE8 (zn Y Y) (zo ?_)))))))))
       exact ⟨⟨j + 1, by omega⟩, by dsimp only; omega, zt _ ⟨Y, Y, Y, Y, Y, Y, Y, (congrArg I (zp4 n j)), Y, (congrArg I (show (c.fields.length:Int) - 1 - (j:Int) - 1 = (c.fields.length:Int) - 1 - ((j + 1:Nat):Int) by omega)), trivial⟩ (congrArg (fun z=>[PO.row (jo (jV c l p n)), PO.row z, PO.row (qA (List.replicate l.length 0)), PO.row [[.psl 1 c.fields.length, .psl 2 l.length]]]) ((wW _ _ _ _).trans (congrArg qA (by rw [toN hj]; exact zqF hj))))⟩
      ·
       have hj2:j = c.fields.length:=by simp only[decide_eq_false_iff_not] at h_2; omega
       refine qp (zL (zL (qw (zf (zuy (zh (zE8 (zn Y Y) (zo (zf (zuy (zuy ?_)))))))))))
       refine zh (zE8 (zn Y Y) (zo (zf (zB ?_))))
       refine qy (ι:={ kk:Nat // kk <= l.length }) (fun kk=>⟨Tryz.f89.ntmps, frL [(1, .pub (qO l)), (2, I (p:Int)), (3, .pub (.ptr (qK c))), (7, I ((10 ^ c.fields.length:Nat):Int)), (9, .psl 0 (jV c l p n).length), (10, I (n:Int)), (11, .pp 3 1 0 0), (13, I (smJ n c.fields.length)), (15, B (fnK c l p (ql c.fields.length n) kk.1)), (16, I (kk.1:Int))], [.row (jo (jV c l p n)), .row (qA (ql c.fields.length n)), .row (qA (prR (vX l p (ql c.fields.length n)) l.length kk.1)), .row [[.psl 1 c.fields.length, .psl 2 l.length]]]⟩) (fun kk=>l.length - kk.1) (⟨0, by omega⟩) ?_ ?_
       ·
        exact zt _ ⟨Y, Y, Y, Y, Y, Y, Y, (congrArg (fun z=>I (smJ n z)) hj2), Y, Y, trivial⟩ ((by rw [hj2, zsQ, zn1]))
       ·
        rintro ⟨kk, hkk⟩
        dsimp only
        refine zuy (zuy (zh (zE8 (zi Y Y) (zE8 (zq Y Y) (zE8 (qh Y Y Y Tryz.underlying26) (zE8 (qi Y Y Y) (zo (zf (zx Y (fun h_3=>?_) (fun h_3=>?_))))))))))
        ·
         have hkk:kk < l.length:=by simpa [qO] using h_3
         have hgi:=getD_in hkk
         have hcg:=hcp _ hgi.1
         refine zC (zf (zuy (zB (zuy (zuy (zh (zE8 (zn Y Y) (zo (zf (zB ?_))))))))))
         refine qy (ι:={ i:Nat // i <= c.fields.length + 1 }) (fun i=>⟨Tryz.f89.ntmps, frL [(1, .pub (qO l)), (2, I (p:Int)), (3, .pub (.ptr (qK c))), (7, I ((10 ^ c.fields.length:Nat):Int)), (9, .psl 0 (jV c l p n).length), (10, I (n:Int)), (11, .pp 3 1 0 0), (13, I (smJ n c.fields.length)), (15, B (fnK c l p (ql c.fields.length n) kk && okK c (l.getD kk []) p (ql c.fields.length n) i.1)), (16, I (kk:Int)), (17, I (i.1:Int))], [.row (jo (jV c l p n)), .row (qA (ql c.fields.length n)), .row (qA ((prR (vX l p (ql c.fields.length n)) l.length kk).set kk (wsK (l.getD kk []) p (ql c.fields.length n) i.1))), .row [[.psl 1 c.fields.length, .psl 2 l.length]]]⟩) (fun i=>c.fields.length + 1 - i.1) (⟨0, by omega⟩) ?_ ?_
         ·
          exact zt _ ⟨Y, Y, Y, Y, Y, Y, Y, Y, (congrArg B (by simp [okK])), Y, Y, trivial⟩ (congrArg (fun z=>[PO.row (jo (jV c l p n)), PO.row (qA (ql c.fields.length n)), PO.row (qA z), PO.row [[.psl 1 c.fields.length, .psl 2 l.length]]]) (znW (qL ..) hkk).symm)
         ·
          rintro ⟨i, hi⟩
          dsimp only
          refine zuy (zuy (zh (zE8 (zi Y Y) (zE8 (zu Y Y jS) (zE8 (zA Y Y Y zah) (zE8 (qh Y Y Y Tryz.underlying22) (zE8 (zaq Y Y Y) (zo (zf (zx Y (fun h_4=>?_) (fun h_4=>?_)))))))))))
          ·
           have hiK:i <= c.fields.length:=by simp at h_4; omega
           have hig:i < (l.getD kk []).length:=by have:=(zdK hcg).1; omega
           have hw5:p < ((l.getD kk []).getD i []).length:=by rw [zoQ hig (fun w hw=>zcf ((zdK hcg).2 w hw))]; exact hp
           have hch:48 <= chF (l.getD kk []) i p /\ chF (l.getD kk []) i p <= 63:=by
            obtain ⟨_, _, _, h1, h2⟩:=za3 hcg hiK hp
            exact ⟨h1, h2⟩
           have hwb:=zkG (l.getD kk []) p (ql c.fields.length n) i
           have hwr:=zbv (chF (l.getD kk []) i p, vF (ql c.fields.length n) i)
           have hsb:=zm9 n c.fields.length
           refine zC (zf (zuy (zB (zuy (zh (zE8 (zi Y Y) (zE8 (yA Y Y Y ⟨(by omega), (by omega)⟩) (zE8 (zn Y Y) (zo (zf (zuy ?_)))))))))))
           refine zuy (zh (zE8 (zi Y Y) (zE8 (zu Y Y jS) (zE8 (zA Y Y Y zah) (zE8 (qh Y Y Y Tryz.underlying22) (zE8 (qi Y Y Y) (zo (zf (zx Y (fun h_5=>?_) (fun h_5=>?_))))))))))
           ·
            have hiK2:i < c.fields.length:=by simpa using h_5
            have hcd:=zpw (n:=n) hiK2
            refine zh (zE8 (qE Y Y Y Y wK) (zE8 (zK Y Y Y Y Y Y jO) (zE8 (zi Y Y) ?_)))
            refine zE8 (qc Y Y Y Y (by rw [qm, vk]) jv (by omega) (by omega) (jh _)) ?_
            refine zE8 (zK (c:=I ((ql c.fields.length n).getD i 0)) Y Y Y (by rw [qm, vk]) (wY (by rw [vk]; omega)) Y ty3) ?_
            refine zE8 (zn Y Y) (zo (zf (zuy ?_)))
            refine qx (zt (mem':=[.row (jo (jV c l p n)), .row (qA (ql c.fields.length n)), .row (qA ((prR (vX l p (ql c.fields.length n)) l.length kk).set kk (wsK (l.getD kk []) p (ql c.fields.length n) i))), .row [[.psl 1 c.fields.length, .psl 2 l.length]]]) [(1, .pub (qO l)), (2, I (p:Int)), (3, .pub (.ptr (qK c))), (7, I ((10 ^ c.fields.length:Nat):Int)), (9, .psl 0 (jV c l p n).length), (10, I (n:Int)), (11, .pp 3 1 0 0), (13, I (smJ n c.fields.length)), (15, B (fnK c l p (ql c.fields.length n) kk && okK c (l.getD kk []) p (ql c.fields.length n) i)), (16, I (kk:Int)), (17, I (i:Int)), (18, I (vF (ql c.fields.length n) i))] ?_ ?_) ?_
            ·
             exact ⟨Y, Y, Y, Y, Y, Y, Y, Y, Y, Y, Y, (congrArg I hcd), trivial⟩
            ·
             exact (Y)
            refine qY mixed (by kernel_rfl) Y ?_
            refine zH Y (zZ Y Y wH (by exact zLb Y)) (zH Y (zi Y Y) (zH Y (zq Y Y) (zH Y (zi Y Y) (zH Y (zG Y Y Y zbo (by omega) (zlQ hkk) yS) (zH Y (zA Y Y Y zfC) (zH Y (zi Y Y) (zH Y (zG Y Y Y yJ (by omega) (zk9 hig) vZ) (zH Y (zA Y Y Y ty9) (zH Y (zi Y Y) (zH Y (wC (c:=((l.getD kk []).getD i []).getD p 0) Y Y Y Tryz.underlying9 (by omega) (zjB hw5)) (zH Y (zy (av:=[_, _, _]) Y ⟨Y, Y, Y, trivial⟩ (zqM c (chF (l.getD kk []) i p) (vF (ql c.fields.length n) i) (vF (ql c.fields.length n) i) Y hc hch zlI)) ?_)))))))))))
            refine zH Y (zq Y Y) (zH Y (zN Y Y Y) (zH Y (zN Y Y Y) (zH Y (zn Y Y) (zH Y (zn Y Y) (jw (zf ?_))))))
            refine Or.elim (zrJ (fnK c l p (ql c.fields.length n) kk && okK c (l.getD kk []) p (ql c.fields.length n) i)) (fun hb=>?_) (fun hb=>?_)
            ·
             refine qx (zt (mem':=[.row (jo (jV c l p n)), .row (qA (ql c.fields.length n)), .row (qA ((prR (vX l p (ql c.fields.length n)) l.length kk).set kk (wsK (l.getD kk []) p (ql c.fields.length n) i))), .row [[.psl 1 c.fields.length, .psl 2 l.length]]]) [(1, .pub (qO l)), (2, I (p:Int)), (3, .pub (.ptr (qK c))), (7, I ((10 ^ c.fields.length:Nat):Int)), (9, .psl 0 (jV c l p n).length), (10, I (n:Int)), (11, .pp 3 1 0 0), (13, I (smJ n c.fields.length)), (15, B false), (16, I (kk:Int)), (17, I (i:Int)), (19, I (wrN (chF (l.getD kk []) i p, vF (ql c.fields.length n) i))), (20, B (okP c (chF (l.getD kk []) i p, vF (ql c.fields.length n) i)))] ?_ ?_) ?_
             ·
              exact ⟨Y, Y, Y, Y, Y, Y, Y, Y, (congrArg B hb), Y, Y, Y, Y, trivial⟩
             ·
              exact (Y)
             have he15:false = (fnK c l p (ql c.fields.length n) kk && okK c (l.getD kk []) p (ql c.fields.length n) (i + 1)):=by rw [zc4, ← Bool.and_assoc, hb]; rfl
             refine wR (fun _=>True) (fun k=>match k with | 10=>.stable | 12=>.out | 13=>.stable | 15=>.writes | 16=>.stable | _=>.here) mixed (by kernel_rfl) rfl (by kernel_rfl) trivial ?_
             refine zX Y Y (qE Y Y Y Y jG) (zX Y Y (zK Y Y Y Y Y Y jO) (zX Y Y (zi Y Y) (zX Y Y (qE Y Y Y Y jG) (zX Y Y (zK Y Y Y Y Y Y jO) (zX Y Y (zi Y Y) ?_)))))
             refine zX Y Y (qc Y Y Y Y (by rw [qm, List.length_set, qC (qL ..) (by omega)]) jv (by omega) (by omega) (jh _)) ?_
             refine zX Y Y (zK (c:=I (wsK (l.getD kk []) p (ql c.fields.length n) i)) Y Y Y (by rw [qm, List.length_set, qC (qL ..) (by omega)]) (kW (by rw [qC (qL ..) (by omega)]; omega)) Y ty3) ?_
             refine zX Y Y (zi Y Y) (zX Y Y (zV Y Y Y ⟨(by omega), (by omega)⟩) (zuC Y Y (fun m hm=>zi Y Y) (zX Y Y (zi Y Y) ?_)))
             refine znq Y Y ?_
             refine zuC Y Y (fun m hm=>zU Y Y (fun h=>absurd h (by decide)) (fun _=>rfl)) ?_
             refine zX Y Y (qc Y Y Y Y (by rw [qm, List.length_set, qC (qL ..) (by omega)]) jv (by omega) (by omega) (jh _)) ?_
             refine zaw Y Y (jk (r:=[I (wsK (l.getD kk []) p (ql c.fields.length n) i)]) Y Y Y Y (by rw [qm, List.length_set, qC (qL ..) (by omega)]) (kW (by rw [qC (qL ..) (by omega)]; omega)) (jF Y) ty3 (by rfl) (by rfl)) trivial ?_
             refine zuC Y Y (fun m hm=>zn Y Y) (wQ (zD (zf (zh (zE8 (zi Y Y) (zE8 (zV Y Y Y ⟨(by omega), (by omega)⟩) (zE8 (zn Y Y) (zo ?_))))))))
             exact ⟨⟨i + 1, by omega⟩, by dsimp only; omega, zt _ ⟨Y, Y, Y, Y, Y, Y, Y, Y, (congrArg B he15), Y, Y, trivial⟩ (congrArg (fun z=>[PO.row (jo (jV c l p n)), PO.row (qA (ql c.fields.length n)), PO.row z, PO.row [[.psl 1 c.fields.length, .psl 2 l.length]]]) ((wW _ _ _ _).trans (congrArg qA (by rw [Int.toNat_natCast, List.set_set]; rfl))))⟩
            ·
             refine qx (zt (mem':=[.row (jo (jV c l p n)), .row (qA (ql c.fields.length n)), .row (qA ((prR (vX l p (ql c.fields.length n)) l.length kk).set kk (wsK (l.getD kk []) p (ql c.fields.length n) i))), .row [[.psl 1 c.fields.length, .psl 2 l.length]]]) [(1, .pub (qO l)), (2, I (p:Int)), (3, .pub (.ptr (qK c))), (7, I ((10 ^ c.fields.length:Nat):Int)), (9, .psl 0 (jV c l p n).length), (10, I (n:Int)), (11, .pp 3 1 0 0), (13, I (smJ n c.fields.length)), (15, B true), (16, I (kk:Int)), (17, I (i:Int)), (19, I (wrN (chF (l.getD kk []) i p, vF (ql c.fields.length n) i))), (20, B (okP c (chF (l.getD kk []) i p, vF (ql c.fields.length n) i)))] ?_ ?_) ?_
             ·
              exact ⟨Y, Y, Y, Y, Y, Y, Y, Y, (congrArg B hb), Y, Y, Y, Y, trivial⟩
             ·
              exact (Y)
             have he15:okP c (chF (l.getD kk []) i p, vF (ql c.fields.length n) i) = (fnK c l p (ql c.fields.length n) kk && okK c (l.getD kk []) p (ql c.fields.length n) (i + 1)):=by rw [zc4, ← Bool.and_assoc, hb]; rfl
             refine wR (fun _=>True) (fun k=>match k with | 10=>.stable | 12=>.stable | 13=>.stable | 15=>.writes | 16=>.stable | _=>.here) mixed (by kernel_rfl) rfl (by kernel_rfl) trivial ?_
             refine zX Y Y (qE Y Y Y Y jG) (zX Y Y (zK Y Y Y Y Y Y jO) (zX Y Y (zi Y Y) (zX Y Y (qE Y Y Y Y jG) (zX Y Y (zK Y Y Y Y Y Y jO) (zX Y Y (zi Y Y) ?_)))))
             refine zX Y Y (qc Y Y Y Y (by rw [qm, List.length_set, qC (qL ..) (by omega)]) jv (by omega) (by omega) (jh _)) ?_
             refine zX Y Y (zK (c:=I (wsK (l.getD kk []) p (ql c.fields.length n) i)) Y Y Y (by rw [qm, List.length_set, qC (qL ..) (by omega)]) (kW (by rw [qC (qL ..) (by omega)]; omega)) Y ty3) ?_
             refine zX Y Y (zi Y Y) (zX Y Y (zV Y Y Y ⟨(by omega), (by omega)⟩) (zuC Y Y (fun m hm=>zi Y Y) (zX Y Y (zi Y Y) (zuC Y Y (fun m hm=>zi Y Y) ?_))))
             refine zuC Y Y (fun m hm=>zU Y Y (fun _=>rfl) (fun h=>absurd h (by decide))) ?_
             refine zX Y Y (qc Y Y Y Y (by rw [qm, List.length_set, qC (qL ..) (by omega)]) jv (by omega) (by omega) (jh _)) ?_
             refine zaw Y Y (jk (r:=[I (wsK (l.getD kk []) p (ql c.fields.length n) i)]) Y Y Y Y (by rw [qm, List.length_set, qC (qL ..) (by omega)]) (kW (by rw [qC (qL ..) (by omega)]; omega)) (jF Y) ty3 (by rfl) (by rfl)) trivial ?_
             refine zuC Y Y (fun m hm=>zn Y Y) (wQ (zD (zf (zh (zE8 (zi Y Y) (zE8 (zV Y Y Y ⟨(by omega), (by omega)⟩) (zE8 (zn Y Y) (zo ?_))))))))
             exact ⟨⟨i + 1, by omega⟩, by dsimp only; omega, zt _ ⟨Y, Y, Y, Y, Y, Y, Y, Y, (congrArg B he15), Y, Y, trivial⟩ (congrArg (fun z=>[PO.row (jo (jV c l p n)), PO.row (qA (ql c.fields.length n)), PO.row z, PO.row [[.psl 1 c.fields.length, .psl 2 l.length]]]) ((wW _ _ _ _).trans (congrArg qA (by rw [Int.toNat_natCast, List.set_set]; rfl))))⟩
           ·
            have hiK2:c.fields.length <= i:=by simpa using h_5
            have hcd:=zqw (n:=n) hcb.1 hiK2
            refine zC (zf (zuy ?_))
            refine qx (zt (mem':=[.row (jo (jV c l p n)), .row (qA (ql c.fields.length n)), .row (qA ((prR (vX l p (ql c.fields.length n)) l.length kk).set kk (wsK (l.getD kk []) p (ql c.fields.length n) i))), .row [[.psl 1 c.fields.length, .psl 2 l.length]]]) [(1, .pub (qO l)), (2, I (p:Int)), (3, .pub (.ptr (qK c))), (7, I ((10 ^ c.fields.length:Nat):Int)), (9, .psl 0 (jV c l p n).length), (10, I (n:Int)), (11, .pp 3 1 0 0), (13, I (smJ n c.fields.length)), (15, B (fnK c l p (ql c.fields.length n) kk && okK c (l.getD kk []) p (ql c.fields.length n) i)), (16, I (kk:Int)), (17, I (i:Int)), (18, I (vF (ql c.fields.length n) i))] ?_ ?_) ?_
            ·
             exact ⟨Y, Y, Y, Y, Y, Y, Y, Y, Y, Y, Y, (congrArg I hcd), trivial⟩
            ·
             exact (Y)
            refine qY mixed (by kernel_rfl) Y ?_
            refine zH Y (zZ Y Y wH (by exact zLb Y)) (zH Y (zi Y Y) (zH Y (zq Y Y) (zH Y (zi Y Y) (zH Y (zG Y Y Y zbo (by omega) (zlQ hkk) yS) (zH Y (zA Y Y Y zfC) (zH Y (zi Y Y) (zH Y (zG Y Y Y yJ (by omega) (zk9 hig) vZ) (zH Y (zA Y Y Y ty9) (zH Y (zi Y Y) (zH Y (wC (c:=((l.getD kk []).getD i []).getD p 0) Y Y Y Tryz.underlying9 (by omega) (zjB hw5)) (zH Y (zy (av:=[_, _, _]) Y ⟨Y, Y, Y, trivial⟩ (zqM c (chF (l.getD kk []) i p) (vF (ql c.fields.length n) i) (vF (ql c.fields.length n) i) Y hc hch zlI)) ?_)))))))))))
            refine zH Y (zq Y Y) (zH Y (zN Y Y Y) (zH Y (zN Y Y Y) (zH Y (zn Y Y) (zH Y (zn Y Y) (jw (zf ?_))))))
            refine Or.elim (zrJ (fnK c l p (ql c.fields.length n) kk && okK c (l.getD kk []) p (ql c.fields.length n) i)) (fun hb=>?_) (fun hb=>?_)
            ·
             refine qx (zt (mem':=[.row (jo (jV c l p n)), .row (qA (ql c.fields.length n)), .row (qA ((prR (vX l p (ql c.fields.length n)) l.length kk).set kk (wsK (l.getD kk []) p (ql c.fields.length n) i))), .row [[.psl 1 c.fields.length, .psl 2 l.length]]]) [(1, .pub (qO l)), (2, I (p:Int)), (3, .pub (.ptr (qK c))), (7, I ((10 ^ c.fields.length:Nat):Int)), (9, .psl 0 (jV c l p n).length), (10, I (n:Int)), (11, .pp 3 1 0 0), (13, I (smJ n c.fields.length)), (15, B false), (16, I (kk:Int)), (17, I (i:Int)), (19, I (wrN (chF (l.getD kk []) i p, vF (ql c.fields.length n) i))), (20, B (okP c (chF (l.getD kk []) i p, vF (ql c.fields.length n) i)))] ?_ ?_) ?_
             ·
              exact ⟨Y, Y, Y, Y, Y, Y, Y, Y, (congrArg B hb), Y, Y, Y, Y, trivial⟩
             ·
              exact (Y)
             have he15:false = (fnK c l p (ql c.fields.length n) kk && okK c (l.getD kk []) p (ql c.fields.length n) (i + 1)):=by rw [zc4, ← Bool.and_assoc, hb]; rfl
             refine wR (fun _=>True) (fun k=>match k with | 10=>.stable | 12=>.out | 13=>.stable | 15=>.writes | 16=>.stable | _=>.here) mixed (by kernel_rfl) rfl (by kernel_rfl) trivial ?_
             refine zX Y Y (qE Y Y Y Y jG) (zX Y Y (zK Y Y Y Y Y Y jO) (zX Y Y (zi Y Y) (zX Y Y (qE Y Y Y Y jG) (zX Y Y (zK Y Y Y Y Y Y jO) (zX Y Y (zi Y Y) ?_)))))
             refine zX Y Y (qc Y Y Y Y (by rw [qm, List.length_set, qC (qL ..) (by omega)]) jv (by omega) (by omega) (jh _)) ?_
             refine zX Y Y (zK (c:=I (wsK (l.getD kk []) p (ql c.fields.length n) i)) Y Y Y (by rw [qm, List.length_set, qC (qL ..) (by omega)]) (kW (by rw [qC (qL ..) (by omega)]; omega)) Y ty3) ?_
             refine zX Y Y (zi Y Y) (zX Y Y (zV Y Y Y ⟨(by omega), (by omega)⟩) (zuC Y Y (fun m hm=>zi Y Y) (zX Y Y (zi Y Y) ?_)))
             refine znq Y Y ?_
             refine zuC Y Y (fun m hm=>zU Y Y (fun h=>absurd h (by decide)) (fun _=>rfl)) ?_
             refine zX Y Y (qc Y Y Y Y (by rw [qm, List.length_set, qC (qL ..) (by omega)]) jv (by omega) (by omega) (jh _)) ?_
             refine zaw Y Y (jk (r:=[I (wsK (l.getD kk []) p (ql c.fields.length n) i)]) Y Y Y Y (by rw [qm, List.length_set, qC (qL ..) (by omega)]) (kW (by rw [qC (qL ..) (by omega)]; omega)) (jF Y) ty3 (by rfl) (by rfl)) trivial ?_
             refine zuC Y Y (fun m hm=>zn Y Y) (wQ (zD (zf (zh (zE8 (zi Y Y) (zE8 (zV Y Y Y ⟨(by omega), (by omega)⟩) (zE8 (zn Y Y) (zo ?_))))))))
             exact ⟨⟨i + 1, by omega⟩, by dsimp only; omega, zt _ ⟨Y, Y, Y, Y, Y, Y, Y, Y, (congrArg B he15), Y, Y, trivial⟩ (congrArg (fun z=>[PO.row (jo (jV c l p n)), PO.row (qA (ql c.fields.length n)), PO.row z, PO.row [[.psl 1 c.fields.length, .psl 2 l.length]]]) ((wW _ _ _ _).trans (congrArg qA (by rw [Int.toNat_natCast, List.set_set]; rfl))))⟩
            ·
             refine qx (zt (mem':=[.row (jo (jV c l p n)), .row (qA (ql c.fields.length n)), .row (qA ((prR (vX l p (ql c.fields.length n)) l.length kk).set kk (wsK (l.getD kk []) p (ql c.fields.length n) i))), .row [[.psl 1 c.fields.length, .psl 2 l.length]]]) [(1, .pub (qO l)), (2, I (p:Int)), (3, .pub (.ptr (qK c))), (7, I ((10 ^ c.fields.length:Nat):Int)), (9, .psl 0 (jV c l p n).length), (10, I (n:Int)), (11, .pp 3 1 0 0), (13, I (smJ n c.fields.length)), (15, B true), (16, I (kk:Int)), (17, I (i:Int)), (19, I (wrN (chF (l.getD kk []) i p, vF (ql c.fields.length n) i))), (20, B (okP c (chF (l.getD kk []) i p, vF (ql c.fields.length n) i)))] ?_ ?_) ?_
             ·
              exact ⟨Y, Y, Y, Y, Y, Y, Y, Y, (congrArg B hb), Y, Y, Y, Y, trivial⟩
             ·
              exact (Y)
             have he15:okP c (chF (l.getD kk []) i p, vF (ql c.fields.length n) i) = (fnK c l p (ql c.fields.length n) kk && okK c (l.getD kk []) p (ql c.fields.length n) (i + 1)):=by rw [zc4, ← Bool.and_assoc, hb]; rfl
             refine wR (fun _=>True) (fun k=>match k with | 10=>.stable | 12=>.stable | 13=>.stable | 15=>.writes | 16=>.stable | _=>.here) mixed (by kernel_rfl) rfl (by kernel_rfl) trivial ?_
             refine zX Y Y (qE Y Y Y Y jG) (zX Y Y (zK Y Y Y Y Y Y jO) (zX Y Y (zi Y Y) (zX Y Y (qE Y Y Y Y jG) (zX Y Y (zK Y Y Y Y Y Y jO) (zX Y Y (zi Y Y) ?_)))))
             refine zX Y Y (qc Y Y Y Y (by rw [qm, List.length_set, qC (qL ..) (by omega)]) jv (by omega) (by omega) (jh _)) ?_
             refine zX Y Y (zK (c:=I (wsK (l.getD kk []) p (ql c.fields.length n) i)) Y Y Y (by rw [qm, List.length_set, qC (qL ..) (by omega)]) (kW (by rw [qC (qL ..) (by omega)]; omega)) Y ty3) ?_
             refine zX Y Y (zi Y Y) (zX Y Y (zV Y Y Y ⟨(by omega), (by omega)⟩) (zuC Y Y (fun m hm=>zi Y Y) (zX Y Y (zi Y Y) (zuC Y Y (fun m hm=>zi Y Y) ?_))))
             refine zuC Y Y (fun m hm=>zU Y Y (fun _=>rfl) (fun h=>absurd h (by decide))) ?_
             refine zX Y Y (qc Y Y Y Y (by rw [qm, List.length_set, qC (qL ..) (by omega)]) jv (by omega) (by omega) (jh _)) ?_
             refine zaw Y Y (jk (r:=[I (wsK (l.getD kk []) p (ql c.fields.length n) i)]) Y Y Y Y (by rw [qm, List.length_set, qC (qL ..) (by omega)]) (kW (by rw [qC (qL ..) (by omega)]; omega)) (jF Y) ty3 (by rfl) (by rfl)) trivial ?_
             refine zuC Y Y (fun m hm=>zn Y Y) (wQ (zD (zf (zh (zE8 (zi Y Y) (zE8 (zV Y Y Y ⟨(by omega), (by omega)⟩) (zE8 (zn Y Y) (zo ?_))))))))
             exact ⟨⟨i + 1, by omega⟩, by dsimp only; omega, zt _ ⟨Y, Y, Y, Y, Y, Y, Y, Y, (congrArg B he15), Y, Y, trivial⟩ (congrArg (fun z=>[PO.row (jo (jV c l p n)), PO.row (qA (ql c.fields.length n)), PO.row z, PO.row [[.psl 1 c.fields.length, .psl 2 l.length]]]) ((wW _ _ _ _).trans (congrArg qA (by rw [Int.toNat_natCast, List.set_set]; rfl))))⟩
          ·
           have hi2:i = c.fields.length + 1:=by simp at h_4; omega
           have hwb:=zkG (l.getD kk []) p (ql c.fields.length n) i
           refine qp (zL (zL (qw (zf ?_))))
           refine qY mixed (by kernel_rfl) Y ?_
           refine zH Y (zi Y Y) (zH Y (zi Y Y) (jm Y (fun hg=>qE Y Y Y Y jG) (jm Y (fun hg=>zK Y (ifp hg) Y Y Y Y jO) (jm Y (fun hg=>zi Y Y) ?_))))
           refine jm Y (fun hg=>qc Y (ifp hg) (ifp hg) Y (by rw [qm, List.length_set, qC (qL ..) (by omega)]) jv (by omega) (by omega) (jh _)) ?_
           refine jm Y (fun hg=>zK (c:=I (wsK (l.getD kk []) p (ql c.fields.length n) i)) Y (ifp hg) Y (by rw [qm, List.length_set, qC (qL ..) (by omega)]) (kW (by rw [qC (qL ..) (by omega)]; omega)) Y ty3) ?_
           refine jm Y (fun hg=>zu Y Y jZ) (jm Y (fun hg=>zA Y (if_pos hg) Y ty3) (jm Y (fun hg=>zaq Y (if_pos hg) (if_pos hg)) (zH Y (qI Y Y Y Y) (zH Y (zn Y Y) (jw (zD (zf (zh (zE8 (zi Y Y) (zE8 (zV Y Y Y ⟨(by omega), (by omega)⟩) (zE8 (zn Y Y) ?_)))))))))))
           refine zo ?_
           exact ⟨⟨kk + 1, by omega⟩, by dsimp only; omega, zt _ ⟨Y, Y, Y, Y, Y, Y, Y, Y, (congrArg B (by rw [hi2, zp3, zen, zng hkk, ← hgi.2, Bool.and_assoc])), Y, trivial⟩ (congrArg (fun z=>[PO.row (jo (jV c l p n)), PO.row (qA (ql c.fields.length n)), PO.row (qA z), PO.row [[.psl 1 c.fields.length, .psl 2 l.length]]]) (zc2 (qL ..) hkk (by rw [zpD hkk, hi2, zen, hgi.2])))⟩
        ·
         have hge:l.length <= kk:=by simpa [qO] using h_3
         have hkk2:kk = l.length:=by omega
         refine qp (zL (zL (qw (zf (zuy (zh (zE8 (zi Y Y) (zo (zf (zx Y (fun h_6=>?_) (fun h_6=>?_)))))))))))
         ·
          have hcf:zdv c l p (ql c.fields.length n) = true:=by rw [← zlA (k:=kk) (by omega)]; exact h_6
          have hcy:=zoP hcf
          have hW:(prR (vX l p (ql c.fields.length n)) l.length kk) = vX l p (ql c.fields.length n):=by rw [hkk2, zhZ (qL ..)]
          have hrow2:jo (jV c l p n) ++ [[.pub (zO (ql c.fields.length n)), .pub (zO (prR (vX l p (ql c.fields.length n)) l.length kk))]] = jo (jV c l p (n + 1)):=by rw [hcy, ← zft, hW]
          have hlen2:(jV c l p n).length + 1 = (jV c l p (n + 1)).length:=by rw [hcy]; simp
          refine qx (kY (k:=1) (m:=c.fields.length) (c:=3) (i:=0) (j:=0) (rows:=(ql c.fields.length n).map fun n=>[AV.v (.int .i64 n)]) ?_ ?_ Y Y Y Y) ?_
          ·
           exact (congrArg (fun z=>some (PO.row z)) (yK _))
          ·
           rw [List.length_map, vk]
          refine qx (kY (k:=2) (m:=l.length) (c:=3) (i:=0) (j:=1) (rows:=(prR (vX l p (ql c.fields.length n)) l.length kk).map fun n=>[AV.v (.int .i64 n)]) ?_ ?_ Y Y Y Y) ?_
          ·
           exact (congrArg (fun z=>some (PO.row z)) (yK _))
          ·
           rw [List.length_map, qC (qL ..) (by omega)]
          refine zh (zE8 (zI Y Y) (zE8 (qN (cs:=[_, _]) Y Y Y Y Y (by exact zLb Y) Y xX) ?_))
          refine zE8 (qg (size:=2) (rows:=[[_, _]]) Y Tryz.underlying123 znT Y (by decide) Y (by decide) ⟨_, _, Y, (zY Y), Y⟩ (by rfl) (by simp [ofV]) Y (by simp)) ?_
          refine jb Y (vS Y Y Y Y (zgX _) Y zq6 (zgu _) (by simp) (by have:=zcR c l p n; simp; omega) (by have:=zcR c l p n; unfold maxLen; simp; omega)) ?_
          refine zE8 (qo Y Y) (zo (zD (zf (zh (zE8 (zi Y Y) (zE8 (zV Y Y Y ⟨(by omega), (by omega)⟩) (zE8 (zn Y Y) (zo ?_))))))))
          first | exact ⟨⟨n + 1, by omega⟩, by dsimp only; omega, Weak.trans (zt (mem':=[.row (jo (jV c l p (n + 1))), .dead, .dead, .row [[.pub (.sl ((ql c.fields.length n).map fun n=>[AV.v (.int .i64 n)])), .pub (.sl ((prR (vX l p (ql c.fields.length n)) l.length kk).map fun n=>[AV.v (.int .i64 n)]))]]]) [(1, .pub (qO l)), (2, I (p:Int)), (3, .pub (.ptr (qK c))), (7, I ((10 ^ c.fields.length:Nat):Int)), (9, .psl 0 (jV c l p (n + 1)).length), (10, I ((n + 1:Nat):Int))] ⟨rfl, rfl, rfl, rfl, congrArg (EV.psl 0) hlen2, rfl, trivial⟩ (congrArg (fun z=>[PO.row z, .dead, .dead, .row [[.pub (.sl ((ql c.fields.length n).map fun n=>[AV.v (.int .i64 n)])), .pub (.sl ((prR (vX l p (ql c.fields.length n)) l.length kk).map fun n=>[AV.v (.int .i64 n)]))]]]) hrow2)) (vO 1 ⟨trivial, trivial, trivial, trivial, (show 0 < 1 by omega), trivial, trivial⟩ ⟨kD _, trivial⟩)⟩ | exact ⟨⟨n + 1, by omega⟩, by dsimp only; omega, Weak.trans (zt (mem':=[.row (jo (jV c l p (n + 1))), .row (qA (ql c.fields.length n)), .row (qA (prR (vX l p (ql c.fields.length n)) l.length kk)), .row [[.psl 1 c.fields.length, .psl 2 l.length]]]) [(1, .pub (qO l)), (2, I (p:Int)), (3, .pub (.ptr (qK c))), (7, I ((10 ^ c.fields.length:Nat):Int)), (9, .psl 0 (jV c l p (n + 1)).length), (10, I ((n + 1:Nat):Int))] ⟨rfl, rfl, rfl, rfl, congrArg (EV.psl 0) hlen2, rfl, trivial⟩ (congrArg (fun z=>[PO.row z, .row (qA (ql c.fields.length n)), .row (qA (prR (vX l p (ql c.fields.length n)) l.length kk)), .row [[.psl 1 c.fields.length, .psl 2 l.length]]]) hrow2)) (vO 1 ⟨trivial, trivial, trivial, trivial, (show 0 < 1 by omega), trivial, trivial⟩ ⟨kD _, trivial⟩)⟩
         ·
          have hcf:zdv c l p (ql c.fields.length n) = false:=by rw [← zlA (k:=kk) (by omega)]; exact h_6
          have hcy:=zpx hcf
          have hrow2:jo (jV c l p n) = jo (jV c l p (n + 1)):=by rw [hcy]
          have hlen2:(jV c l p n).length = (jV c l p (n + 1)).length:=by rw [hcy]
          refine zC (zD (zf (zh (zE8 (zi Y Y) (zE8 (zV Y Y Y ⟨(by omega), (by omega)⟩) (zE8 (zn Y Y) (zo ?_)))))))
          first | exact ⟨⟨n + 1, by omega⟩, by dsimp only; omega, Weak.trans (zt (mem':=[.row (jo (jV c l p (n + 1))), .dead, .dead, .row [[.pub (.sl ((ql c.fields.length n).map fun n=>[AV.v (.int .i64 n)])), .pub (.sl ((prR (vX l p (ql c.fields.length n)) l.length kk).map fun n=>[AV.v (.int .i64 n)]))]]]) [(1, .pub (qO l)), (2, I (p:Int)), (3, .pub (.ptr (qK c))), (7, I ((10 ^ c.fields.length:Nat):Int)), (9, .psl 0 (jV c l p (n + 1)).length), (10, I ((n + 1:Nat):Int))] ⟨rfl, rfl, rfl, rfl, congrArg (EV.psl 0) hlen2, rfl, trivial⟩ (congrArg (fun z=>[PO.row z, .dead, .dead, .row [[.pub (.sl ((ql c.fields.length n).map fun n=>[AV.v (.int .i64 n)])), .pub (.sl ((prR (vX l p (ql c.fields.length n)) l.length kk).map fun n=>[AV.v (.int .i64 n)]))]]]) hrow2)) (vO 1 ⟨trivial, trivial, trivial, trivial, (show 0 < 1 by omega), trivial, trivial⟩ ⟨kD _, trivial⟩)⟩ | exact ⟨⟨n + 1, by omega⟩, by dsimp only; omega, Weak.trans (zt (mem':=[.row (jo (jV c l p (n + 1))), .row (qA (ql c.fields.length n)), .row (qA (prR (vX l p (ql c.fields.length n)) l.length kk)), .row [[.psl 1 c.fields.length, .psl 2 l.length]]]) [(1, .pub (qO l)), (2, I (p:Int)), (3, .pub (.ptr (qK c))), (7, I ((10 ^ c.fields.length:Nat):Int)), (9, .psl 0 (jV c l p (n + 1)).length), (10, I ((n + 1:Nat):Int))] ⟨rfl, rfl, rfl, rfl, congrArg (EV.psl 0) hlen2, rfl, trivial⟩ (congrArg (fun z=>[PO.row z, .row (qA (ql c.fields.length n)), .row (qA (prR (vX l p (ql c.fields.length n)) l.length kk)), .row [[.psl 1 c.fields.length, .psl 2 l.length]]]) hrow2)) (vO 1 ⟨trivial, trivial, trivial, trivial, (show 0 < 1 by omega), trivial, trivial⟩ ⟨kD _, trivial⟩)⟩
    ·
     have hn10:n = 10 ^ c.fields.length:=by simp only[decide_eq_false_iff_not] at h_1; omega
     refine qp (zL (zL (qw (zf (zuy (zh (zE8 (zI Y Y) (zE8 (qo Y Y) (zo (zf (zP ?_)))))))))))
     exact ⟨.inr Y, ⟨(jl c l p).map jg, by show some (PO.row _) = some (PO.row _); rw [hn10, zdg]; exact congrArg (fun z=>some (PO.row z)) (zgN _), by rw [hn10, zdg]; simp, Y⟩⟩
end Go.Av
end
section
namespace Go.Av
open Go.Proofs
def jnL (c:Cod) (a:List Int × List Int) (L:List (List Int × List Int)):List (List Int × List Int):=L.filterMap (jn c a)
def nxP (c:Cod) (A L:List (List Int × List Int)) (i:Nat):List (List Int × List Int):=(A.take i).flatMap fun a=>jnL c a L
theorem zn2 {c:Cod} {A L:List (List Int × List Int)} {i:Nat} (h:i < A.length):nxP c A L (i + 1) = nxP c A L i ++ jnL c A[i] L:=by
 unfold nxP; rw [List.take_succ_eq_append_getElem h, List.flatMap_append]; simp
theorem zpO {c:Cod} {a:List Int × List Int} {L:List (List Int × List Int)} {k:Nat} (h:k < L.length) (hy:∀ x ∈ jnW a.2 L[k].2, x <= c.most):jnL c a (L.take (k + 1)) = jnL c a (L.take k) ++ [(jnR a.1 L[k].1, jnW a.2 L[k].2)]:=by
 have e:jn c a L[k] = some (jnR a.1 L[k].1, jnW a.2 L[k].2):=by unfold jn; rw [if_pos (by simpa using hy)]
 unfold jnL; rw [List.take_succ_eq_append_getElem h, List.filterMap_append]; simp [e]
theorem zrA {c:Cod} {a:List Int × List Int} {L:List (List Int × List Int)} {k:Nat} (h:k < L.length) (hn:¬ ∀ x ∈ jnW a.2 L[k].2, x <= c.most):jnL c a (L.take (k + 1)) = jnL c a (L.take k):=by
 have e:jn c a L[k] = none:=by unfold jn; rw [if_neg (by simpa using hn)]
 unfold jnL; rw [List.take_succ_eq_append_getElem h, List.filterMap_append]; simp [e]
def zpm (c:Cod) (n:Nat) (p:Nat) (a:List Int × List Int):Prop:=a.1.length = c.fields.length /\ a.2.length = n /\ (∀ x ∈ a.1, 0 <= x /\ x < 10 ^ p) /\ ∀ x ∈ a.2, 0 <= x /\ x <= 100
theorem zpY {a b:List Int} {x:Int} (h:x ∈ jnR a b):∃ y ∈ a, ∃ z ∈ b, x = 10 * y + z:=by
 unfold jnR at h
 obtain ⟨j, hj, rfl⟩:=List.getElem_of_mem h
 simp at hj ⊢
 exact ⟨a[j], List.getElem_mem _, b[j], List.getElem_mem _, Y⟩
theorem zqf {a b:List Int} {x:Int} (h:x ∈ jnW a b):∃ y ∈ a, ∃ z ∈ b, x = y + z:=by
 unfold jnW at h
 obtain ⟨j, hj, rfl⟩:=List.getElem_of_mem h
 simp at hj ⊢
 exact ⟨a[j], List.getElem_mem _, b[j], List.getElem_mem _, Y⟩
theorem zle {c:Cod} {l:List (List (List UInt8))} {p:Nat} {b:List Int × List Int} (hc:jA c = true) (h:b ∈ jl c l p):b.1.length = c.fields.length /\ b.2.length = l.length /\ (∀ x ∈ b.1, 0 <= x /\ x <= 9) /\ ∀ x ∈ b.2, 0 <= x /\ x <= 4:=by
 have hcb:=wI hc
 unfold jl at h
 obtain ⟨n, _, rfl⟩:=List.mem_map.1 h
 refine ⟨vk _ _, by simp [vX], zeu _ _, fun x hx=>?_⟩
 obtain ⟨g, _, rfl⟩:=List.mem_map.1 hx
 have hw:=zkG g p (ql c.fields.length n) (c.fields.length + 1)
 rw [← zen]
 omega
theorem zly:∀ (M l:List Nat), l.Nodup -> (∀ x ∈ l, x ∈ M) -> l.length <= M.length
 | [], l, _, h=>by
  cases l with
  | nil=>simp
  | cons a l=>exact absurd (h a (List.mem_cons_self ..)) (by simp)
 | y :: M, l, hn, h=>by
  have h1:=zly M (l.erase y) (hn.erase y) (fun x hx=>by
   have hx2:=(List.Nodup.mem_erase_iff hn).1 hx
   exact (List.mem_cons.1 (h x hx2.2)).resolve_left hx2.1)
  have h2:l.length <= (l.erase y).length + 1:=by rw [List.length_erase]; split <;> omega
  simp only[List.length_cons]; omega
def six (a b c s:Nat):List Nat:=(List.range 10).flatMap fun y=>[100 * a + 10 * b + y, 100 * a + 10 * y + c, 100 * y + 10 * b + c, 100 * a + 10 * y + (s + 20 - a - y) % 10, 100 * y + 10 * b + (s + 20 - b - y) % 10, 100 * y + 10 * ((s + 20 - c - y) % 10) + c]
theorem zpH (a b c s:Nat):(six a b c s).length = 60:=rfl
theorem zqB {a b c s d0 d1 d2 : Nat} (h0 : d0 < 10) (h1 : d1 < 10) (h2 : d2 < 10)
    (h:(a = d0 /\ b = d1) ∨ (a = d0 /\ c = d2) ∨ (b = d1 /\ c = d2) ∨ (a = d0 /\ s = (d0 + d1 + d2) % 10) ∨ (b = d1 /\ s = (d0 + d1 + d2) % 10) ∨ (c = d2 /\ s = (d0 + d1 + d2) % 10)):100 * d0 + 10 * d1 + d2 ∈ six a b c s:=by
  unfold six
  rw [List.mem_flatMap]
  rcases h with ⟨rfl, rfl⟩ | ⟨rfl, rfl⟩ | ⟨rfl, rfl⟩ | ⟨rfl, e⟩ | ⟨rfl, e⟩ | ⟨rfl, e⟩
  · exact ⟨d2, List.mem_range.2 h2, by simp⟩
  · exact ⟨d1, List.mem_range.2 h1, by simp⟩
  · exact ⟨d0, List.mem_range.2 h0, by simp⟩
  · exact ⟨d1, List.mem_range.2 h1, by have : (s + 20 - a - d1) % 10 = d2 := by omega
                                       simp [this]⟩
  · exact ⟨d0, List.mem_range.2 h0, by have : (s + 20 - b - d0) % 10 = d2 := by omega
                                       simp [this]⟩
  · exact ⟨d0, List.mem_range.2 h0, by have : (s + 20 - c - d0) % 10 = d1 := by omega
                                       simp [this]⟩
theorem zbc {ch f:Int} (h:wrN (ch, f) = 0) (hn:ch ≠ 63):ch - 48 = f:=by
 unfold wrN at h
 split at h
 ·
  rename_i hr
  simp only[rgt, Bool.or_eq_true, decide_eq_true_eq, beq_iff_eq] at hr
  exact hr.resolve_left hn
 ·
  omega
theorem zrq {x y z w:Int} (hx:0 <= x /\ x <= 1) (hy:0 <= y /\ y <= 1) (hz:0 <= z /\ z <= 1) (hw:0 <= w /\ w <= 1) (h:x + y + z + w <= 2):(x = 0 /\ y = 0) ∨ (x = 0 /\ z = 0) ∨ (y = 0 /\ z = 0) ∨ (x = 0 /\ w = 0) ∨ (y = 0 /\ w = 0) ∨ (z = 0 /\ w = 0):=by omega
def zlt (K:Nat) (g:List (List UInt8)) (p:Nat):Prop:=∀ j, j <= K -> chF g j p ≠ 63
def zqd (c:Cod) (l:List (List (List UInt8))) (p:Nat):Nat:=(jl c l p).length
theorem zk7 (c:Cod) (hc:jA c = true) (l:List (List (List UInt8))) (p:Nat):zqd c l p <= 1000:=by
 have hcb:=wI hc
 have h:=zcR c l p (10 ^ c.fields.length)
 rw [zdg] at h
 exact Nat.le_trans h (zka hcb.1.2)
theorem zqc {c:Cod} {g:List (List UInt8)} {l:List (List (List UInt8))} {p:Nat} (hc:jA c = true) (h:zlt c.fields.length g p):zqd c (g :: l) p <= 100:=by
 have hcb:=wI hc
 have hk:=zcR c (g :: l) p (10 ^ c.fields.length)
 rw [zdg] at hk
 have hK:c.fields.length <= 2 ∨ c.fields.length = 3:=by omega
 rcases hK with hK | hK
 ·
  refine Nat.le_trans hk ?_
  have:c.fields.length = 1 ∨ c.fields.length = 2:=by omega
  rcases this with e | e <;> (rw [e]; decide)
 ·
  have hch:∀ j, j <= 3 -> chF g j p ≠ 63:=fun j hj=>h j (by omega)
  have h0:=hch 0 (by omega)
  have h1:=hch 1 (by omega)
  have h2:=hch 2 (by omega)
  have h3:=hch 3 (by omega)
  unfold zqd jl
  rw [List.length_map, hK]
  refine Nat.le_trans (zly (six (chF g 0 p - 48).toNat (chF g 1 p - 48).toNat (chF g 2 p - 48).toNat (chF g 3 p - 48).toNat) _ (List.Pairwise.filter _ (List.nodup_range (n:=10 ^ 3))) fun n hn=>?_) (by rw [zpH]; decide)
  rw [List.mem_filter, List.mem_range] at hn
  obtain ⟨hn, hf⟩:=hn
  have hf0:zbu g p (ql 3 n) <= c.most:=by
   simp only[zdv, List.all_cons, zLa, decide_eq_true_eq] at hf
   exact hf.1.2
  rw [← zen] at hf0
  have hd:=zqn n
  have e0:vF (ql 3 n) 0 = (n:Int) / 100 % 10:=by rw [hd]; rfl
  have e1:vF (ql 3 n) 1 = (n:Int) / 10 % 10:=by rw [hd]; rfl
  have e2:vF (ql 3 n) 2 = (n:Int) % 10:=by rw [hd]; rfl
  have e3:vF (ql 3 n) 3 = ((n:Int) / 100 % 10 + ((n:Int) / 10 % 10 + ((n:Int) % 10 + 0))) % 10:=by rw [hd]; rfl
  have hsum:wrN (chF g 0 p, vF (ql 3 n) 0) + wrN (chF g 1 p, vF (ql 3 n) 1) + wrN (chF g 2 p, vF (ql 3 n) 2) + wrN (chF g 3 p, vF (ql 3 n) 3) <= 2:=by
   simp only[wsK, jB] at hf0
   omega
  have ht:=zrq (zbv _) (zbv _) (zbv _) (zbv _) hsum
  have hm:=zqB (a:=(chF g 0 p - 48).toNat) (b:=(chF g 1 p - 48).toNat) (c:=(chF g 2 p - 48).toNat) (s:=(chF g 3 p - 48).toNat) (d0:=n / 100) (d1:=n / 10 % 10) (d2:=n % 10) (by omega) (by omega) (by omega) (by
   rcases ht with ⟨x, y⟩ | ⟨x, y⟩ | ⟨x, y⟩ | ⟨x, y⟩ | ⟨x, y⟩ | ⟨x, y⟩
   ·
    have x:=zbc x h0
    have y:=zbc y h1
    exact .inl (by omega)
   ·
    have x:=zbc x h0
    have y:=zbc y h2
    exact .inr (.inl (by omega))
   ·
    have x:=zbc x h1
    have y:=zbc y h2
    exact .inr (.inr (.inl (by omega)))
   ·
    have x:=zbc x h0
    have y:=zbc y h3
    exact .inr (.inr (.inr (.inl (by omega))))
   ·
    have x:=zbc x h1
    have y:=zbc y h3
    exact .inr (.inr (.inr (.inr (.inl (by omega)))))
   ·
    have x:=zbc x h2
    have y:=zbc y h3
    exact .inr (.inr (.inr (.inr (.inr (by omega))))))
  have e:100 * (n / 100) + 10 * (n / 10 % 10) + n % 10 = n:=by omega
  rw [e] at hm
  exact hm
theorem znZ (g:List (List UInt8)) (A B:List (Nat × Nat)):kT g (A ++ B) = kT g A + kT g B:=by simp [kT]
theorem znc {K:Nat} {g:List (List UInt8)} {p:Nat} (h:¬ zlt K g p):1 <= kT g ((List.range (K + 1)).map fun j=>(p, j)):=by
 unfold zlt at h
 obtain ⟨j, hj⟩:=Classical.not_forall.1 h
 obtain ⟨hj, he⟩:=Classical.not_imp.1 hj
 have he:=Classical.not_not.1 he
 unfold kT
 refine List.length_pos_of_mem (a:=(p, j)) ?_
 rw [List.mem_filter]
 exact ⟨List.mem_map.2 ⟨j, List.mem_range.2 (by omega), Y⟩, by simpa using he⟩
open Classical in
noncomputable def zci (K:Nat) (g:List (List UInt8)) (p:Nat):Nat:=if zlt K g p then 0 else 1
theorem zeC {K:Nat} {g:List (List UInt8)} (p:Nat):zci K g p <= kT g ((List.range (K + 1)).map fun j=>(p, j)) /\ zci K g p <= 1:=by
 unfold zci
 split
 ·
  omega
 ·
  rename_i h; have:=znc h; omega
theorem zpf {c:Cod} {g:List (List UInt8)} (hc:jA c = true) (hg:jX c g = true):zci c.fields.length g 0 + zci c.fields.length g 1 + zci c.fields.length g 2 + zci c.fields.length g 3 + zci c.fields.length g 4 <= 2:=by
 have h:=zjH hc hg
 have e:grid c.fields.length = ((List.range (c.fields.length + 1)).map fun j=>(0, j)) ++ (((List.range (c.fields.length + 1)).map fun j=>(1, j)) ++ (((List.range (c.fields.length + 1)).map fun j=>(2, j)) ++ (((List.range (c.fields.length + 1)).map fun j=>(3, j)) ++ (((List.range (c.fields.length + 1)).map fun j=>(4, j)) ++ [])))):=rfl
 rw [e] at h
 simp only[znZ] at h
 have h0:=zeC (K:=c.fields.length) (g:=g) 0
 have h1:=zeC (K:=c.fields.length) (g:=g) 1
 have h2:=zeC (K:=c.fields.length) (g:=g) 2
 have h3:=zeC (K:=c.fields.length) (g:=g) 3
 have h4:=zeC (K:=c.fields.length) (g:=g) 4
 omega
theorem zlm {c:Cod} {g:List (List UInt8)} {l:List (List (List UInt8))} (hc:jA c = true) (p:Nat):(jl c (g :: l) p).length <= 100 * 10 ^ zci c.fields.length g p:=by
 unfold zci
 split
 ·
  rename_i h; exact zqc hc h
 ·
  exact zk7 c hc _ p
theorem zkd {α β:Type} {f:α -> List β} {m:Nat}:∀ (A:List α), (∀ a ∈ A, (f a).length <= m) -> (A.flatMap f).length <= A.length * m
 | [], _=>by simp
 | a :: A, h=>by
  have h1:=h a (List.mem_cons_self ..)
  have h2:=zkd A (fun x hx=>h x (List.mem_cons_of_mem _ hx))
  rw [List.flatMap_cons, List.length_append, List.length_cons, Nat.succ_mul]
  omega
theorem zh4 (c:Cod) (a:List Int × List Int) (L:List (List Int × List Int)):(jnL c a L).length <= L.length:=List.length_filterMap_le ..
theorem zlK (c:Cod) (A L:List (List Int × List Int)) (i:Nat):(nxP c A L i).length <= i * L.length:=
 Nat.le_trans (zkd _ (fun a _=>zh4 c a L)) (Nat.mul_le_mul_right _ (by simp; omega))
theorem zlg (c:Cod) (l:List (List (List UInt8))) (p:Nat):nxP c (zT c l p) (jl c l p) (zT c l p).length = zT c l (p + 1):=by
 unfold nxP; rw [List.take_length]; rfl
theorem zmW {c:Cod} {g:List (List UInt8)} {l:List (List (List UInt8))} (hc:jA c = true):∀ (p:Nat), (zT c (g :: l) (p + 1)).length <= (zT c (g :: l) p).length * (100 * 10 ^ zci c.fields.length g p):=fun p=>
 zkd _ (fun a _=>Nat.le_trans (zh4 c a _) (zlm hc p))
theorem zfE {c:Cod} {g:List (List UInt8)} {l:List (List (List UInt8))} (hc:jA c = true) (hg:jX c g = true) {p:Nat} (hp:p < 5):(zT c (g :: l) p).length * (100 * 10 ^ zci c.fields.length g p) <= 1000000000000:=by
 have ha:=zpf hc hg
 have key:∀ q, (zT c (g :: l) q).length * (100 * 10 ^ zci c.fields.length g q) <= 100 ^ (q + 1) * 10 ^ ((List.range (q + 1)).map (zci c.fields.length g)).sum:=by
  intro q
  induction q with
  | zero=>simp [zT]
  | succ q ih=>
   have h1:=Nat.mul_le_mul_right (100 * 10 ^ zci c.fields.length g (q + 1)) (Nat.le_trans (zmW (l:=l) hc q) ih)
   refine Nat.le_trans h1 (Nat.le_of_eq ?_)
   rw [List.range_succ (n:=q + 1), List.map_append, List.sum_append, Nat.pow_add 10, Nat.pow_succ 100 (q + 1)]
   simp only[List.map_cons, List.map_nil, List.sum_cons, List.sum_nil, Nat.add_zero]
   ac_rfl
 refine Nat.le_trans (key p) ?_
 have hs:((List.range (p + 1)).map (zci c.fields.length g)).sum <= 2:=by
  have:p = 0 ∨ p = 1 ∨ p = 2 ∨ p = 3 ∨ p = 4:=by omega
  rcases this with rfl | rfl | rfl | rfl | rfl <;> (simp [List.range_succ]; omega)
 exact Nat.le_trans (Nat.mul_le_mul (Nat.pow_le_pow_right (by decide) (show p + 1 <= 5 by omega)) (Nat.pow_le_pow_right (by decide) hs)) (by decide)
theorem zmz {c:Cod} {g:List (List UInt8)} {l:List (List (List UInt8))} (hc:jA c = true) (hg:jX c g = true) {p:Nat} (hp:p < 5):(zT c (g :: l) p).length * (jl c (g :: l) p).length <= 1000000000000 /\ (zT c (g :: l) p).length <= 1000000000000:=
 ⟨Nat.le_trans (Nat.mul_le_mul_left _ (zlm hc p)) (zfE hc hg hp), Nat.le_trans (Nat.le_mul_of_pos_right _ (Nat.mul_pos (by decide) (Nat.pow_pos (by decide)))) (zfE hc hg hp)⟩
theorem zc6 {c:Cod} {l:List (List (List UInt8))} (hc:jA c = true):∀ (p:Nat) (a:List Int × List Int), a ∈ zT c l p -> zpm c l.length p a
 | 0, a, h=>by
  rw [zT, List.mem_singleton] at h
  subst h
  exact ⟨by simp, by simp, fun x hx=>by rw [List.eq_of_mem_replicate hx]; simp, fun x hx=>by rw [List.eq_of_mem_replicate hx]; simp⟩
 | p + 1, a, h=>by
  have hcb:=wI hc
  rw [zT, List.mem_flatMap] at h
  obtain ⟨a0, h0, h⟩:=h
  rw [List.mem_filterMap] at h
  obtain ⟨b, hb, h⟩:=h
  have ih:=zc6 hc p a0 h0
  have hcol:=zle hc hb
  unfold jn at h
  split at h
  ·
   rename_i hle
   injection h with h
   subst h
   refine ⟨by simp [jnR, ih.1, hcol.1], by simp [jnW, ih.2.1, hcol.2.1], fun x hx=>?_, fun x hx=>?_⟩
   ·
    obtain ⟨y, hy, z, hz, rfl⟩:=zpY hx
    have h1:=ih.2.2.1 y hy
    have h2:=hcol.2.2.1 z hz
    rw [Int.pow_succ]; omega
   ·
    have h3:x <= c.most:=by simpa using List.all_eq_true.1 hle x hx
    obtain ⟨y, hy, z, hz, rfl⟩:=zqf hx
    have h1:=ih.2.2.2 y hy
    have h2:=hcol.2.2.2 z hz
    omega
  ·
   cases h
def jnB (c:Cod) (a b:List Int × List Int):Bool:=decide (∀ x ∈ jnW a.2 b.2, x <= c.most)
def jn1 (c:Cod) (a b:List Int × List Int):AV:=if jnB c a b then zO (jnR a.1 b.1) else .top
def jn2 (c:Cod) (a b:List Int × List Int):AV:=if jnB c a b then zO (jnW a.2 b.2) else .top
theorem zti {G:Glob} (c:Cod) {l:List (List (List UInt8))} {p:Nat} (hc:jA c = true) (hl:l.length <= 3) (hl0:0 < l.length) (hp:p < 5) {a b:List Int × List Int} (ha:a ∈ zT c l p) (hb:b ∈ jl c l p):
  ACall Tryz.prog G 90 [.agg (qK c), .agg (jg a), .agg (jg b)] (.tup [.agg [jn1 c a b, jn2 c a b], .v (.bool (jnB c a b))]):=by
 have hcb:=wI hc
 have h1:=zc6 hc p a ha
 have h2:=zle hc hb
 have h5:(10:Int) ^ p <= 100000:=by
  have:p = 0 ∨ p = 1 ∨ p = 2 ∨ p = 3 ∨ p = 4:=by omega
  rcases this with rfl | rfl | rfl | rfl | rfl <;> decide
 unfold zpm at h1
 have k1:b.1.length = a.1.length:=by omega
 have k2:b.2.length = a.2.length:=by omega
 have k3:0 < a.1.length /\ a.1.length <= 1000:=by omega
 have k4:0 < a.2.length /\ a.2.length <= 1000:=by omega
 have k5:∀ x ∈ a.1, 0 <= x /\ x <= 100000:=fun x hx=>by have:=h1.2.2.1 x hx; omega
 have k6:∀ x ∈ b.1, 0 <= x /\ x <= 100000:=fun x hx=>by have:=h2.2.2.1 x hx; omega
 have k7:∀ x ∈ a.2, 0 <= x /\ x <= 100000:=fun x hx=>by have:=h1.2.2.2 x hx; omega
 have k8:∀ x ∈ b.2, 0 <= x /\ x <= 100000:=fun x hx=>by have:=h2.2.2.2 x hx; omega
 unfold jn1 jn2 jnB
 by_cases hy:∀ x ∈ jnW a.2 b.2, x <= c.most
 ·
  have:=zpc (G:=G) c a b k1 k2 k3 k4 k5 k6 k7 k8 hy
  rw [decide_eq_true hy, if_pos rfl, if_pos rfl]; exact this
 ·
  have:=zrz (G:=G) c a b k1 k2 k3 k4 k5 k6 k7 k8 hy
  rw [decide_eq_false hy, if_neg (by decide), if_neg (by decide)]; exact this
def nxQ (c:Cod) (A L:List (List Int × List Int)) (i k:Nat):List (List Int × List Int):=nxP c A L i ++ jnL c (A.getD i ([], [])) (L.take k)
theorem zqR (c:Cod) (A L:List (List Int × List Int)) (i:Nat):nxQ c A L i 0 = nxP c A L i:=by simp [nxQ, jnL]
theorem xG {A:List (List Int × List Int)} {i:Nat} (h:i < A.length):A.getD i ([], []) = A[i]:=by simp [h]
theorem zkJ {A:List (List Int × List Int)} {i:Nat} (h:i < A.length):A.getD i ([], []) ∈ A:=by rw [xG h]; exact List.getElem_mem h
theorem zpg {c:Cod} {A L:List (List Int × List Int)} {i k:Nat} (h:i < A.length) (hk:L.length <= k):nxQ c A L i k = nxP c A L (i + 1):=by
 rw [zn2 h, nxQ, List.take_of_length_le hk, xG h]
theorem zpl {c:Cod} {A L:List (List Int × List Int)} {i k:Nat} (h:k < L.length) (hb:jnB c (A.getD i ([], [])) (L.getD k ([], [])) = true):
  jn1 c (A.getD i ([], [])) (L.getD k ([], [])) = zO (jnR (A.getD i ([], [])).1 (L.getD k ([], [])).1) /\ jn2 c (A.getD i ([], [])) (L.getD k ([], [])) = zO (jnW (A.getD i ([], [])).2 (L.getD k ([], [])).2) /\
  jo (nxQ c A L i k) ++ [[EV.pub (zO (jnR (A.getD i ([], [])).1 (L.getD k ([], [])).1)), EV.pub (zO (jnW (A.getD i ([], [])).2 (L.getD k ([], [])).2))]] = jo (nxQ c A L i (k + 1)) /\ (nxQ c A L i k).length + 1 = (nxQ c A L i (k + 1)).length:=by
 have e1:jn1 c (A.getD i ([], [])) (L.getD k ([], [])) = zO (jnR (A.getD i ([], [])).1 (L.getD k ([], [])).1):=by unfold jn1; rw [if_pos hb]
 have e2:jn2 c (A.getD i ([], [])) (L.getD k ([], [])) = zO (jnW (A.getD i ([], [])).2 (L.getD k ([], [])).2):=by unfold jn2; rw [if_pos hb]
 refine ⟨e1, e2, ?_⟩
 unfold jnB at hb
 rw [decide_eq_true_eq, xG h] at hb
 rw [zft, xG h]
 have e3:nxQ c A L i (k + 1) = nxQ c A L i k ++ [(jnR (A.getD i ([], [])).1 L[k].1, jnW (A.getD i ([], [])).2 L[k].2)]:=by
  unfold nxQ; rw [zpO h hb, List.append_assoc]
 rw [e3]
 exact ⟨Y, by simp⟩
theorem zrR {c:Cod} {A L:List (List Int × List Int)} {i k:Nat} (h:k < L.length) (hb:jnB c (A.getD i ([], [])) (L.getD k ([], [])) = false):nxQ c A L i (k + 1) = nxQ c A L i k:=by
 unfold jnB at hb
 rw [decide_eq_false_iff_not, xG h] at hb
 unfold nxQ; rw [zrA h hb]
theorem zqy {c:Cod} {A L:List (List Int × List Int)} {i k:Nat} (h:i < A.length) (hk:k <= L.length):(nxQ c A L i k).length <= A.length * L.length:=by
 have h1:=zlK c A L i
 have h2:=zh4 c (A.getD i ([], [])) (L.take k)
 have h3:(i + 1) * L.length <= A.length * L.length:=Nat.mul_le_mul_right _ h
 rw [Nat.succ_mul] at h3
 rw [List.length_take] at h2
 unfold nxQ
 rw [List.length_append]
 omega
theorem zfu {c:Cod} {l:List (List (List UInt8))} (hc:jA c = true) (hl0:0 < l.length) (hcp:∀ g ∈ l, jX c g = true) {p:Nat} (hp:p < 5):(zT c l p).length * (jl c l p).length <= 1000000000000 /\ (zT c l p).length <= 1000000000000:=by
 cases l with
 | nil=>cases hl0
 | cons g l=>exact zmz hc (hcp g (List.mem_cons_self ..)) hp
theorem zhi {A:List (List Int × List Int)} {i:Nat} (h:i < A.length):(A.map jg)[i]? = some (jg (A.getD i ([], []))):=by simp [h]
theorem zeB {A:List (List Int × List Int)}:∀ q ∈ A.map jg, q.length = 2:=fun q hq=>by obtain ⟨x, _, rfl⟩:=List.mem_map.1 hq; rfl
def mgK (c:Cod) (A:List (List Int × List Int)) (j:Nat):List (List Int):=((A.take j).map (·.1)).filter (wS c)
def zbf (Y:List (List Int)):List (List EV):=Y.map fun m=>[EV.pub (zO m)]
theorem zl4 (Y:List (List Int)):zbf Y = (Y.map fun m=>[zO m]).map (·.map .pub):=by simp [zbf]
theorem zmX (Y:List (List Int)):(zbf Y).length = Y.length:=by simp [zbf]
theorem zl7 (Y:List (List Int)):∀ q ∈ zbf Y, q.length = 1:=fun q hq=>by obtain ⟨x, _, rfl⟩:=List.mem_map.1 hq; rfl
theorem zqh {c:Cod} {A:List (List Int × List Int)} {j:Nat} (h:j < A.length) (hb:wS c (A.getD j ([], [])).1 = true):zbf (mgK c A j) ++ [[EV.pub (zO (A.getD j ([], [])).1)]] = zbf (mgK c A (j + 1)) /\ (mgK c A j).length + 1 = (mgK c A (j + 1)).length:=by
 rw [xG h] at hb ⊢
 have e:mgK c A (j + 1) = mgK c A j ++ [A[j].1]:=by
  unfold mgK; rw [List.take_succ_eq_append_getElem h, List.map_append, List.filter_append]; simp [hb]
 rw [e]
 exact ⟨by simp [zbf], by simp⟩
theorem zry {c:Cod} {A:List (List Int × List Int)} {j:Nat} (h:j < A.length) (hb:wS c (A.getD j ([], [])).1 = false):mgK c A (j + 1) = mgK c A j:=by
 rw [xG h] at hb
 unfold mgK; rw [List.take_succ_eq_append_getElem h, List.map_append, List.filter_append]; simp [hb]
theorem zhm {c:Cod} {A:List (List Int × List Int)} {j:Nat} (h:A.length <= j):mgK c A j = (A.map (·.1)).filter (wS c):=by
 unfold mgK; rw [List.take_of_length_le h]
theorem zpC (c:Cod) (A:List (List Int × List Int)) (j:Nat):(mgK c A j).length <= A.length:=by
 unfold mgK
 refine Nat.le_trans (List.length_filter_le ..) ?_
 simp; omega
theorem zkL {c:Cod} {l:List (List (List UInt8))} (hc:jA c = true) (hl0:0 < l.length) (hcp:∀ g ∈ l, jX c g = true):(zT c l 5).length <= 1000000000000:=by
 refine Nat.le_trans ?_ (zfu hc hl0 hcp (show 4 < 5 by decide)).1
 rw [← zlg]
 exact zlK ..
theorem zrd {c:Cod} {l:List (List (List UInt8))} (hc:jA c = true) (hl:l.length <= 3) (hl0:0 < l.length) (hcp:∀ g ∈ l, jX c g = true):(((zT c l 5).map (·.1)).filter (wS c)).length <= 4000000:=by
 have h1:(zcq c l).length = (((zT c l 5).map (·.1)).filter (wS c)).length:=(wF _).length_eq
 have h2:(kC c l).length = _:=(wF _).length_eq
 rw [← h1, zcb hc hl hcp, h2]
 exact zfj hc hl0 hcp
end Go.Av
end
section
namespace Go.Av
open Go.Proofs
set_option maxRecDepth 100000
set_option maxHeartbeats 1000000
variable {G:Glob}
theorem zg7:zau Tryz.prog 123 2 = true:=by kernel_rfl
theorem zq9 (n:Nat):(List.replicate n ([AV.v (.int .i64 0)])) = (List.replicate n (0:Int)).map fun n=>[AV.v (.int .i64 n)]:=by simp
theorem zpt {c:Cod} {l:List (List (List UInt8))} {m1 m2:Nat} (e1:m1 = c.fields.length) (e2:m2 = l.length):EV.pub (.sl [[.sl (List.replicate m1 [AV.v (.int .i64 0)]), .sl (List.replicate m2 [AV.v (.int .i64 0)])]]) = .pub (.sl ((zT c l 0).map jg)):=by
 subst e1; subst e2; rw [zq9, zq9]; rfl
theorem f27 (c:Cod) (l:List (List (List UInt8))) (hc:jA c = true) (hl:l.length <= 3) (hl0:0 < l.length) (hcp:∀ g ∈ l, jX c g = true):ACall Tryz.prog G 27 [.agg (qK c), qO l] (jc (zcq c l)):=by
 have hcb:=wI hc
 have h5f:=zkL hc hl0 hcp
 have hmf:=zrd hc hl hl0 hcp
 refine zS Tryz.func27 Y (by kernel_rfl) Y ?_
 refine zuy (zh (zE8 (jf Y (zY Y)) (zE8 (zn Y Y) (zo (zf (zuy ?_))))))
 refine qY mixed (by kernel_rfl) Y ?_
 refine zH Y (zu Y Y jS) (zH Y (zA Y Y Y zah) (zH Y (qh Y Y Y Tryz.underlying22) ?_))
 refine zH Y (zli Y Y Tryz.underlying23 ti3 Y Y Y (zs:=[.int .i64 0]) Y Y Y (by simp; omega) (by simp; omega) (by decide)) ?_
 refine zH Y (zq Y Y) (zH Y (qh Y Y Y Tryz.underlying26) ?_)
 refine zH Y (zli Y Y Tryz.underlying23 ti3 Y Y Y (zs:=[.int .i64 0]) Y Y Y (by simp; omega) (by simp; omega) (by decide)) ?_
 refine zH Y (zb3 (cs:=[_, _]) Y zkY Y ⟨_, _, Y, (kQ Y), ⟨_, _, Y, (kQ Y), Y⟩⟩ (by rfl) (by simp [ofV])) ?_
 refine zH Y (qg (size:=2) (rows:=[[_, _]]) Y Tryz.underlying123 znT Y (by decide) Y (by decide) ⟨_, _, Y, (zY Y), Y⟩ (by rfl) (by simp [ofV]) Y (by simp)) ?_
 refine zH Y (zW Y Y) (jw (zf (zuy (zuy (zh (zE8 (zn Y Y) (zo (zf (zB ?_)))))))))
 refine qy (ι:={ p:Nat // p <= 5 }) (fun p=>⟨Tryz.f27.ntmps, frL [(1, .pub (qO l)), (2, .pub (.ptr (qK c))), (5, .pub (.sl ((zT c l p.1).map jg))), (6, I (p.1:Int))], []⟩) (fun p=>5 - p.1) (⟨0, by omega⟩) ?_ ?_
 ·
  exact zt _ ⟨Y, Y, (zpt (by simp) (by simp)), Y, trivial⟩ (Y)
 ·
  rintro ⟨p, hp⟩
  dsimp only
  refine zuy (zuy (zh (zE8 (zi Y Y) (zE8 (qi Y Y Y) (zo (zf (zx Y (fun h_0=>?_) (fun h_0=>?_))))))))
  ·
   have hp:p < 5:=by simp only[decide_eq_true_eq] at h_0; omega
   have hpf:=zfu hc hl0 hcp hp
   have hcf:=zk7 c hc l p
   unfold zqd at hcf
   refine zC (zf (zuy (zB (zuy (zh (zE8 (zZ Y Y wH (by exact zLb Y)) (zE8 (zq Y Y) (zE8 (zi Y Y) (zE8 (zy (av:=[_, _, _]) Y ⟨Y, Y, Y, trivial⟩ (f89 c l p hc hl hl0 hcp hp)) (zE8 (zW Y Y) (zo ?_)))))))))))
   refine zf (zuy (zh (zE8 (zn Y Y) (zo (zf (zuy (zuy (zh (zE8 (zn Y Y) (zo (zf ?_)))))))))))
   refine zB ?_
   refine qx (kG 8 Y) ?_
   refine qy (ι:={ i:Nat // i <= (zT c l p).length }) (fun i=>⟨Tryz.f27.ntmps, frL [(1, .pub (qO l)), (2, .pub (.ptr (qK c))), (5, .pub (.sl ((zT c l p).map jg))), (6, I (p:Int)), (7, .pub (.sl ((jl c l p).map jg))), (8, .psl 0 (nxP c (zT c l p) (jl c l p) i.1).length), (9, I (i.1:Int))], [.row (jo (nxP c (zT c l p) (jl c l p) i.1))]⟩) (fun i=>(zT c l p).length - i.1) (⟨0, Nat.zero_le _⟩) ?_ ?_
   ·
    exact zt _ ⟨Y, Y, Y, Y, Y, Y, Y, trivial⟩ (Y)
   ·
    rintro ⟨i, hi⟩
    dsimp only
    refine zuy (zuy (zh (zE8 (zi Y Y) (zE8 (zq Y Y) (zE8 (qh Y Y Y Tryz.underlying123) (zE8 (qi Y Y Y) (zo (zf (zx Y (fun h_1=>?_) (fun h_1=>?_))))))))))
    ·
     have hi:i < (zT c l p).length:=by simpa using h_1
     refine zC (zf (zuy (zB (zuy (zh (zE8 (zn Y Y) (zo (zf (zB ?_)))))))))
     refine qy (ι:={ k:Nat // k <= (jl c l p).length }) (fun k=>⟨Tryz.f27.ntmps, frL [(1, .pub (qO l)), (2, .pub (.ptr (qK c))), (5, .pub (.sl ((zT c l p).map jg))), (6, I (p:Int)), (7, .pub (.sl ((jl c l p).map jg))), (8, .psl 0 (nxQ c (zT c l p) (jl c l p) i k.1).length), (9, I (i:Int)), (10, I (k.1:Int))], [.row (jo (nxQ c (zT c l p) (jl c l p) i k.1))]⟩) (fun k=>(jl c l p).length - k.1) (⟨0, Nat.zero_le _⟩) ?_ ?_
     ·
      exact zt _ ⟨Y, Y, Y, Y, Y, (congrArg (fun z=>EV.psl 0 (List.length z)) (zqR ..).symm), Y, Y, trivial⟩ (congrArg (fun z=>[PO.row (jo z)]) (zqR ..).symm)
     ·
      rintro ⟨k, hk⟩
      dsimp only
      refine zuy (zuy (zh (zE8 (zi Y Y) (zE8 (zq Y Y) (zE8 (qh Y Y Y Tryz.underlying123) (zE8 (qi Y Y Y) (zo (zf (zx Y (fun h_2=>?_) (fun h_2=>?_))))))))))
      ·
       have hk:k < (jl c l p).length:=by simpa using h_2
       have hql:=zqy (c:=c) (A:=(zT c l p)) (L:=(jl c l p)) hi (Nat.le_of_lt hk)
       refine zC (zf (zuy (zB (zuy ?_))))
       refine qx vz ?_
       refine wR (fun _=>True) (fun k=>match k with | 0=>.stable | 1=>.stable | 2=>.stable | 3=>.stable | 4=>.stable | 5=>.stable | 6=>.stable | 7=>.stable | 8=>.stable | 9=>.stable | 10=>.stable | 11=>.stable | 12=>.stable | 13=>.own 1 | 14=>.writes | 15=>.stable | _=>.here) mixed (by kernel_rfl) rfl (by kernel_rfl) trivial ?_
       refine zuC Y Y (fun m hm=>zZ Y Y wH (by exact zLb Y)) (zuC Y Y (fun m hm=>zq Y Y) (zuC Y Y (fun m hm=>zi Y Y) (zuC Y Y (fun m hm=>zG Y Y Y zg7 (by omega) (zhi (i:=i) hi) zeB) (zuC Y Y (fun m hm=>zZ Y Y xX (by exact zLb Y)) (zuC Y Y (fun m hm=>zq Y Y) (zuC Y Y (fun m hm=>zi Y Y) (zuC Y Y (fun m hm=>zG Y Y Y zg7 (by omega) (zhi (i:=k) hk) zeB) (zuC Y Y (fun m hm=>zZ Y Y xX (by exact zLb Y)) (zuC Y Y (fun m hm=>zy (av:=[_, _, _]) Y ⟨Y, Y, Y, trivial⟩ (zti c hc hl hl0 hp (a:=((zT c l p).getD i ([], []))) (b:=((jl c l p).getD k ([], []))) (zkJ hi) (zkJ hk))) (zuC Y Y (fun m hm=>zq Y Y) (zuC Y Y (fun m hm=>zN Y Y Y) ?_)))))))))))
       refine zuC Y Y (fun m hm=>zN Y Y Y) ?_
       refine zgb Y Y (zb1 Y zgT Y Y Y) ?_
       refine zaw Y Y (jk Y Y Y Y Y Y (zY Y) xX (by rfl) (by rfl)) trivial ?_
       refine zuC Y Y (fun m hm=>zn Y Y) (wQ (zf (zuy (zh (zE8 (zi Y Y) (zo (zf (zx Y (fun h_3=>?_) (fun h_3=>?_)))))))))
       ·
        have hq:=zpl (c:=c) (A:=(zT c l p)) (i:=i) (k:=k) hk h_3
        have hlen2:=hq.2.2.2
        have hrow2:=hq.2.2.1
        refine qx (zt (mem':=[.row (jo (nxQ c (zT c l p) (jl c l p) i k)), .row [[.pub (zO (jnR ((zT c l p).getD i ([], [])).1 ((jl c l p).getD k ([], [])).1)), .pub (zO (jnW ((zT c l p).getD i ([], [])).2 ((jl c l p).getD k ([], [])).2))]]]) [(1, .pub (qO l)), (2, .pub (.ptr (qK c))), (5, .pub (.sl ((zT c l p).map jg))), (6, I (p:Int)), (7, .pub (.sl ((jl c l p).map jg))), (8, .psl 0 (nxQ c (zT c l p) (jl c l p) i k).length), (9, I (i:Int)), (10, I (k:Int)), (11, .pp 1 1 0 0)] ?_ ?_) ?_
        ·
         exact ⟨Y, Y, Y, Y, Y, Y, Y, Y, Y, trivial⟩
        ·
         exact (congrArg (fun z=>[PO.row (jo (nxQ c (zT c l p) (jl c l p) i k)), PO.row [z]]) (show [EV.pub (jn1 c ((zT c l p).getD i ([], [])) ((jl c l p).getD k ([], []))), EV.pub (jn2 c ((zT c l p).getD i ([], [])) ((jl c l p).getD k ([], [])))] = _ by rw [hq.1, hq.2.1]))
        refine zh (zE8 (zI Y Y) (zE8 (qN (cs:=[_, _]) Y Y Y Y Y (by exact zLb Y) Y xX) ?_))
        refine zE8 (qg (size:=2) (rows:=[[_, _]]) Y Tryz.underlying123 znT Y (by decide) Y (by decide) ⟨_, _, Y, zY Y, Y⟩ (by rfl) (by simp [zO]) Y (by simp)) ?_
        refine jb Y (vS Y Y Y Y (zgX _) Y zq6 (zgu _) (by simp) (by simp; omega) (by unfold maxLen; simp; omega)) ?_
        refine zE8 (qo Y Y) (zo (zD (zf (zh (zE8 (zi Y Y) (zE8 (zV Y Y Y ⟨(by omega), (by omega)⟩) (zE8 (zn Y Y) (zo ?_))))))))
        exact ⟨⟨k + 1, by omega⟩, by dsimp only; omega, Weak.trans (zt (mem':=[.row (jo (nxQ c (zT c l p) (jl c l p) i (k + 1))), PO.row [[.pub (zO (jnR ((zT c l p).getD i ([], [])).1 ((jl c l p).getD k ([], [])).1)), .pub (zO (jnW ((zT c l p).getD i ([], [])).2 ((jl c l p).getD k ([], [])).2))]]]) [(1, .pub (qO l)), (2, .pub (.ptr (qK c))), (5, .pub (.sl ((zT c l p).map jg))), (6, I (p:Int)), (7, .pub (.sl ((jl c l p).map jg))), (8, .psl 0 (nxQ c (zT c l p) (jl c l p) i (k + 1)).length), (9, I (i:Int)), (10, I ((k + 1:Nat):Int))] ⟨Y, Y, Y, Y, Y, congrArg (EV.psl 0) hlen2, Y, Y, trivial⟩ (congrArg (fun z=>[PO.row z, PO.row [[.pub (zO (jnR ((zT c l p).getD i ([], [])).1 ((jl c l p).getD k ([], [])).1)), .pub (zO (jnW ((zT c l p).getD i ([], [])).2 ((jl c l p).getD k ([], [])).2))]]]) hrow2)) (vO 1 ⟨trivial, trivial, trivial, trivial, trivial, (show 0 < 1 by omega), trivial, trivial, trivial⟩ ⟨kD _, trivial⟩)⟩
       ·
        have hq:=zrR (c:=c) (A:=(zT c l p)) (i:=i) (k:=k) hk h_3
        have hlen2:=congrArg List.length hq.symm
        have hrow2:=congrArg jo hq.symm
        refine zC (zD (zf (zh (zE8 (zi Y Y) (zE8 (zV Y Y Y ⟨(by omega), (by omega)⟩) (zE8 (zn Y Y) (zo ?_)))))))
        exact ⟨⟨k + 1, by omega⟩, by dsimp only; omega, Weak.trans (zt (mem':=[.row (jo (nxQ c (zT c l p) (jl c l p) i (k + 1))), PO.row [[.pub (jn1 c ((zT c l p).getD i ([], [])) ((jl c l p).getD k ([], []))), .pub (jn2 c ((zT c l p).getD i ([], [])) ((jl c l p).getD k ([], [])))]]]) [(1, .pub (qO l)), (2, .pub (.ptr (qK c))), (5, .pub (.sl ((zT c l p).map jg))), (6, I (p:Int)), (7, .pub (.sl ((jl c l p).map jg))), (8, .psl 0 (nxQ c (zT c l p) (jl c l p) i (k + 1)).length), (9, I (i:Int)), (10, I ((k + 1:Nat):Int))] ⟨Y, Y, Y, Y, Y, congrArg (EV.psl 0) hlen2, Y, Y, trivial⟩ (congrArg (fun z=>[PO.row z, PO.row [[.pub (jn1 c ((zT c l p).getD i ([], [])) ((jl c l p).getD k ([], []))), .pub (jn2 c ((zT c l p).getD i ([], [])) ((jl c l p).getD k ([], [])))]]]) hrow2)) (vO 1 ⟨trivial, trivial, trivial, trivial, trivial, (show 0 < 1 by omega), trivial, trivial, trivial⟩ ⟨kD _, trivial⟩)⟩
      ·
       have hke:(jl c l p).length <= k:=by simpa using h_2
       have hqe:=zpg (c:=c) (A:=(zT c l p)) hi hke
       refine qp (zL (zL (qw (zD (zf (zh (zE8 (zi Y Y) (zE8 (zV Y Y Y ⟨(by omega), (by omega)⟩) (zE8 (zn Y Y) (zo ?_))))))))))
       exact ⟨⟨i + 1, by omega⟩, by dsimp only; omega, zt _ ⟨Y, Y, Y, Y, Y, (congrArg (fun z=>EV.psl 0 (List.length z)) hqe), Y, trivial⟩ (congrArg (fun z=>[PO.row (jo z)]) hqe)⟩
    ·
     have hie:i = (zT c l p).length:=Nat.le_antisymm hi (by simpa using h_1)
     have hnx:nxP c (zT c l p) (jl c l p) i = zT c l (p + 1):=by rw [hie, zlg]
     refine qp (zL (zL (qw (zf ?_))))
     refine qx (zcT (k:=0) (m:=(nxP c (zT c l p) (jl c l p) i).length) (rows:=(nxP c (zT c l p) (jl c l p) i).map jg) [8] ?_ ?_ ?_) ?_
     ·
      exact (congrArg (fun z=>some (PO.row z)) (zgN _))
     ·
      exact List.length_map ..
     ·
      intro d hd; rw [List.mem_singleton] at hd; subst hd; rfl
     refine zh (zE8 (zq Y Y) (zE8 (zW Y Y) (zo (zD (zf (zh (zE8 (zi Y Y) (zE8 (zV Y Y Y ⟨(by omega), (by omega)⟩) (zE8 (zn Y Y) (zo ?_))))))))))
     exact ⟨⟨p + 1, by omega⟩, by dsimp only; omega, Weak.trans (zt (mem':=[.dead]) [(1, .pub (qO l)), (2, .pub (.ptr (qK c))), (5, .pub (.sl ((zT c l (p + 1)).map jg))), (6, I ((p + 1:Nat):Int))] ⟨Y, Y, congrArg (fun z=>EV.pub (.sl (List.map jg z))) hnx, Y, trivial⟩ Y) (vO 0 ⟨trivial, trivial, trivial, trivial, trivial⟩ trivial)⟩
  ·
   have hp5:p = 5:=by simp only[decide_eq_false_iff_not] at h_0; omega
   refine qp (zL (zL (qw (zf (zuy (zh (zE8 (zn Y Y) (zo (zf (zuy (zuy ?_)))))))))))
   refine zh (zE8 (zn Y Y) (zo (zf (zB ?_))))
   refine qx (kG 13 Y) ?_
   refine qy (ι:={ j:Nat // j <= (zT c l 5).length }) (fun j=>⟨Tryz.f27.ntmps, frL [(2, .pub (.ptr (qK c))), (5, .pub (.sl ((zT c l 5).map jg))), (13, .psl 0 (mgK c (zT c l 5) j.1).length), (14, I (j.1:Int))], [.row (zbf (mgK c (zT c l 5) j.1))]⟩) (fun j=>(zT c l 5).length - j.1) (⟨0, Nat.zero_le _⟩) ?_ ?_
   ·
    exact zt _ ⟨Y, (congrArg (fun z=>EV.pub (.sl ((zT c l z).map jg))) hp5), Y, Y, trivial⟩ (Y)
   ·
    rintro ⟨j, hj⟩
    dsimp only
    refine zuy (zuy (zh (zE8 (zi Y Y) (zE8 (zq Y Y) (zE8 (qh Y Y Y Tryz.underlying123) (zE8 (qi Y Y Y) (zo (zf (zx Y (fun h_4=>?_) (fun h_4=>?_))))))))))
    ·
     have hj:j < (zT c l 5).length:=by simpa using h_4
     have hpo:=zc6 hc 5 _ (zkJ hj)
     unfold zpm at hpo
     have hml:=zpC c (zT c l 5) j
     refine zC (zf (zuy (zB (zuy ?_))))
     refine qY mixed (by kernel_rfl) Y ?_
     refine zH Y (zZ Y Y wH (by exact zLb Y)) (zH Y (zq Y Y) (zH Y (zi Y Y) (zH Y (zG Y Y Y zg7 (by omega) (zhi (i:=j) hj) zeB) (zH Y (zu Y Y wK) (zH Y (zA Y Y Y jO) (zH Y (zy (av:=[_, _]) Y ⟨Y, Y, trivial⟩ (f32 c ((zT c l 5).getD j ([], [])).1 (by omega))) (jw (zf (zx Y (fun h_5=>?_) (fun h_5=>?_))))))))))
     ·
      have hq:=zqh hj h_5
      have hlen3:=hq.2
      have hrow3:=hq.1
      refine zh (zE8 (zI Y Y) (zE8 (zq Y Y) (zE8 (zi Y Y) (zE8 (zG Y Y Y zg7 (by omega) (zhi (i:=j) hj) zeB) (zE8 (zu Y Y wK) (zE8 (zA Y Y Y jO) ?_))))))
      refine zE8 (qg (size:=1) (rows:=[[_]]) Y Tryz.underlying30 zmt Y (by decide) Y (by decide) ⟨_, _, Y, (kQ Y), Y⟩ (by rfl) (by simp [ofV]) Y (by simp)) ?_
      refine jb Y (vS Y Y Y Y (zmX _) Y zo9 (zl7 _) (by simp) (by simp; omega) (by unfold maxLen; simp; omega)) ?_
      refine zE8 (qo Y Y) (zo (zD (zf (zh (zE8 (zi Y Y) (zE8 (zV Y Y Y ⟨(by omega), (by omega)⟩) (zE8 (zn Y Y) (zo ?_))))))))
      exact ⟨⟨j + 1, by omega⟩, by dsimp only; omega, zt (mem':=[.row (zbf (mgK c (zT c l 5) (j + 1)))]) [(2, .pub (.ptr (qK c))), (5, .pub (.sl ((zT c l 5).map jg))), (13, .psl 0 (mgK c (zT c l 5) (j + 1)).length), (14, I ((j + 1:Nat):Int))] ⟨Y, Y, congrArg (EV.psl 0) hlen3, Y, trivial⟩ (congrArg (fun z=>[PO.row z]) hrow3)⟩
     ·
      have hq:=zry hj h_5
      have hlen3:=congrArg List.length hq.symm
      have hrow3:=congrArg zbf hq.symm
      refine zC (zD (zf (zh (zE8 (zi Y Y) (zE8 (zV Y Y Y ⟨(by omega), (by omega)⟩) (zE8 (zn Y Y) (zo ?_)))))))
      exact ⟨⟨j + 1, by omega⟩, by dsimp only; omega, zt (mem':=[.row (zbf (mgK c (zT c l 5) (j + 1)))]) [(2, .pub (.ptr (qK c))), (5, .pub (.sl ((zT c l 5).map jg))), (13, .psl 0 (mgK c (zT c l 5) (j + 1)).length), (14, I ((j + 1:Nat):Int))] ⟨Y, Y, congrArg (EV.psl 0) hlen3, Y, trivial⟩ (congrArg (fun z=>[PO.row z]) hrow3)⟩
    ·
     have hje:(zT c l 5).length <= j:=by simpa using h_4
     have hmm:∀ m ∈ (mgK c (zT c l 5) j), m.length <= 1000:=by
      intro m hm
      rw [zhm hje, List.mem_filter] at hm
      obtain ⟨a, ha, rfl⟩:=List.mem_map.1 hm.1
      have:=zc6 hc 5 a ha
      unfold zpm at this; omega
     refine qp (zL (zL (qw (zf (zuy ?_)))))
     refine qx (zcT (k:=0) (m:=(mgK c (zT c l 5) j).length) (rows:=(mgK c (zT c l 5) j).map fun m=>[zO m]) [13] ?_ ?_ ?_) ?_
     ·
      exact (congrArg (fun z=>some (PO.row z)) (zl4 _))
     ·
      exact List.length_map ..
     ·
      intro d hd; rw [List.mem_singleton] at hd; subst hd; rfl
     refine zh (zE8 (zq Y Y) ?_)
     refine zE8 (zy (av:=[_]) Y ⟨Y, trivial⟩ (f91 _ (mgK c (zT c l 5) j) (Nat.le_refl _) (by rw [zhm (by omega)]; exact hmf) hmm)) ?_
     refine zE8 (zW Y Y) (zo (zf (zP ?_)))
     exact ⟨.inr Y, AVle.of (by unfold zcq; rw [zhm (by omega)])⟩
end Go.Av
end
