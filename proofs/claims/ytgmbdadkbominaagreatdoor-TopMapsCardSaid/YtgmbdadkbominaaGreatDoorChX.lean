import Derived.Test.YtgmbdadkbominaaGreatDoorWiG
set_option linter.unusedVariables false
set_option linter.unusedSimpArgs false
section
namespace Go.Av
namespace Wr
set_option maxRecDepth 100000
def hd0 (m:List Int):Int:=m.getD 0 0
def loW (c:Cod) (l:List (List (List UInt8))):Int:=hd0 ((fndL c l).getD 0 [])
def hiW (c:Cod) (l:List (List (List UInt8))):Int:=hd0 ((fndL c l).getD ((fndL c l).length - 1) [])
theorem ztj {a b:List Int} (h:ltL b a = false) (ha:a ≠ []) (hb:b ≠ []):hd0 a <= hd0 b:=by
 cases a with
 | nil=>exact absurd rfl ha
 | cons x a=>cases b with
  | nil=>exact absurd rfl hb
  | cons y b=>
   simp only[ltL] at h
   show x <= y
   by_cases e:y = x
   ·omega
   ·rw [if_neg e] at h
    have:=of_decide_eq_false h; omega
theorem ze5 {c:Cod} (h:wL c = true):1 <= c.fields.length /\ c.fields.length <= 3 /\ ∀ p ∈ c.fields, 0 <= p.1 /\ p.1 <= p.2 /\ p.2 <= 99999:=by
 unfold wL at h
 simp only[zLa] at h
 obtain ⟨⟨⟨⟨h1, _⟩, _⟩, h4⟩, _⟩:=h
 have h1:=inB_iff.1 h1
 refine ⟨by omega, by omega, fun p hp=>?_⟩
 have h5:c.fields.any zgl = false:=by simpa using h4
 rw [List.any_eq_false] at h5
 have:=h5 p hp
 unfold zgl at this
 simp only[Bool.or_eq_true, decide_eq_true_eq, not_or] at this
 omega
theorem zr4 {c:Cod} {m:List Int} (hc:wL c = true) (hm:msgB c m = true):m ≠ [] /\ 0 <= hd0 m /\ hd0 m <= 99999:=by
 obtain ⟨h1, _, h3⟩:=ze5 hc
 have hl:=yL hm
 cases m with
 | nil=>simp at hl; omega
 | cons x m=>
  refine ⟨by simp, ?_⟩
  unfold msgB eqF at hm
  rw [zLa] at hm
  cases hf:c.fields with
  | nil=>rw [hf] at h1; simp at h1
  | cons p ps=>
   have h4:=hm.2
   rw [hf] at h4
   simp only[List.zip_cons_cons, List.all_cons, zLa] at h4
   have h5:=inB_iff.1 h4.1
   have h6:=h3 p (by rw [hf]; simp)
   show 0 <= x /\ x <= 99999
   omega
theorem fnd_bounds {c:Cod} {l:List (List (List UInt8))} {m:List Int} (hc:wL c = true) (h3:l.length <= 3) (h0:0 < l.length) (hcp:∀ g ∈ l, vI c g = true) (hm:msgB c m = true) (hcan:∀ g ∈ l, canB c m g = true):
  zfJ c l = 0 /\ 0 < (fndL c l).length /\ (fndL c l).length <= 4000000 /\ (∀ x ∈ fndL c l, 0 < x.length /\ x.length <= 3) /\ loW c l <= hd0 m /\ hd0 m <= hiW c l /\ 0 <= loW c l /\ hiW c l <= 99999:=by
 have hask:=zqT hc h3 h0 hcp
 have hin:m ∈ vO c l:=(ze9 hc h3 hcp).2 ⟨hm, hcan⟩
 have hne:vO c l ≠ []:=fun e=>by rw [e] at hin; simp at hin
 have hE:=zqM hask hne
 obtain ⟨_, hL, _⟩:=zoA hE
 have hmem:=(zpV hE).2
 have hfl:=ze5 hc
 rw [hL] at hmem
 have hpos:0 < (vO c l).length:=List.length_pos_iff.2 hne
 have hsz:(vO c l).length <= 4000000:=by
  have:=(zpE c l).1
  rw [hL] at this; exact this
 have hall:∀ x ∈ vO c l, x ≠ [] /\ 0 <= hd0 x /\ hd0 x <= 99999:=fun x hx=>zr4 hc (hmem x hx).1
 have hs:za7 (vO c l):=zdv _
 have g0:(vO c l).getD 0 [] = (vO c l)[0]:=by simp [List.getD, hpos]
 have g1:(vO c l).getD ((vO c l).length - 1) [] = (vO c l)[(vO c l).length - 1]:=by
  rw [List.getD_eq_getElem?_getD, List.getElem?_eq_getElem (by omega)]; rfl
 obtain ⟨i, hi, hmi⟩:=List.getElem_of_mem hin
 have hle:∀ a b (ha:a < (vO c l).length) (hb:b < (vO c l).length), a <= b -> hd0 (vO c l)[a] <= hd0 (vO c l)[b]:=fun a b ha hb hab=>by
  rcases Nat.lt_or_ge a b with h | h
  ·exact ztj (List.pairwise_iff_getElem.1 hs a b ha hb h) (hall _ (List.getElem_mem ha)).1 (hall _ (List.getElem_mem hb)).1
  ·have:a = b:=by omega
   subst this; exact Int.le_refl _
 have e1:loW c l = hd0 (vO c l)[0]:=by unfold loW; rw [hL, g0]
 have e2:hiW c l = hd0 (vO c l)[(vO c l).length - 1]:=by unfold hiW; rw [hL, g1]
 refine ⟨hE, by rw [hL]; exact hpos, by rw [hL]; exact hsz, fun x hx=>?_, ?_, ?_, ?_, ?_⟩
 ·rw [hL] at hx
  have:=(hmem x hx).2.1
  omega
 ·rw [e1, ← hmi]; exact hle 0 i hpos hi (Nat.zero_le _)
 ·rw [e2, ← hmi]; exact hle i _ hi (by omega) (by omega)
 ·rw [e1]; exact (hall _ (List.getElem_mem hpos)).2.1
 ·rw [e2]; exact (hall _ (List.getElem_mem (by omega))).2.2
end Wr
end Go.Av
end
