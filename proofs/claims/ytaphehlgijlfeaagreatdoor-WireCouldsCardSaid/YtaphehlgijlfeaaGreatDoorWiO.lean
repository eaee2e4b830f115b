
import Derived.Test.YtaphehlgijlfeaaGreatDoorWiN
import Derived.Test.YtaphehlgijlfeaaGreatDoorWiF
import Derived.Test.YtaphehlgijlfeaaGreatDoorWiH
set_option linter.unusedVariables false
set_option linter.unusedSimpArgs false
section
namespace Go.Av
open Go.Proofs
set_option maxRecDepth 100000
set_option maxHeartbeats 1000000
variable {G : Glob}
theorem ze3 : (Tryz.prog.info? 134).bind (·.zero) = some (.agg #[.slice none 0 0, .slice none 0 0, .int .i64 0, .slice none 0 0]) := by kernel_rfl
theorem zoR : xn Tryz.prog 134 [(0, 3), (3, 1)] [.slice none 0 0, .slice none 0 0, .int .i64 0, .slice none 0 0] := ⟨_, Tryz.underlying134, by kernel_rfl, by kernel_rfl⟩
theorem f165 (l : List (List (List UInt8))) (h : (List (List UInt8)) -> Bool) (f : FuncId) (fs cs : List AV) (hl : l.length <= 1000) (hf : ∀ n ∈ l, ACall Tryz.prog G f (fs ++ [jD n] ++ cs) (.v (.bool (h n)))) : ACall Tryz.prog G 165 [qO l, .fn f fs cs] (.v (.int .i64 (ixF h l))) := by
 have hF := Lib.hid hf
 clear hf
 refine zS Tryz.func165 rfl (by kernel_rfl) rfl ?_
 refine zl (zh (zg rfl rfl (zn rfl rfl) (zo (zf (zl (zl (zh (zg rfl rfl (zq rfl rfl) (zg rfl rfl (qh rfl rfl rfl Tryz.underlying26) (zg rfl rfl (zi rfl rfl) (zo ?_)))))))))))
 refine zf (zB ?_)
 refine qy (ι := { k : Nat // k <= l.length /\ (l.take k).any h = false }) (fun k => ⟨Tryz.f165.ntmps, frL [(0, .pub (qO l)), (1, .pub (.fn f fs cs)), (7, I (l.length : Int)), (8, I (k.1 : Int))], []⟩) (fun k => l.length - k.1) (⟨0, by simp⟩) ?_ ?_
 ·
  exact zt _ ⟨rfl, rfl, (congrArg (fun x : Nat => I (x : Int)) (List.length_map _)), rfl, trivial⟩ (rfl)
 ·
  rintro ⟨k, hk⟩
  dsimp only
  refine zl (zh (zg rfl rfl (qi rfl rfl rfl) (zo (zf (zl (zx rfl (fun h0 => ?_) (fun h0 => ?_)))))))
  ·
   have hlt : k < l.length := by simpa using h0
   refine zC (zf (zl (zB (zl (zh (zg rfl rfl (zi rfl rfl) (zg rfl rfl (zn rfl rfl) (zo (zf (zl (zh ?_)))))))))))
   refine zg rfl rfl (zq rfl rfl) (zg rfl rfl (zq rfl rfl) (zg rfl rfl (zi rfl rfl) (zg rfl rfl (zG rfl rfl rfl zbo (by omega) (zaL hlt) yS) (zg rfl rfl (zA rfl rfl rfl zfC) (zg rfl rfl (zbX (av := [_]) rfl rfl ⟨rfl, trivial⟩ (hF.out _ (List.getElem_mem hlt))) (zo (zf (zx rfl (fun h1 => ?_) (fun h1 => ?_)))))))))
   ·
    refine zl (zh (zg rfl rfl (zi rfl rfl) (zg rfl rfl (zn rfl rfl) (zo (zf (zP (qF (zQ (zQ (qF (zQ ?_)))))))))))
    exact ⟨.inr rfl, AVle.of (by rw [zkQ hlt hk.2 h1])⟩
   ·
    refine zC (zD (zf (zh (zg rfl rfl (zV rfl rfl rfl ⟨(by omega), (by omega)⟩) (zg rfl rfl (zi rfl rfl) (zo ?_))))))
    exact ⟨⟨k + 1, by omega, zaE hk.2 hlt h1⟩, by dsimp only; omega, zt _ ⟨rfl, rfl, rfl, rfl, trivial⟩ (rfl)⟩
  ·
   have hge : l.length <= k := by simpa using h0
   refine qp (zL (zL (qw (zf (zl (zh (zg rfl rfl (zn rfl rfl) (zo (zf (zP ?_))))))))))
   exact ⟨.inr rfl, AVle.of (by rw [List.take_of_length_le hge] at hk; rw [zhC hk.2])⟩
theorem f134 (l : List (List (List UInt8))) (h : (List (List UInt8)) -> Bool) (f : FuncId) (fs cs : List AV) (hl : l.length <= 1000) (hf : ∀ n ∈ l, ACall Tryz.prog G f (fs ++ [jD n] ++ cs) (.v (.bool (h n)))) : ACall Tryz.prog G 134 [qO l, .fn f fs cs] (.v (.bool (l.any h))) := by
 refine zS Tryz.func134 rfl (by kernel_rfl) rfl ?_
 refine zl (zh (zg rfl rfl (zn rfl rfl) (zo (zf (zl (zh (zg rfl rfl (zq rfl rfl) (zg rfl rfl (zq rfl rfl) (zg rfl rfl (zy (av := [_, _]) rfl ⟨rfl, rfl, trivial⟩ (f165 l h f fs cs hl hf)) (zg rfl rfl (zbe rfl rfl rfl) (zg rfl rfl (zn rfl rfl) ?_)))))))))))
 refine zo (zf (zP ?_))
 exact ⟨.inr rfl, AVle.of (by rw [← zhj h l])⟩
theorem f135 (c : Cod) (l : List (List UInt8)) (hl : l.length <= 1000) (hc : c.fields.length <= 1000) : ACall Tryz.prog G 135 [jD l, .ptr (qK c)] (.v (.bool (!jX c l))) := by
 refine zS Tryz.func135 rfl (by kernel_rfl) rfl ?_
 refine zl (zh (zg rfl rfl (zn rfl rfl) (zo (zf (zl (zh (zg rfl rfl (zZ rfl rfl wH (by exact zLb rfl)) (zg rfl rfl (zq rfl rfl) (zg rfl rfl (zy (av := [_, _]) rfl ⟨rfl, rfl, trivial⟩ (f118 c l hl hc)) (zg rfl rfl (je rfl rfl) (zg rfl rfl (zn rfl rfl) ?_)))))))))))
 refine zo (zf (zP ?_))
 exact ⟨.inr rfl, AVle.refl _⟩
def zcH (c : Cod) (l : List (List (List UInt8))) : Bool := jA c && decide (0 < l.length) && l.all (jX c)
def yT (c : Cod) (l : List (List (List UInt8))) : Int := if 3 < l.length then 3 else if zcH c l then 0 else 2
theorem zbq {c : Cod} {l : List (List (List UInt8))} : zcH c l = true ↔ jA c = true /\ 0 < l.length /\ ∀ g ∈ l, jX c g = true := by
 simp [zcH, and_assoc]
theorem zh6 {c : Cod} {l : List (List (List UInt8))} (h : yT c l = 0) : jA c = true /\ l.length <= 3 /\ 0 < l.length /\ ∀ g ∈ l, jX c g = true := by
 unfold yT at h
 by_cases h3 : 3 < l.length
 ·
  rw [if_pos h3] at h; cases h
 ·
  rw [if_neg h3] at h
  cases hb : zcH c l with
  | false => rw [hb] at h; cases h
  | true => have := zbq.1 hb; exact ⟨this.1, by omega, this.2⟩
theorem zeb {α : Type} (l : List α) (p : α -> Bool) : (l.any fun x => !p x) = !l.all p := by
 induction l with
 | nil => rfl
 | cons a l ih => simp only [List.any_cons, List.all_cons, ih]; cases p a <;> simp
def kJ (c : Cod) (l : List (List (List UInt8))) : Int := if yT c l = 0 then (if kC c l = [] then 5 else 0) else yT c l
def xU (c : Cod) (l : List (List (List UInt8))) : List (List Int) := if yT c l = 0 then kC c l else []
theorem zob (c : Cod) (l : List (List (List UInt8))) (hc : c.fields.length <= 1000 /\ c.turns.length <= 1000) (hl : l.length <= 1000) (hgl : ∀ g ∈ l, g.length <= 1000) (h3 : 3 < l.length) : ACall Tryz.prog G 95 [.agg (qK c), qO l] (.tup [.agg [.top, .top, .top, .top], ei 3]) := by
 refine zS Tryz.func95 rfl (by kernel_rfl) rfl ?_
 refine zl (zh (zg rfl rfl (jf rfl (zY rfl)) (jb rfl (wJ rfl rfl ze3 rfl rfl) (zg rfl rfl (zn rfl rfl) (zo (zf (zl (zl (zh (zg rfl rfl (zq rfl rfl) (zg rfl rfl (qh rfl rfl rfl Tryz.underlying26) ?_)))))))))))
 refine zg rfl rfl (qR rfl rfl rfl) (zo (zf (zx rfl (fun h0 => ?_) (fun h0 => ?_))))
 ·
  refine zl (zh ?_)
  refine zg rfl rfl (zb3 (cs := [_, _, _, _]) rfl zoR rfl rfl (by rfl) (by simp [ofV, zO, qO, jD])) ?_
  refine jb rfl (qG rfl rfl rfl rfl rfl rfl (zY rfl) xJ (by rfl) (by exact zLb rfl)) ?_
  refine zg rfl rfl (zn rfl rfl) (zo (zf (zP (zQ ?_))))
  exact ⟨.inr rfl, ⟨_, rfl, ⟨_, _, rfl, (jK rfl rfl rfl rfl xJ rfl ⟨_, _, rfl, AVle.top _, ⟨_, _, rfl, AVle.top _, ⟨_, _, rfl, AVle.top _, ⟨_, _, rfl, AVle.top _, rfl⟩⟩⟩⟩), ⟨_, _, rfl, AVle.refl _, rfl⟩⟩⟩⟩
 ·
  exfalso; simp [qO] at h0; omega
theorem zpP (c : Cod) (l : List (List (List UInt8))) (hc : c.fields.length <= 1000 /\ c.turns.length <= 1000) (hl : l.length <= 1000) (hgl : ∀ g ∈ l, g.length <= 1000) (h3 : l.length <= 3) (hb : zcH c l = false) : ACall Tryz.prog G 95 [.agg (qK c), qO l] (.tup [.agg [.top, .top, .top, .top], ei 2]) := by
 refine zS Tryz.func95 rfl (by kernel_rfl) rfl ?_
 refine zl (zh (zg rfl rfl (jf rfl (zY rfl)) (jb rfl (wJ rfl rfl ze3 rfl rfl) (zg rfl rfl (zn rfl rfl) (zo (zf (zl (zl (zh (zg rfl rfl (zq rfl rfl) (zg rfl rfl (qh rfl rfl rfl Tryz.underlying26) ?_)))))))))))
 refine zg rfl rfl (qR rfl rfl rfl) (zo (zf (zx rfl (fun h0 => ?_) (fun h0 => ?_))))
 ·
  exfalso; simp [qO] at h0; omega
 ·
  refine zC (zf (zl (zl (zh (zg rfl rfl (zZ rfl rfl wH (by exact zLb rfl)) (zg rfl rfl (zy (av := [_]) rfl ⟨rfl, trivial⟩ (f116 c hc)) (zg rfl rfl (je rfl rfl) (zg rfl rfl (zi rfl rfl) (zk rfl rfl rfl (fun hg => zq rfl rfl) (zk rfl rfl rfl (fun hg => qh rfl rfl (if_pos hg) Tryz.underlying26) (zk rfl rfl rfl (fun hg => qJ rfl (if_pos hg) rfl) ?_)))))))))))
  refine zg rfl rfl (qU rfl rfl rfl rfl) (zg rfl rfl (zi rfl rfl) (zk rfl rfl rfl (fun hg => zq rfl rfl) (zk rfl rfl rfl (fun hg => zcA (fs := []) (cs := [_]) rfl rfl rfl) (zk rfl rfl rfl (fun hg => zy (av := [_, _]) rfl ⟨((if_pos hg)), ((if_pos hg)), trivial⟩ (f134 l (fun g => !jX c g) 135 [] [.ptr (qK c)] hl (fun g hgm => f135 c g (hgl g hgm) hc.1))) (zg rfl rfl (qU rfl rfl rfl rfl) (zo (zf (zx rfl (fun h1 => ?_) (fun h1 => ?_)))))))))
  ·
   refine zl (zh ?_)
   refine zg rfl rfl (zb3 (cs := [_, _, _, _]) rfl zoR rfl rfl (by rfl) (by simp [ofV, zO, qO, jD])) ?_
   refine jb rfl (qG rfl rfl rfl rfl rfl rfl (zY rfl) xJ (by rfl) (by exact zLb rfl)) ?_
   refine zg rfl rfl (zn rfl rfl) (zo (zf (zP (zQ ?_))))
   exact ⟨.inr rfl, ⟨_, rfl, ⟨_, _, rfl, (jK rfl rfl rfl rfl xJ rfl ⟨_, _, rfl, AVle.top _, ⟨_, _, rfl, AVle.top _, ⟨_, _, rfl, AVle.top _, ⟨_, _, rfl, AVle.top _, rfl⟩⟩⟩⟩), ⟨_, _, rfl, AVle.refl _, rfl⟩⟩⟩⟩
  ·
   exfalso
   have hq : zcH c l = true := by
    simp [qO, zeb] at h1
    rw [zbq]
    refine ⟨h1.1.1, ?_, h1.2⟩
    cases l with
    | nil => simp at h1
    | cons a t => simp
   rw [hb] at hq
   cases hq
theorem zoB (c : Cod) (l : List (List (List UInt8))) (hc : c.fields.length <= 1000 /\ c.turns.length <= 1000) (hl : l.length <= 1000) (hgl : ∀ g ∈ l, g.length <= 1000) (h3 : l.length <= 3) (hb : zcH c l = true) : ACall Tryz.prog G 95 [.agg (qK c), qO l] (.tup [.agg (yc c l), ei 0]) := by
 refine zS Tryz.func95 rfl (by kernel_rfl) rfl ?_
 refine zl (zh (zg rfl rfl (jf rfl (zY rfl)) (jb rfl (wJ rfl rfl ze3 rfl rfl) (zg rfl rfl (zn rfl rfl) (zo (zf (zl (zl (zh (zg rfl rfl (zq rfl rfl) (zg rfl rfl (qh rfl rfl rfl Tryz.underlying26) ?_)))))))))))
 refine zg rfl rfl (qR rfl rfl rfl) (zo (zf (zx rfl (fun h0 => ?_) (fun h0 => ?_))))
 ·
  exfalso; simp [qO] at h0; omega
 ·
  refine zC (zf (zl (zl (zh (zg rfl rfl (zZ rfl rfl wH (by exact zLb rfl)) (zg rfl rfl (zy (av := [_]) rfl ⟨rfl, trivial⟩ (f116 c hc)) (zg rfl rfl (je rfl rfl) (zg rfl rfl (zi rfl rfl) (zk rfl rfl rfl (fun hg => zq rfl rfl) (zk rfl rfl rfl (fun hg => qh rfl rfl (if_pos hg) Tryz.underlying26) (zk rfl rfl rfl (fun hg => qJ rfl (if_pos hg) rfl) ?_)))))))))))
  refine zg rfl rfl (qU rfl rfl rfl rfl) (zg rfl rfl (zi rfl rfl) (zk rfl rfl rfl (fun hg => zq rfl rfl) (zk rfl rfl rfl (fun hg => zcA (fs := []) (cs := [_]) rfl rfl rfl) (zk rfl rfl rfl (fun hg => zy (av := [_, _]) rfl ⟨((if_pos hg)), ((if_pos hg)), trivial⟩ (f134 l (fun g => !jX c g) 135 [] [.ptr (qK c)] hl (fun g hgm => f135 c g (hgl g hgm) hc.1))) (zg rfl rfl (qU rfl rfl rfl rfl) (zo (zf (zx rfl (fun h1 => ?_) (fun h1 => ?_)))))))))
  ·
   exfalso
   have hq := zbq.1 hb
   have hz : l ≠ [] := fun e => by rw [e] at hq; simp at hq
   simp [qO, zeb, hq.1, hz] at h1
   obtain ⟨g, hgm, hgc⟩ := h1
   rw [hq.2.2 g hgm] at hgc
   cases hgc
  ·
   refine zC (zf (zl (zh (zg rfl rfl (zZ rfl rfl wH (by exact zLb rfl)) (zg rfl rfl (zq rfl rfl) ?_)))))
   refine zg rfl rfl (zb3 (cs := [_, _, _, _]) rfl zoR rfl ⟨_, _, rfl, (zY rfl), ⟨_, _, rfl, (kQ rfl), rfl⟩⟩ (by rfl) (by simp [ofV, zO, qO, jD])) ?_
   refine jb rfl (qG rfl rfl rfl rfl rfl rfl (zY rfl) xJ (by rfl) (by exact zLb rfl)) ?_
   refine zg rfl rfl (zn rfl rfl) (zo (zf (zP ?_)))
   exact ⟨.inr rfl, ⟨_, rfl, ⟨_, _, rfl, (jK rfl rfl rfl rfl xJ rfl ⟨_, _, rfl, AVle.refl _, ⟨_, _, rfl, AVle.refl _, ⟨_, _, rfl, AVle.refl _, ⟨_, _, rfl, AVle.refl _, rfl⟩⟩⟩⟩), ⟨_, _, rfl, AVle.refl _, rfl⟩⟩⟩⟩
theorem zom (c : Cod) (l : List (List (List UInt8))) (hc : c.fields.length <= 1000 /\ c.turns.length <= 1000) (hl : l.length <= 1000) (hgl : ∀ g ∈ l, g.length <= 1000) (h3 : 3 < l.length) : ACall Tryz.prog G 85 [.agg (qK c), qO l] (.tup [.sl [], ei 3]) := by
 refine zS Tryz.func85 rfl (by kernel_rfl) rfl ?_
 refine zl (zh (zg rfl rfl (jf rfl (zY rfl)) (zg rfl rfl (zn rfl rfl) (zg rfl rfl (zn rfl rfl) (zo (zf (zl (zh (zg rfl rfl (zZ rfl rfl wH (by exact zLb rfl)) (zg rfl rfl (zq rfl rfl) (zg rfl rfl (zy (av := [_, _]) rfl ⟨rfl, rfl, trivial⟩ (zob c l hc hl hgl h3)) ?_)))))))))))
 refine zg rfl rfl (zq rfl rfl) (zg rfl rfl (zN rfl rfl rfl) (zg rfl rfl (zN rfl rfl rfl) ?_))
 refine vI  rfl rfl rfl rfl rfl rfl rfl ze3 xJ rfl (by rfl) (zY rfl) rfl ?_
 refine zg rfl rfl (zn rfl rfl) (zo (zf (zl (zl (zh (zg rfl rfl (zi rfl rfl) (zg rfl rfl (vg rfl rfl rfl) (zo (zf (zx rfl (fun h0 => ?_) (fun h0 => ?_)))))))))))
 ·
  refine zl (zh (zg rfl rfl (zi rfl rfl) (zg rfl rfl (zn rfl rfl) (zg rfl rfl (zn rfl rfl) (zo (zf (zP (zQ ?_))))))))
  exact ⟨.inr rfl, ⟨_, rfl, ⟨_, _, rfl, AVle.nil, ⟨_, _, rfl, AVle.refl _, rfl⟩⟩⟩⟩
 ·
  exfalso; simp at h0
theorem zpi (c : Cod) (l : List (List (List UInt8))) (hc : c.fields.length <= 1000 /\ c.turns.length <= 1000) (hl : l.length <= 1000) (hgl : ∀ g ∈ l, g.length <= 1000) (h3 : l.length <= 3) (hb : zcH c l = false) : ACall Tryz.prog G 85 [.agg (qK c), qO l] (.tup [.sl [], ei 2]) := by
 refine zS Tryz.func85 rfl (by kernel_rfl) rfl ?_
 refine zl (zh (zg rfl rfl (jf rfl (zY rfl)) (zg rfl rfl (zn rfl rfl) (zg rfl rfl (zn rfl rfl) (zo (zf (zl (zh (zg rfl rfl (zZ rfl rfl wH (by exact zLb rfl)) (zg rfl rfl (zq rfl rfl) (zg rfl rfl (zy (av := [_, _]) rfl ⟨rfl, rfl, trivial⟩ (zpP c l hc hl hgl h3 hb)) ?_)))))))))))
 refine zg rfl rfl (zq rfl rfl) (zg rfl rfl (zN rfl rfl rfl) (zg rfl rfl (zN rfl rfl rfl) ?_))
 refine vI  rfl rfl rfl rfl rfl rfl rfl ze3 xJ rfl (by rfl) (zY rfl) rfl ?_
 refine zg rfl rfl (zn rfl rfl) (zo (zf (zl (zl (zh (zg rfl rfl (zi rfl rfl) (zg rfl rfl (vg rfl rfl rfl) (zo (zf (zx rfl (fun h0 => ?_) (fun h0 => ?_)))))))))))
 ·
  refine zl (zh (zg rfl rfl (zi rfl rfl) (zg rfl rfl (zn rfl rfl) (zg rfl rfl (zn rfl rfl) (zo (zf (zP (zQ ?_))))))))
  exact ⟨.inr rfl, ⟨_, rfl, ⟨_, _, rfl, AVle.nil, ⟨_, _, rfl, AVle.refl _, rfl⟩⟩⟩⟩
 ·
  exfalso; simp at h0
theorem znG (c : Cod) (l : List (List (List UInt8))) (hc : c.fields.length <= 1000 /\ c.turns.length <= 1000) (hl : l.length <= 1000) (hgl : ∀ g ∈ l, g.length <= 1000) (h3 : l.length <= 3) (hb : zcH c l = true) (hm : kC c l = []) : ACall Tryz.prog G 85 [.agg (qK c), qO l] (.tup [.sl [], ei 5]) := by
 have hq := zbq.1 hb
 refine zS Tryz.func85 rfl (by kernel_rfl) rfl ?_
 refine zl (zh (zg rfl rfl (jf rfl (zY rfl)) (zg rfl rfl (zn rfl rfl) (zg rfl rfl (zn rfl rfl) (zo (zf (zl (zh (zg rfl rfl (zZ rfl rfl wH (by exact zLb rfl)) (zg rfl rfl (zq rfl rfl) (zg rfl rfl (zy (av := [_, _]) rfl ⟨rfl, rfl, trivial⟩ (zoB c l hc hl hgl h3 hb)) ?_)))))))))))
 refine zg rfl rfl (zq rfl rfl) (zg rfl rfl (zN rfl rfl rfl) (zg rfl rfl (zN rfl rfl rfl) ?_))
 refine vI  rfl rfl rfl rfl rfl rfl rfl ze3 xJ rfl (by rfl) (zY rfl) rfl ?_
 refine zg rfl rfl (zn rfl rfl) (zo (zf (zl (zl (zh (zg rfl rfl (zi rfl rfl) (zg rfl rfl (vg rfl rfl rfl) (zo (zf (zx rfl (fun h0 => ?_) (fun h0 => ?_)))))))))))
 ·
  exfalso; simp at h0
 ·
  refine zC (zf (zl (zh (zg rfl rfl (zZ rfl rfl xJ (by exact zLb rfl)) (zg rfl rfl (zy (av := [_]) rfl ⟨rfl, trivial⟩ (f96 c l hq.1 h3 hq.2.1 hq.2.2)) (zg rfl rfl (zW rfl rfl) (zo (zf (zl (zl (zh ?_)))))))))))
  refine zg rfl rfl (zq rfl rfl) (zg rfl rfl (qh rfl rfl rfl Tryz.underlying30) (zg rfl rfl (qJ rfl rfl rfl) (zo (zf (zx rfl (fun h1 => ?_) (fun h1 => ?_))))))
  ·
   refine zl (zh (zg rfl rfl (zn rfl rfl) (zg rfl rfl (zn rfl rfl) (zo (zf (zP (zQ ?_)))))))
   exact ⟨.inr rfl, ⟨_, rfl, ⟨_, _, rfl, AVle.nil, ⟨_, _, rfl, AVle.refl _, rfl⟩⟩⟩⟩
  ·
   exfalso; simp [hm] at h1
theorem zoy (c : Cod) (l : List (List (List UInt8))) (hc : c.fields.length <= 1000 /\ c.turns.length <= 1000) (hl : l.length <= 1000) (hgl : ∀ g ∈ l, g.length <= 1000) (h3 : l.length <= 3) (hb : zcH c l = true) (hm : kC c l ≠ []) : ACall Tryz.prog G 85 [.agg (qK c), qO l] (.tup [jc (kC c l), ei 0]) := by
 have hq := zbq.1 hb
 refine zS Tryz.func85 rfl (by kernel_rfl) rfl ?_
 refine zl (zh (zg rfl rfl (jf rfl (zY rfl)) (zg rfl rfl (zn rfl rfl) (zg rfl rfl (zn rfl rfl) (zo (zf (zl (zh (zg rfl rfl (zZ rfl rfl wH (by exact zLb rfl)) (zg rfl rfl (zq rfl rfl) (zg rfl rfl (zy (av := [_, _]) rfl ⟨rfl, rfl, trivial⟩ (zoB c l hc hl hgl h3 hb)) ?_)))))))))))
 refine zg rfl rfl (zq rfl rfl) (zg rfl rfl (zN rfl rfl rfl) (zg rfl rfl (zN rfl rfl rfl) ?_))
 refine vI  rfl rfl rfl rfl rfl rfl rfl ze3 xJ rfl (by rfl) (zY rfl) rfl ?_
 refine zg rfl rfl (zn rfl rfl) (zo (zf (zl (zl (zh (zg rfl rfl (zi rfl rfl) (zg rfl rfl (vg rfl rfl rfl) (zo (zf (zx rfl (fun h0 => ?_) (fun h0 => ?_)))))))))))
 ·
  exfalso; simp at h0
 ·
  refine zC (zf (zl (zh (zg rfl rfl (zZ rfl rfl xJ (by exact zLb rfl)) (zg rfl rfl (zy (av := [_]) rfl ⟨rfl, trivial⟩ (f96 c l hq.1 h3 hq.2.1 hq.2.2)) (zg rfl rfl (zW rfl rfl) (zo (zf (zl (zl (zh ?_)))))))))))
  refine zg rfl rfl (zq rfl rfl) (zg rfl rfl (qh rfl rfl rfl Tryz.underlying30) (zg rfl rfl (qJ rfl rfl rfl) (zo (zf (zx rfl (fun h1 => ?_) (fun h1 => ?_))))))
  ·
   exfalso; simp at h1; exact hm h1
  ·
   refine zC (zf (zl (zh (zg rfl rfl (zq rfl rfl) (zg rfl rfl (zW rfl rfl) (zg rfl rfl (zn rfl rfl) (zo (zf (zP ?_)))))))))
   exact ⟨.inr rfl, ⟨_, rfl, ⟨_, _, rfl, AVle.refl _, ⟨_, _, rfl, AVle.refl _, rfl⟩⟩⟩⟩
theorem f85 (c : Cod) (l : List (List (List UInt8))) (hc : c.fields.length <= 1000 /\ c.turns.length <= 1000) (hl : l.length <= 1000) (hgl : ∀ g ∈ l, g.length <= 1000) : ACall Tryz.prog G 85 [.agg (qK c), qO l] (.tup [jc (xU c l), ei (kJ c l)]) := by
 by_cases h3 : 3 < l.length
 ·
  have e : yT c l = 3 := by unfold yT; rw [if_pos h3]
  have := zom (G := G) c l hc hl hgl h3
  unfold kJ xU
  rw [e]
  exact this
 ·
  cases hb : zcH c l with
  | false =>
   have e : yT c l = 2 := by unfold yT; rw [if_neg h3, hb]; rfl
   have := zpi (G := G) c l hc hl hgl (by omega) hb
   unfold kJ xU
   rw [e]
   exact this
  | true =>
   have e : yT c l = 0 := by unfold yT; rw [if_neg h3, hb]; rfl
   unfold kJ xU
   rw [if_pos e, if_pos e]
   by_cases hm : kC c l = []
   ·
    rw [if_pos hm, hm]
    exact znG c l hc hl hgl (by omega) hb hm
   ·
    rw [if_neg hm]
    exact zoy c l hc hl hgl (by omega) hb hm
theorem f24 (c : Cod) (l : List (List (List UInt8))) (hc : c.fields.length <= 1000 /\ c.turns.length <= 1000) (hl : l.length <= 1000) (hgl : ∀ g ∈ l, g.length <= 1000) : ACall Tryz.prog G 24 [.agg (qK c), qO l] (.tup [jc (xU c l), ei (kJ c l)]) := by
 refine zS Tryz.func24 rfl (by kernel_rfl) rfl ?_
 refine zl (zh (zg rfl rfl (jf rfl (zY rfl)) (zg rfl rfl (zn rfl rfl) (zg rfl rfl (zn rfl rfl) (zo (zf (zl (zh (zg rfl rfl (zZ rfl rfl wH (by exact zLb rfl)) (zg rfl rfl (zq rfl rfl) (zg rfl rfl (zy (av := [_, _]) rfl ⟨rfl, rfl, trivial⟩ (f85 c l hc hl hgl)) ?_)))))))))))
 refine zg rfl rfl (zN rfl rfl rfl) (zg rfl rfl (zN rfl rfl rfl) (zg rfl rfl (zW rfl rfl) (zg rfl rfl (zn rfl rfl) (zo (zf (zP ?_))))))
 exact ⟨.inr rfl, ⟨_, rfl, ⟨_, _, rfl, AVle.refl _, ⟨_, _, rfl, AVle.refl _, rfl⟩⟩⟩⟩
end Go.Av
end
section
namespace Go.Av
open Go.Proofs
set_option maxRecDepth 100000
set_option maxHeartbeats 1000000
variable {G : Glob}
theorem zea : zau Tryz.prog 30 1 = true := by kernel_rfl
def zos (l : List (List (List UInt8))) : Bool := decide (l.length <= 6) && l.all zjc
theorem zb8 {l : List (List (List UInt8))} (h : zos l = true) : l.length <= 1000 /\ ∀ g ∈ l, g.length <= 1000 := by
 simp only [zos, Bool.and_eq_true, decide_eq_true_eq, List.all_eq_true] at h
 refine ⟨by omega, fun g hg => ?_⟩
 have := h.2 g hg
 simp only [zjc, Bool.and_eq_true, decide_eq_true_eq] at this
 omega
theorem zav {c : Cod} (h : y7 c = true) : c.fields.length <= 1000 /\ c.turns.length <= 1000 := by
 simp only [y7, Bool.and_eq_true, decide_eq_true_eq] at h
 omega
theorem zjt (c : Cod) (l : List (List (List UInt8))) : zcH c l = (jA c && (l.all (jX c) && decide (0 < l.length))) := by
 unfold zcH; cases jA c <;> cases l.all (jX c) <;> simp
theorem zon {c : Cod} {l : List (List (List UInt8))} (h : (!jA c || !(l.all (jX c) && decide (0 < l.length))) = true) : zcH c l = false := by
 rw [zjt]; revert h; cases jA c <;> cases (l.all (jX c) && decide (0 < l.length)) <;> simp
theorem znk {c : Cod} {l : List (List (List UInt8))} (h : (!jA c || !(l.all (jX c) && decide (0 < l.length))) = false) : zcH c l = true := by
 rw [zjt]; revert h; cases jA c <;> cases (l.all (jX c) && decide (0 < l.length)) <;> simp
theorem ints_at {L : List (List Int)} {k : Nat} (h : k < L.length) : (L.map fun m => [zO m])[k]? = some [zO L[k]] := by simp [h]
theorem kz {L : List (List Int)} : ∀ q ∈ L.map (fun m => [zO m]), q.length = 1 := by simp
theorem f22 (l : List (List (List UInt8))) : ACall Tryz.prog G 22 [qO l] (.v (.bool (zos l))) := by
 refine zS Tryz.func22 rfl (by kernel_rfl) rfl ?_
 refine zl (zh (zg rfl rfl (zn rfl rfl) (zo (zf (zl (zl (zh (zg rfl rfl (zn rfl rfl) (zo (zf (zB ?_)))))))))))
 refine qy (ι := { q : Nat // q <= l.length /\ q <= 6 /\ (l.take q).all zjc = true }) (fun q => ⟨Tryz.f22.ntmps, frL [(0, .pub (qO l)), (3, I (q.1 : Int))], []⟩) (fun q => l.length - q.1) (⟨0, by simp⟩) ?_ ?_
 ·
  exact zt _ ⟨rfl, rfl, trivial⟩ (rfl)
 ·
  rintro ⟨q, hq⟩
  dsimp only
  refine zl (zl (zh (zg rfl rfl (zi rfl rfl) (zg rfl rfl (zq rfl rfl) (zg rfl rfl (qh rfl rfl rfl Tryz.underlying26) (zg rfl rfl (qi rfl rfl rfl) (zg rfl rfl (zi rfl rfl) (zk rfl rfl rfl (fun hg => zi rfl rfl) (zk rfl rfl rfl (fun hg => qi rfl (if_pos hg) rfl) (zg rfl rfl (qI rfl rfl rfl rfl) (zo ?_)))))))))))
  refine zf (zx rfl (fun h0 => ?_) (fun h0 => ?_))
  ·
   have hlt : q < l.length := by simp [qO] at h0; omega
   have hl6 : q < 6 := by simp [qO] at h0; omega
   refine zC (zf (zl (zB (zl (zh (zg rfl rfl (zq rfl rfl) (zg rfl rfl (zi rfl rfl) (zg rfl rfl (zG rfl rfl rfl zbo (by omega) (zaL hlt) yS) (zg rfl rfl (zA rfl rfl rfl zfC) (zg rfl rfl (zy (av := [_]) rfl ⟨rfl, trivial⟩ (f65 l[q])) (zg rfl rfl (je rfl rfl) ?_)))))))))))
   refine zo (zf (zx rfl (fun h1 => ?_) (fun h1 => ?_)))
   ·
    have hb : zjc l[q] = false := by simpa using h1
    refine zl (zh (zg rfl rfl (zn rfl rfl) (zo (zf (zP (qF (zQ (zQ (qF (zQ ?_))))))))))
    exact ⟨.inr rfl, AVle.of (by rw [zos, zaW hlt hb, Bool.and_false])⟩
   ·
    have hb : zjc l[q] = true := by simpa using h1
    refine zC (zD (zf (zh (zg rfl rfl (zi rfl rfl) (zg rfl rfl (zV rfl rfl rfl ⟨(by omega), (by omega)⟩) (zg rfl rfl (zn rfl rfl) (zo ?_)))))))
    exact ⟨⟨q + 1, by omega, by omega, xQ hq.2.2 hlt hb⟩, by dsimp only; omega, zt _ ⟨rfl, rfl, trivial⟩ (rfl)⟩
  ·
   have hge : l.length <= q ∨ 6 <= q := by simp [qO] at h0; omega
   refine qp (zL (zL (qw (zf (zl (zh (zg rfl rfl (zq rfl rfl) (zg rfl rfl (qh rfl rfl rfl Tryz.underlying26) (zg rfl rfl (zaq rfl rfl rfl) (zg rfl rfl (zn rfl rfl) (zo ?_)))))))))))
   refine zf (zP ?_)
   exact ⟨.inr rfl, AVle.of (congrArg (fun x : Bool => AV.v (Value.bool x)) (by rw [Bool.eq_iff_iff]; simp only [zos, qO, List.length_map, Bool.and_eq_true, decide_eq_true_eq]; constructor; exact fun h => ⟨by omega, by have h3 := hq.2.2; rw [List.take_of_length_le (by omega)] at h3; exact h3⟩; exact fun h => by omega))⟩
theorem f88 (c : Cod) (l : List (List (List UInt8))) (hc : c.fields.length <= 1000) (hl : l.length <= 1000) (hgl : ∀ g ∈ l, g.length <= 1000) : ACall Tryz.prog G 88 [.agg (qK c), qO l] (.v (.bool (l.all (jX c) && decide (0 < l.length)))) := by
 refine zS Tryz.func88 rfl (by kernel_rfl) rfl ?_
 refine zl (zh (zg rfl rfl (jf rfl (zY rfl)) (zg rfl rfl (zn rfl rfl) (zo (zf (zl (zl (zh (zg rfl rfl (zn rfl rfl) (zo (zf ?_)))))))))))
 refine zB ?_
 refine qy (ι := { q : Nat // q <= l.length /\ (l.take q).all (jX c) = true }) (fun q => ⟨Tryz.f88.ntmps, frL [(1, .pub (qO l)), (2, .pub (.ptr (qK c))), (5, I (q.1 : Int))], []⟩) (fun q => l.length - q.1) (⟨0, by simp⟩) ?_ ?_
 ·
  exact zt _ ⟨rfl, rfl, rfl, trivial⟩ (rfl)
 ·
  rintro ⟨q, hq⟩
  dsimp only
  refine zl (zl (zh (zg rfl rfl (zi rfl rfl) (zg rfl rfl (zq rfl rfl) (zg rfl rfl (qh rfl rfl rfl Tryz.underlying26) (zg rfl rfl (qi rfl rfl rfl) (zo (zf (zx rfl (fun h0 => ?_) (fun h0 => ?_))))))))))
  ·
   have hlt : q < l.length := by simpa [qO, jc] using h0
   refine zC (zf (zl (zB (zl ?_))))
   refine qY mixed (by kernel_rfl) rfl ?_
   refine zH rfl (zZ rfl rfl wH (by exact zLb rfl)) (zH rfl (zq rfl rfl) (zH rfl (zi rfl rfl) (zH rfl (zG rfl rfl rfl zbo (by omega) (zaL hlt) yS) (zH rfl (zA rfl rfl rfl zfC) (zH rfl (zy (av := [_, _]) rfl ⟨rfl, rfl, trivial⟩ (f67 c l[q] (hgl _ (List.getElem_mem hlt)) hc)) (zH rfl (je rfl rfl) (jw (zf (zx rfl (fun h1 => ?_) (fun h1 => ?_))))))))))
   ·
    have hb : jX c l[q] = false := by simpa using h1
    refine zl (zh (zg rfl rfl (zn rfl rfl) (zo (zf (zP (qF (zQ (zQ (qF (zQ ?_))))))))))
    exact ⟨.inr rfl, AVle.of (by rw [zaW hlt hb, Bool.false_and])⟩
   ·
    have hb : jX c l[q] = true := by simpa using h1
    refine zC (zD (zf (zh (zg rfl rfl (zi rfl rfl) (zg rfl rfl (zV rfl rfl rfl ⟨(by omega), (by omega)⟩) (zg rfl rfl (zn rfl rfl) (zo ?_)))))))
    exact ⟨⟨q + 1, by omega, xQ hq.2 hlt hb⟩, by dsimp only; omega, zt _ ⟨rfl, rfl, rfl, trivial⟩ (rfl)⟩
  ·
   have hge : l.length <= q := by simpa [qO, jc] using h0
   refine qp (zL (zL (qw (zf (zl (zh (zg rfl rfl (zq rfl rfl) (zg rfl rfl (qh rfl rfl rfl Tryz.underlying26) (zg rfl rfl (qR rfl rfl rfl) (zg rfl rfl (zn rfl rfl) (zo ?_)))))))))))
   refine zf (zP ?_)
   exact ⟨.inr rfl, AVle.of (by have h3 := hq.2; rw [List.take_of_length_le (by omega)] at h3; rw [h3]; simp [qO])⟩
theorem f26 (c : Cod) (l : List (List (List UInt8))) (hc : c.fields.length <= 1000 /\ c.turns.length <= 1000) (hl : l.length <= 1000) (hgl : ∀ g ∈ l, g.length <= 1000) : ACall Tryz.prog G 26 [.agg (qK c), qO l] (ei (yT c l)) := by
 refine zS Tryz.func26 rfl (by kernel_rfl) rfl ?_
 refine zl (zh (zg rfl rfl (jf rfl (zY rfl)) (zg rfl rfl (zn rfl rfl) (zo (zf (zl (zl (zh (zg rfl rfl (zq rfl rfl) (zg rfl rfl (qh rfl rfl rfl Tryz.underlying26) (zg rfl rfl (qR rfl rfl rfl) ?_)))))))))))
 refine zo (zf (zx rfl (fun h0 => ?_) (fun h0 => ?_)))
 ·
  have h3 : 3 < l.length := by simp [qO] at h0; omega
  refine zl (zh (zg rfl rfl (zn rfl rfl) (zo (zf (zP (zQ ?_))))))
  exact ⟨.inr rfl, AVle.of (by rw [yT, if_pos h3]; rfl)⟩
 ·
  have h3 : ¬ 3 < l.length := by simp [qO] at h0; omega
  refine zC (zf (zl (zl (zh (zg rfl rfl (zZ rfl rfl wH (by exact zLb rfl)) (zg rfl rfl (zy (av := [_]) rfl ⟨rfl, trivial⟩ (f31 c hc)) (zg rfl rfl (je rfl rfl) (zg rfl rfl (zi rfl rfl) (zk rfl rfl rfl (fun hg => zZ rfl rfl wH (by exact zLb rfl)) (zk rfl rfl rfl (fun hg => zq rfl rfl) (zk rfl rfl rfl (fun hg => zy (av := [_, _]) rfl ⟨((if_pos hg)), ((if_pos hg)), trivial⟩ (f88 c l hc.1 hl hgl)) ?_)))))))))))
  refine zk rfl rfl rfl (fun hg => je rfl (if_pos hg)) (zg rfl rfl (qU rfl rfl rfl rfl) (zo (zf (zx rfl (fun h1 => ?_) (fun h1 => ?_)))))
  ·
   refine zl (zh (zg rfl rfl (zn rfl rfl) (zo (zf (zP (zQ ?_))))))
   exact ⟨.inr rfl, AVle.of (by rw [yT, if_neg h3, zon h1]; rfl)⟩
  ·
   refine zC (zf (zl (zh (zg rfl rfl (zn rfl rfl) (zo (zf (zP ?_)))))))
   exact ⟨.inr rfl, AVle.of (by rw [yT, if_neg h3, znk h1]; rfl)⟩
end Go.Av
end
