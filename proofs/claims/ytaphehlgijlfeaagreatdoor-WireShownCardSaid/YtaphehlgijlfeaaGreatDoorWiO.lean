import Derived.Test.YtaphehlgijlfeaaGreatDoorWiN
import Derived.Test.YtaphehlgijlfeaaGreatDoorWiF
import Derived.Test.YtaphehlgijlfeaaGreatDoorWiD
set_option linter.unusedVariables false
set_option linter.unusedSimpArgs false
section
namespace Go.Av
open Go.Proofs
set_option maxRecDepth 100000
set_option maxHeartbeats 1000000
variable {G:Glob}
theorem ze3:(Tryz.prog.info? 134).bind (·.zero) = some (.agg #[.slice none 0 0, .slice none 0 0, .int .i64 0, .slice none 0 0]):=by kernel_rfl
theorem zoR:xn Tryz.prog 134 [(0, 3), (3, 1)] [.slice none 0 0, .slice none 0 0, .int .i64 0, .slice none 0 0]:=⟨_, Tryz.underlying134, by kernel_rfl, by kernel_rfl⟩
theorem f165 (l:List (List (List UInt8))) (h:(List (List UInt8)) -> Bool) (f:FuncId) (fs cs:List AV) (hl:l.length <= 1000) (hf:∀ n ∈ l, ACall Tryz.prog G f (fs ++ [jD n] ++ cs) (.v (.bool (h n)))):ACall Tryz.prog G 165 [qO l, .fn f fs cs] (.v (.int .i64 (ixF h l))):=by
 have hF:=Lib.hid hf
 clear hf
 refine zS Tryz.func165 Y (by kernel_rfl) Y ?_
 refine zuy (zh (zE8 (zn Y Y) (zo (zf (zuy (zuy (zh (zE8 (zq Y Y) (zE8 (qh Y Y Y Tryz.underlying26) (zE8 (zi Y Y) (zo ?_)))))))))))
 refine zf (zB ?_)
 refine qy (ι:={ k:Nat // k <= l.length /\ (l.take k).any h = false }) (fun k=>⟨Tryz.f165.ntmps, frL [(0, .pub (qO l)), (1, .pub (.fn f fs cs)), (7, I (l.length:Int)), (8, I (k.1:Int))], []⟩) (fun k=>l.length - k.1) (⟨0, by simp⟩) ?_ ?_
 ·
  exact zt _ ⟨Y, Y, (congrArg (fun x:Nat=>I (x:Int)) (List.length_map _)), Y, trivial⟩ (Y)
 ·
  rintro ⟨k, hk⟩
  dsimp only
  refine zuy (zh (zE8 (qi Y Y Y) (zo (zf (zuy (zx Y (fun h0=>?_) (fun h0=>?_)))))))
  ·
   have hlt:k < l.length:=by simpa using h0
   refine zC (zf (zuy (zB (zuy (zh (zE8 (zi Y Y) (zE8 (zn Y Y) (zo (zf (zuy (zh ?_)))))))))))
   refine zE8 (zq Y Y) (zE8 (zq Y Y) (zE8 (zi Y Y) (zE8 (zG Y Y Y zbo (by omega) (zaL hlt) yS) (zE8 (zA Y Y Y zfC) (zE8 (zbX (av:=[_]) Y Y ⟨Y, trivial⟩ (hF.out _ (List.getElem_mem hlt))) (zo (zf (zx Y (fun h1=>?_) (fun h1=>?_)))))))))
   ·
    refine zuy (zh (zE8 (zi Y Y) (zE8 (zn Y Y) (zo (zf (zP (qF (zQ (zQ (qF (zQ ?_)))))))))))
    exact ⟨.inr Y, AVle.of (by rw [zkQ hlt hk.2 h1])⟩
   ·
    refine zC (zD (zf (zh (zE8 (zV Y Y Y ⟨(by omega), (by omega)⟩) (zE8 (zi Y Y) (zo ?_))))))
    exact ⟨⟨k + 1, by omega, zaE hk.2 hlt h1⟩, by dsimp only; omega, zt _ ⟨Y, Y, Y, Y, trivial⟩ (Y)⟩
  ·
   have hge:l.length <= k:=by simpa using h0
   refine qp (zL (zL (qw (zf (zuy (zh (zE8 (zn Y Y) (zo (zf (zP ?_))))))))))
   exact ⟨.inr Y, AVle.of (by rw [List.take_of_length_le hge] at hk; rw [zhC hk.2])⟩
theorem f134 (l:List (List (List UInt8))) (h:(List (List UInt8)) -> Bool) (f:FuncId) (fs cs:List AV) (hl:l.length <= 1000) (hf:∀ n ∈ l, ACall Tryz.prog G f (fs ++ [jD n] ++ cs) (.v (.bool (h n)))):ACall Tryz.prog G 134 [qO l, .fn f fs cs] (.v (.bool (l.any h))):=by
 refine zS Tryz.func134 Y (by kernel_rfl) Y ?_
 refine zuy (zh (zE8 (zn Y Y) (zo (zf (zuy (zh (zE8 (zq Y Y) (zE8 (zq Y Y) (zE8 (zy (av:=[_, _]) Y ⟨Y, Y, trivial⟩ (f165 l h f fs cs hl hf)) (zE8 (zbe Y Y Y) (zE8 (zn Y Y) ?_)))))))))))
 refine zo (zf (zP ?_))
 exact ⟨.inr Y, AVle.of (by rw [← zhj h l])⟩
theorem f135 (c:Cod) (l:List (List UInt8)) (hl:l.length <= 1000) (hc:c.fields.length <= 1000):ACall Tryz.prog G 135 [jD l, .ptr (qK c)] (.v (.bool (!jX c l))):=by
 refine zS Tryz.func135 Y (by kernel_rfl) Y ?_
 refine zuy (zh (zE8 (zn Y Y) (zo (zf (zuy (zh (zE8 (zZ Y Y wH (by exact zLb Y)) (zE8 (zq Y Y) (zE8 (zy (av:=[_, _]) Y ⟨Y, Y, trivial⟩ (f118 c l hl hc)) (zE8 (je Y Y) (zE8 (zn Y Y) ?_)))))))))))
 refine zo (zf (zP ?_))
 exact ⟨.inr Y, AVle.refl _⟩
def zcH (c:Cod) (l:List (List (List UInt8))):Bool:=jA c && decide (0 < l.length) && l.all (jX c)
def yT (c:Cod) (l:List (List (List UInt8))):Int:=if 3 < l.length then 3 else if zcH c l then 0 else 2
theorem zbq {c:Cod} {l:List (List (List UInt8))}:zcH c l = true ↔ jA c = true /\ 0 < l.length /\ ∀ g ∈ l, jX c g = true:=by
 simp [zcH, and_assoc]
theorem zh6 {c:Cod} {l:List (List (List UInt8))} (h:yT c l = 0):jA c = true /\ l.length <= 3 /\ 0 < l.length /\ ∀ g ∈ l, jX c g = true:=by
 unfold yT at h
 by_cases h3:3 < l.length
 ·
  rw [if_pos h3] at h; cases h
 ·
  rw [if_neg h3] at h
  cases hb:zcH c l with
  | false=>rw [hb] at h; cases h
  | true=>have:=zbq.1 hb; exact ⟨this.1, by omega, this.2⟩
theorem zGH {c:Cod} {l:List (List (List UInt8))} (h1:jA c = true) (h2:l.length <= 3) (h3:0 < l.length) (h4:∀ g ∈ l, jX c g = true):yT c l = 0:=by
 unfold yT
 rw [if_neg (by omega), if_pos (zbq.2 ⟨h1, h3, h4⟩)]
theorem zeb {α:Type} (l:List α) (p:α -> Bool):(l.any fun x=>!p x) = !l.all p:=by
 induction l with
 | nil=>rfl
 | cons a l ih=>simp only[List.any_cons, List.all_cons, ih]; cases p a <;> simp
def kJ (c:Cod) (l:List (List (List UInt8))):Int:=if yT c l = 0 then (if kC c l = [] then 5 else 0) else yT c l
def xU (c:Cod) (l:List (List (List UInt8))):List (List Int):=if yT c l = 0 then kC c l else []
theorem zob (c:Cod) (l:List (List (List UInt8))) (hc:c.fields.length <= 1000 /\ c.turns.length <= 1000) (hl:l.length <= 1000) (hgl:∀ g ∈ l, g.length <= 1000) (h3:3 < l.length):ACall Tryz.prog G 95 [.agg (qK c), qO l] (.tup [.agg [.top, .top, .top, .top], ei 3]):=by
 refine zS Tryz.func95 Y (by kernel_rfl) Y ?_
 refine zuy (zh (zE8 (jf Y (zY Y)) (jb Y (wJ Y Y ze3 Y Y) (zE8 (zn Y Y) (zo (zf (zuy (zuy (zh (zE8 (zq Y Y) (zE8 (qh Y Y Y Tryz.underlying26) ?_)))))))))))
 refine zE8 (qR Y Y Y) (zo (zf (zx Y (fun h0=>?_) (fun h0=>?_))))
 ·
  refine zuy (zh ?_)
  refine zE8 (zb3 (cs:=[_, _, _, _]) Y zoR Y Y (by rfl) (by simp [ofV, zO, qO, jD])) ?_
  refine jb Y (qG Y Y Y Y Y Y (zY Y) xJ (by rfl) (by exact zLb Y)) ?_
  refine zE8 (zn Y Y) (zo (zf (zP (zQ ?_))))
  exact ⟨.inr Y, ⟨_, Y, ⟨_, _, Y, (jK Y Y Y Y xJ Y ⟨_, _, Y, AVle.top _, ⟨_, _, Y, AVle.top _, ⟨_, _, Y, AVle.top _, ⟨_, _, Y, AVle.top _, Y⟩⟩⟩⟩), ⟨_, _, Y, AVle.refl _, Y⟩⟩⟩⟩
 ·
  exfalso; simp [qO] at h0; omega
theorem zpP (c:Cod) (l:List (List (List UInt8))) (hc:c.fields.length <= 1000 /\ c.turns.length <= 1000) (hl:l.length <= 1000) (hgl:∀ g ∈ l, g.length <= 1000) (h3:l.length <= 3) (hb:zcH c l = false):ACall Tryz.prog G 95 [.agg (qK c), qO l] (.tup [.agg [.top, .top, .top, .top], ei 2]):=by
 refine zS Tryz.func95 Y (by kernel_rfl) Y ?_
 refine zuy (zh (zE8 (jf Y (zY Y)) (jb Y (wJ Y Y ze3 Y Y) (zE8 (zn Y Y) (zo (zf (zuy (zuy (zh (zE8 (zq Y Y) (zE8 (qh Y Y Y Tryz.underlying26) ?_)))))))))))
 refine zE8 (qR Y Y Y) (zo (zf (zx Y (fun h0=>?_) (fun h0=>?_))))
 ·
  exfalso; simp [qO] at h0; omega
 ·
  refine zC (zf (zuy (zuy (zh (zE8 (zZ Y Y wH (by exact zLb Y)) (zE8 (zy (av:=[_]) Y ⟨Y, trivial⟩ (f116 c hc)) (zE8 (je Y Y) (zE8 (zi Y Y) (zE9 Y (fun hg=>zq Y Y) (zE9 Y (fun hg=>qh Y Y (if_pos hg) Tryz.underlying26) (zE9 Y (fun hg=>qJ Y (if_pos hg) Y) ?_)))))))))))
  refine zE8 (qU Y Y Y Y) (zE8 (zi Y Y) (zE9 Y (fun hg=>zq Y Y) (zE9 Y (fun hg=>zcA (fs:=[]) (cs:=[_]) Y Y Y) (zE9 Y (fun hg=>zy (av:=[_, _]) Y ⟨((if_pos hg)), ((if_pos hg)), trivial⟩ (f134 l (fun g=>!jX c g) 135 [] [.ptr (qK c)] hl (fun g hgm=>f135 c g (hgl g hgm) hc.1))) (zE8 (qU Y Y Y Y) (zo (zf (zx Y (fun h1=>?_) (fun h1=>?_)))))))))
  ·
   refine zuy (zh ?_)
   refine zE8 (zb3 (cs:=[_, _, _, _]) Y zoR Y Y (by rfl) (by simp [ofV, zO, qO, jD])) ?_
   refine jb Y (qG Y Y Y Y Y Y (zY Y) xJ (by rfl) (by exact zLb Y)) ?_
   refine zE8 (zn Y Y) (zo (zf (zP (zQ ?_))))
   exact ⟨.inr Y, ⟨_, Y, ⟨_, _, Y, (jK Y Y Y Y xJ Y ⟨_, _, Y, AVle.top _, ⟨_, _, Y, AVle.top _, ⟨_, _, Y, AVle.top _, ⟨_, _, Y, AVle.top _, Y⟩⟩⟩⟩), ⟨_, _, Y, AVle.refl _, Y⟩⟩⟩⟩
  ·
   exfalso
   have hq:zcH c l = true:=by
    simp [qO, zeb] at h1
    rw [zbq]
    refine ⟨h1.1.1, ?_, h1.2⟩
    cases l with
    | nil=>simp at h1
    | cons a t=>simp
   rw [hb] at hq
   cases hq
theorem zoB (c:Cod) (l:List (List (List UInt8))) (hc:c.fields.length <= 1000 /\ c.turns.length <= 1000) (hl:l.length <= 1000) (hgl:∀ g ∈ l, g.length <= 1000) (h3:l.length <= 3) (hb:zcH c l = true):ACall Tryz.prog G 95 [.agg (qK c), qO l] (.tup [.agg (yc c l), ei 0]):=by
 refine zS Tryz.func95 Y (by kernel_rfl) Y ?_
 refine zuy (zh (zE8 (jf Y (zY Y)) (jb Y (wJ Y Y ze3 Y Y) (zE8 (zn Y Y) (zo (zf (zuy (zuy (zh (zE8 (zq Y Y) (zE8 (qh Y Y Y Tryz.underlying26) ?_)))))))))))
 refine zE8 (qR Y Y Y) (zo (zf (zx Y (fun h0=>?_) (fun h0=>?_))))
 ·
  exfalso; simp [qO] at h0; omega
 ·
  refine zC (zf (zuy (zuy (zh (zE8 (zZ Y Y wH (by exact zLb Y)) (zE8 (zy (av:=[_]) Y ⟨Y, trivial⟩ (f116 c hc)) (zE8 (je Y Y) (zE8 (zi Y Y) (zE9 Y (fun hg=>zq Y Y) (zE9 Y (fun hg=>qh Y Y (if_pos hg) Tryz.underlying26) (zE9 Y (fun hg=>qJ Y (if_pos hg) Y) ?_)))))))))))
  refine zE8 (qU Y Y Y Y) (zE8 (zi Y Y) (zE9 Y (fun hg=>zq Y Y) (zE9 Y (fun hg=>zcA (fs:=[]) (cs:=[_]) Y Y Y) (zE9 Y (fun hg=>zy (av:=[_, _]) Y ⟨((if_pos hg)), ((if_pos hg)), trivial⟩ (f134 l (fun g=>!jX c g) 135 [] [.ptr (qK c)] hl (fun g hgm=>f135 c g (hgl g hgm) hc.1))) (zE8 (qU Y Y Y Y) (zo (zf (zx Y (fun h1=>?_) (fun h1=>?_)))))))))
  ·
   exfalso
   have hq:=zbq.1 hb
   have hz:l ≠ []:=fun e=>by rw [e] at hq; simp at hq
   simp [qO, zeb, hq.1, hz] at h1
   obtain ⟨g, hgm, hgc⟩:=h1
   rw [hq.2.2 g hgm] at hgc
   cases hgc
  ·
   refine zC (zf (zuy (zh (zE8 (zZ Y Y wH (by exact zLb Y)) (zE8 (zq Y Y) ?_)))))
   refine zE8 (zb3 (cs:=[_, _, _, _]) Y zoR Y ⟨_, _, Y, (zY Y), ⟨_, _, Y, (kQ Y), Y⟩⟩ (by rfl) (by simp [ofV, zO, qO, jD])) ?_
   refine jb Y (qG Y Y Y Y Y Y (zY Y) xJ (by rfl) (by exact zLb Y)) ?_
   refine zE8 (zn Y Y) (zo (zf (zP ?_)))
   exact ⟨.inr Y, ⟨_, Y, ⟨_, _, Y, (jK Y Y Y Y xJ Y ⟨_, _, Y, AVle.refl _, ⟨_, _, Y, AVle.refl _, ⟨_, _, Y, AVle.refl _, ⟨_, _, Y, AVle.refl _, Y⟩⟩⟩⟩), ⟨_, _, Y, AVle.refl _, Y⟩⟩⟩⟩
theorem zom (c:Cod) (l:List (List (List UInt8))) (hc:c.fields.length <= 1000 /\ c.turns.length <= 1000) (hl:l.length <= 1000) (hgl:∀ g ∈ l, g.length <= 1000) (h3:3 < l.length):ACall Tryz.prog G 85 [.agg (qK c), qO l] (.tup [.sl [], ei 3]):=by
 refine zS Tryz.func85 Y (by kernel_rfl) Y ?_
 refine zuy (zh (zE8 (jf Y (zY Y)) (zE8 (zn Y Y) (zE8 (zn Y Y) (zo (zf (zuy (zh (zE8 (zZ Y Y wH (by exact zLb Y)) (zE8 (zq Y Y) (zE8 (zy (av:=[_, _]) Y ⟨Y, Y, trivial⟩ (zob c l hc hl hgl h3)) ?_)))))))))))
 refine zE8 (zq Y Y) (zE8 (zN Y Y Y) (zE8 (zN Y Y Y) ?_))
 refine vI  Y Y Y Y Y Y Y ze3 xJ Y (by rfl) (zY Y) Y ?_
 refine zE8 (zn Y Y) (zo (zf (zuy (zuy (zh (zE8 (zi Y Y) (zE8 (vg Y Y Y) (zo (zf (zx Y (fun h0=>?_) (fun h0=>?_)))))))))))
 ·
  refine zuy (zh (zE8 (zi Y Y) (zE8 (zn Y Y) (zE8 (zn Y Y) (zo (zf (zP (zQ ?_))))))))
  exact ⟨.inr Y, ⟨_, Y, ⟨_, _, Y, AVle.nil, ⟨_, _, Y, AVle.refl _, Y⟩⟩⟩⟩
 ·
  exfalso; simp at h0
theorem zpi (c:Cod) (l:List (List (List UInt8))) (hc:c.fields.length <= 1000 /\ c.turns.length <= 1000) (hl:l.length <= 1000) (hgl:∀ g ∈ l, g.length <= 1000) (h3:l.length <= 3) (hb:zcH c l = false):ACall Tryz.prog G 85 [.agg (qK c), qO l] (.tup [.sl [], ei 2]):=by
 refine zS Tryz.func85 Y (by kernel_rfl) Y ?_
 refine zuy (zh (zE8 (jf Y (zY Y)) (zE8 (zn Y Y) (zE8 (zn Y Y) (zo (zf (zuy (zh (zE8 (zZ Y Y wH (by exact zLb Y)) (zE8 (zq Y Y) (zE8 (zy (av:=[_, _]) Y ⟨Y, Y, trivial⟩ (zpP c l hc hl hgl h3 hb)) ?_)))))))))))
 refine zE8 (zq Y Y) (zE8 (zN Y Y Y) (zE8 (zN Y Y Y) ?_))
 refine vI  Y Y Y Y Y Y Y ze3 xJ Y (by rfl) (zY Y) Y ?_
 refine zE8 (zn Y Y) (zo (zf (zuy (zuy (zh (zE8 (zi Y Y) (zE8 (vg Y Y Y) (zo (zf (zx Y (fun h0=>?_) (fun h0=>?_)))))))))))
 ·
  refine zuy (zh (zE8 (zi Y Y) (zE8 (zn Y Y) (zE8 (zn Y Y) (zo (zf (zP (zQ ?_))))))))
  exact ⟨.inr Y, ⟨_, Y, ⟨_, _, Y, AVle.nil, ⟨_, _, Y, AVle.refl _, Y⟩⟩⟩⟩
 ·
  exfalso; simp at h0
theorem znG (c:Cod) (l:List (List (List UInt8))) (hc:c.fields.length <= 1000 /\ c.turns.length <= 1000) (hl:l.length <= 1000) (hgl:∀ g ∈ l, g.length <= 1000) (h3:l.length <= 3) (hb:zcH c l = true) (hm:kC c l = []):ACall Tryz.prog G 85 [.agg (qK c), qO l] (.tup [.sl [], ei 5]):=by
 have hq:=zbq.1 hb
 refine zS Tryz.func85 Y (by kernel_rfl) Y ?_
 refine zuy (zh (zE8 (jf Y (zY Y)) (zE8 (zn Y Y) (zE8 (zn Y Y) (zo (zf (zuy (zh (zE8 (zZ Y Y wH (by exact zLb Y)) (zE8 (zq Y Y) (zE8 (zy (av:=[_, _]) Y ⟨Y, Y, trivial⟩ (zoB c l hc hl hgl h3 hb)) ?_)))))))))))
 refine zE8 (zq Y Y) (zE8 (zN Y Y Y) (zE8 (zN Y Y Y) ?_))
 refine vI  Y Y Y Y Y Y Y ze3 xJ Y (by rfl) (zY Y) Y ?_
 refine zE8 (zn Y Y) (zo (zf (zuy (zuy (zh (zE8 (zi Y Y) (zE8 (vg Y Y Y) (zo (zf (zx Y (fun h0=>?_) (fun h0=>?_)))))))))))
 ·
  exfalso; simp at h0
 ·
  refine zC (zf (zuy (zh (zE8 (zZ Y Y xJ (by exact zLb Y)) (zE8 (zy (av:=[_]) Y ⟨Y, trivial⟩ (f96 c l hq.1 h3 hq.2.1 hq.2.2)) (zE8 (zW Y Y) (zo (zf (zuy (zuy (zh ?_)))))))))))
  refine zE8 (zq Y Y) (zE8 (qh Y Y Y Tryz.underlying30) (zE8 (qJ Y Y Y) (zo (zf (zx Y (fun h1=>?_) (fun h1=>?_))))))
  ·
   refine zuy (zh (zE8 (zn Y Y) (zE8 (zn Y Y) (zo (zf (zP (zQ ?_)))))))
   exact ⟨.inr Y, ⟨_, Y, ⟨_, _, Y, AVle.nil, ⟨_, _, Y, AVle.refl _, Y⟩⟩⟩⟩
  ·
   exfalso; simp [hm] at h1
theorem zoy (c:Cod) (l:List (List (List UInt8))) (hc:c.fields.length <= 1000 /\ c.turns.length <= 1000) (hl:l.length <= 1000) (hgl:∀ g ∈ l, g.length <= 1000) (h3:l.length <= 3) (hb:zcH c l = true) (hm:kC c l ≠ []):ACall Tryz.prog G 85 [.agg (qK c), qO l] (.tup [jc (kC c l), ei 0]):=by
 have hq:=zbq.1 hb
 refine zS Tryz.func85 Y (by kernel_rfl) Y ?_
 refine zuy (zh (zE8 (jf Y (zY Y)) (zE8 (zn Y Y) (zE8 (zn Y Y) (zo (zf (zuy (zh (zE8 (zZ Y Y wH (by exact zLb Y)) (zE8 (zq Y Y) (zE8 (zy (av:=[_, _]) Y ⟨Y, Y, trivial⟩ (zoB c l hc hl hgl h3 hb)) ?_)))))))))))
 refine zE8 (zq Y Y) (zE8 (zN Y Y Y) (zE8 (zN Y Y Y) ?_))
 refine vI  Y Y Y Y Y Y Y ze3 xJ Y (by rfl) (zY Y) Y ?_
 refine zE8 (zn Y Y) (zo (zf (zuy (zuy (zh (zE8 (zi Y Y) (zE8 (vg Y Y Y) (zo (zf (zx Y (fun h0=>?_) (fun h0=>?_)))))))))))
 ·
  exfalso; simp at h0
 ·
  refine zC (zf (zuy (zh (zE8 (zZ Y Y xJ (by exact zLb Y)) (zE8 (zy (av:=[_]) Y ⟨Y, trivial⟩ (f96 c l hq.1 h3 hq.2.1 hq.2.2)) (zE8 (zW Y Y) (zo (zf (zuy (zuy (zh ?_)))))))))))
  refine zE8 (zq Y Y) (zE8 (qh Y Y Y Tryz.underlying30) (zE8 (qJ Y Y Y) (zo (zf (zx Y (fun h1=>?_) (fun h1=>?_))))))
  ·
   exfalso; simp at h1; exact hm h1
  ·
   refine zC (zf (zuy (zh (zE8 (zq Y Y) (zE8 (zW Y Y) (zE8 (zn Y Y) (zo (zf (zP ?_)))))))))
   exact ⟨.inr Y, ⟨_, Y, ⟨_, _, Y, AVle.refl _, ⟨_, _, Y, AVle.refl _, Y⟩⟩⟩⟩
theorem f85 (c:Cod) (l:List (List (List UInt8))) (hc:c.fields.length <= 1000 /\ c.turns.length <= 1000) (hl:l.length <= 1000) (hgl:∀ g ∈ l, g.length <= 1000):ACall Tryz.prog G 85 [.agg (qK c), qO l] (.tup [jc (xU c l), ei (kJ c l)]):=by
 by_cases h3:3 < l.length
 ·
  have e:yT c l = 3:=by unfold yT; rw [if_pos h3]
  have:=zom (G:=G) c l hc hl hgl h3
  unfold kJ xU
  rw [e]
  exact this
 ·
  cases hb:zcH c l with
  | false=>
   have e:yT c l = 2:=by unfold yT; rw [if_neg h3, hb]; rfl
   have:=zpi (G:=G) c l hc hl hgl (by omega) hb
   unfold kJ xU
   rw [e]
   exact this
  | true=>
   have e:yT c l = 0:=by unfold yT; rw [if_neg h3, hb]; rfl
   unfold kJ xU
   rw [if_pos e, if_pos e]
   by_cases hm:kC c l = []
   ·
    rw [if_pos hm, hm]
    exact znG c l hc hl hgl (by omega) hb hm
   ·
    rw [if_neg hm]
    exact zoy c l hc hl hgl (by omega) hb hm
theorem f24 (c:Cod) (l:List (List (List UInt8))) (hc:c.fields.length <= 1000 /\ c.turns.length <= 1000) (hl:l.length <= 1000) (hgl:∀ g ∈ l, g.length <= 1000):ACall Tryz.prog G 24 [.agg (qK c), qO l] (.tup [jc (xU c l), ei (kJ c l)]):=by
 refine zS Tryz.func24 Y (by kernel_rfl) Y ?_
 refine zuy (zh (zE8 (jf Y (zY Y)) (zE8 (zn Y Y) (zE8 (zn Y Y) (zo (zf (zuy (zh (zE8 (zZ Y Y wH (by exact zLb Y)) (zE8 (zq Y Y) (zE8 (zy (av:=[_, _]) Y ⟨Y, Y, trivial⟩ (f85 c l hc hl hgl)) ?_)))))))))))
 refine zE8 (zN Y Y Y) (zE8 (zN Y Y Y) (zE8 (zW Y Y) (zE8 (zn Y Y) (zo (zf (zP ?_))))))
 exact ⟨.inr Y, ⟨_, Y, ⟨_, _, Y, AVle.refl _, ⟨_, _, Y, AVle.refl _, Y⟩⟩⟩⟩
def zos (l:List (List (List UInt8))):Bool:=decide (l.length <= 6) && l.all zjc
theorem zb8 {l:List (List (List UInt8))} (h:zos l = true):l.length <= 1000 /\ ∀ g ∈ l, g.length <= 1000:=by
 simp only[zos, zLa, decide_eq_true_eq, List.all_eq_true] at h
 refine ⟨by omega, fun g hg=>?_⟩
 have:=h.2 g hg
 simp only[zjc, zLa, decide_eq_true_eq] at this
 omega
theorem zav {c:Cod} (h:y7 c = true):c.fields.length <= 1000 /\ c.turns.length <= 1000:=by
 simp only[y7, zLa, decide_eq_true_eq] at h
 omega
theorem zjt (c:Cod) (l:List (List (List UInt8))):zcH c l = (jA c && (l.all (jX c) && decide (0 < l.length))):=by
 unfold zcH; cases jA c <;> cases l.all (jX c) <;> simp
theorem zon {c:Cod} {l:List (List (List UInt8))} (h:(!jA c || !(l.all (jX c) && decide (0 < l.length))) = true):zcH c l = false:=by
 rw [zjt]; revert h; cases jA c <;> cases (l.all (jX c) && decide (0 < l.length)) <;> simp
theorem znk {c:Cod} {l:List (List (List UInt8))} (h:(!jA c || !(l.all (jX c) && decide (0 < l.length))) = false):zcH c l = true:=by
 rw [zjt]; revert h; cases jA c <;> cases (l.all (jX c) && decide (0 < l.length)) <;> simp
theorem f22 (l:List (List (List UInt8))):ACall Tryz.prog G 22 [qO l] (.v (.bool (zos l))):=by
 refine zS Tryz.func22 Y (by kernel_rfl) Y ?_
 refine zuy (zh (zE8 (zn Y Y) (zo (zf (zuy (zuy (zh (zE8 (zn Y Y) (zo (zf (zB ?_)))))))))))
 refine qy (ι:={ q:Nat // q <= l.length /\ q <= 6 /\ (l.take q).all zjc = true }) (fun q=>⟨Tryz.f22.ntmps, frL [(0, .pub (qO l)), (3, I (q.1:Int))], []⟩) (fun q=>l.length - q.1) (⟨0, by simp⟩) ?_ ?_
 ·
  exact zt _ ⟨Y, Y, trivial⟩ (Y)
 ·
  rintro ⟨q, hq⟩
  dsimp only
  refine zuy (zuy (zh (zE8 (zi Y Y) (zE8 (zq Y Y) (zE8 (qh Y Y Y Tryz.underlying26) (zE8 (qi Y Y Y) (zE8 (zi Y Y) (zE9 Y (fun hg=>zi Y Y) (zE9 Y (fun hg=>qi Y (if_pos hg) Y) (zE8 (qI Y Y Y Y) (zo ?_)))))))))))
  refine zf (zx Y (fun h0=>?_) (fun h0=>?_))
  ·
   have hlt:q < l.length:=by simp [qO] at h0; omega
   have hl6:q < 6:=by simp [qO] at h0; omega
   refine zC (zf (zuy (zB (zuy (zh (zE8 (zq Y Y) (zE8 (zi Y Y) (zE8 (zG Y Y Y zbo (by omega) (zaL hlt) yS) (zE8 (zA Y Y Y zfC) (zE8 (zy (av:=[_]) Y ⟨Y, trivial⟩ (f65 l[q])) (zE8 (je Y Y) ?_)))))))))))
   refine zo (zf (zx Y (fun h1=>?_) (fun h1=>?_)))
   ·
    have hb:zjc l[q] = false:=by simpa using h1
    refine zuy (zh (zE8 (zn Y Y) (zo (zf (zP (qF (zQ (zQ (qF (zQ ?_))))))))))
    exact ⟨.inr Y, AVle.of (by rw [zos, zaW hlt hb, Bool.and_false])⟩
   ·
    have hb:zjc l[q] = true:=by simpa using h1
    refine zC (zD (zf (zh (zE8 (zi Y Y) (zE8 (zV Y Y Y ⟨(by omega), (by omega)⟩) (zE8 (zn Y Y) (zo ?_)))))))
    exact ⟨⟨q + 1, by omega, by omega, xQ hq.2.2 hlt hb⟩, by dsimp only; omega, zt _ ⟨Y, Y, trivial⟩ (Y)⟩
  ·
   have hge:l.length <= q ∨ 6 <= q:=by simp [qO] at h0; omega
   refine qp (zL (zL (qw (zf (zuy (zh (zE8 (zq Y Y) (zE8 (qh Y Y Y Tryz.underlying26) (zE8 (zaq Y Y Y) (zE8 (zn Y Y) (zo ?_)))))))))))
   refine zf (zP ?_)
   exact ⟨.inr Y, AVle.of (congrArg (fun x:Bool=>AV.v (Value.bool x)) (by rw [Bool.eq_iff_iff]; simp only[zos, qO, List.length_map, zLa, decide_eq_true_eq]; constructor; exact fun h=>⟨by omega, by have h3:=hq.2.2; rw [List.take_of_length_le (by omega)] at h3; exact h3⟩; exact fun h=>by omega))⟩
theorem f88 (c:Cod) (l:List (List (List UInt8))) (hc:c.fields.length <= 1000) (hl:l.length <= 1000) (hgl:∀ g ∈ l, g.length <= 1000):ACall Tryz.prog G 88 [.agg (qK c), qO l] (.v (.bool (l.all (jX c) && decide (0 < l.length)))):=by
 refine zS Tryz.func88 Y (by kernel_rfl) Y ?_
 refine zuy (zh (zE8 (jf Y (zY Y)) (zE8 (zn Y Y) (zo (zf (zuy (zuy (zh (zE8 (zn Y Y) (zo (zf ?_)))))))))))
 refine zB ?_
 refine qy (ι:={ q:Nat // q <= l.length /\ (l.take q).all (jX c) = true }) (fun q=>⟨Tryz.f88.ntmps, frL [(1, .pub (qO l)), (2, .pub (.ptr (qK c))), (5, I (q.1:Int))], []⟩) (fun q=>l.length - q.1) (⟨0, by simp⟩) ?_ ?_
 ·
  exact zt _ ⟨Y, Y, Y, trivial⟩ (Y)
 ·
  rintro ⟨q, hq⟩
  dsimp only
  refine zuy (zuy (zh (zE8 (zi Y Y) (zE8 (zq Y Y) (zE8 (qh Y Y Y Tryz.underlying26) (zE8 (qi Y Y Y) (zo (zf (zx Y (fun h0=>?_) (fun h0=>?_))))))))))
  ·
   have hlt:q < l.length:=by simpa [qO, jc] using h0
   refine zC (zf (zuy (zB (zuy ?_))))
   refine qY mixed (by kernel_rfl) Y ?_
   refine zH Y (zZ Y Y wH (by exact zLb Y)) (zH Y (zq Y Y) (zH Y (zi Y Y) (zH Y (zG Y Y Y zbo (by omega) (zaL hlt) yS) (zH Y (zA Y Y Y zfC) (zH Y (zy (av:=[_, _]) Y ⟨Y, Y, trivial⟩ (f67 c l[q] (hgl _ (List.getElem_mem hlt)) hc)) (zH Y (je Y Y) (jw (zf (zx Y (fun h1=>?_) (fun h1=>?_))))))))))
   ·
    have hb:jX c l[q] = false:=by simpa using h1
    refine zuy (zh (zE8 (zn Y Y) (zo (zf (zP (qF (zQ (zQ (qF (zQ ?_))))))))))
    exact ⟨.inr Y, AVle.of (by rw [zaW hlt hb, Bool.false_and])⟩
   ·
    have hb:jX c l[q] = true:=by simpa using h1
    refine zC (zD (zf (zh (zE8 (zi Y Y) (zE8 (zV Y Y Y ⟨(by omega), (by omega)⟩) (zE8 (zn Y Y) (zo ?_)))))))
    exact ⟨⟨q + 1, by omega, xQ hq.2 hlt hb⟩, by dsimp only; omega, zt _ ⟨Y, Y, Y, trivial⟩ (Y)⟩
  ·
   have hge:l.length <= q:=by simpa [qO, jc] using h0
   refine qp (zL (zL (qw (zf (zuy (zh (zE8 (zq Y Y) (zE8 (qh Y Y Y Tryz.underlying26) (zE8 (qR Y Y Y) (zE8 (zn Y Y) (zo ?_)))))))))))
   refine zf (zP ?_)
   exact ⟨.inr Y, AVle.of (by have h3:=hq.2; rw [List.take_of_length_le (by omega)] at h3; rw [h3]; simp [qO])⟩
theorem f26 (c:Cod) (l:List (List (List UInt8))) (hc:c.fields.length <= 1000 /\ c.turns.length <= 1000) (hl:l.length <= 1000) (hgl:∀ g ∈ l, g.length <= 1000):ACall Tryz.prog G 26 [.agg (qK c), qO l] (ei (yT c l)):=by
 refine zS Tryz.func26 Y (by kernel_rfl) Y ?_
 refine zuy (zh (zE8 (jf Y (zY Y)) (zE8 (zn Y Y) (zo (zf (zuy (zuy (zh (zE8 (zq Y Y) (zE8 (qh Y Y Y Tryz.underlying26) (zE8 (qR Y Y Y) ?_)))))))))))
 refine zo (zf (zx Y (fun h0=>?_) (fun h0=>?_)))
 ·
  have h3:3 < l.length:=by simp [qO] at h0; omega
  refine zuy (zh (zE8 (zn Y Y) (zo (zf (zP (zQ ?_))))))
  exact ⟨.inr Y, AVle.of (by rw [yT, if_pos h3]; rfl)⟩
 ·
  have h3:¬ 3 < l.length:=by simp [qO] at h0; omega
  refine zC (zf (zuy (zuy (zh (zE8 (zZ Y Y wH (by exact zLb Y)) (zE8 (zy (av:=[_]) Y ⟨Y, trivial⟩ (f31 c hc)) (zE8 (je Y Y) (zE8 (zi Y Y) (zE9 Y (fun hg=>zZ Y Y wH (by exact zLb Y)) (zE9 Y (fun hg=>zq Y Y) (zE9 Y (fun hg=>zy (av:=[_, _]) Y ⟨((if_pos hg)), ((if_pos hg)), trivial⟩ (f88 c l hc.1 hl hgl)) ?_)))))))))))
  refine zE9 Y (fun hg=>je Y (if_pos hg)) (zE8 (qU Y Y Y Y) (zo (zf (zx Y (fun h1=>?_) (fun h1=>?_)))))
  ·
   refine zuy (zh (zE8 (zn Y Y) (zo (zf (zP (zQ ?_))))))
   exact ⟨.inr Y, AVle.of (by rw [yT, if_neg h3, zon h1]; rfl)⟩
  ·
   refine zC (zf (zuy (zh (zE8 (zn Y Y) (zo (zf (zP ?_)))))))
   exact ⟨.inr Y, AVle.of (by rw [yT, if_neg h3, znk h1]; rfl)⟩
end Go.Av
end
