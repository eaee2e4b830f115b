import Derived.Test.YtgmbdadkbominaaGreatDoorWiF
import Derived.Test.YtgmbdadkbominaaGreatDoorWiC
import Derived.Test.YtgmbdadkbominaaGreatDoorWiB
import Derived.Test.YtgmbdadkbominaaGreatDoorPlatH
import Derived.ChangeKeysEq
import Derived.Laws.StructEq
import Derived.Test.YtgmbdadkbominaaGreatDoorWiE
set_option linter.unusedVariables false
set_option linter.unusedSimpArgs false
section
namespace Go.Av
namespace Wr
open Go.Proofs Go.Proofs.Wr
set_option maxRecDepth 100000
set_option maxHeartbeats 1000000
variable {G:Glob}
theorem zsy:(Tryz.prog.info? 82).bind (·.zero) = some (.slice none 0 0):=by kernel_rfl
theorem ztS:(Tryz.prog.info? 24).bind (·.zero) = some (.slice none 0 0):=by kernel_rfl
theorem ztm:(Tryz.prog.info? 339).bind (·.zero) = some (.nilFunc):=by kernel_rfl
theorem ztg:ze3 Tryz.prog 340 1 [.int .i64 0, .int .i64 0, .int .i64 0]:=⟨_, _, Tryz.t3, Tryz.underlying340, by kernel_rfl, by kernel_rfl, by kernel_rfl⟩
theorem znb {k:Nat} (h:k <= 3):zaz k 0 0 <= 24:=by unfold zaz; omega
theorem zm4 (k:Nat):List.replicate k [I 0] = kE (List.replicate k (0:Int)):=by simp [kE]
theorem f96 (c:Cod) (l:List (List (List UInt8))) (hc:wL c = true) (hl:l.length <= 3) (hl0:0 < l.length) (hcp:∀ g ∈ l, vI c g = true):ACall Tryz.prog G 174 [.agg (vK c l)] (zd8 (vO c l)):=by
 have hcb:=zcb hc
 have hfew:=ziZ hc hl0 hcp
 obtain ⟨N, hN⟩:∃ N, N = yc c l 24 0 0 0 (0, 0, 0) (List.replicate c.fields.length (0:Int)):=⟨_, rfl⟩
 rw [← hN] at hfew
 refine zO Tryz.func174 Y (by kernel_rfl) Y ?_
 refine zn (zf (ql Y (zQ Y)) (zf (zg Y Y) (zo (zn (qL Y (jr Y Y zsy Y Y) (zo (zt ?_)))))))
 refine zx (zf (zi Y Y jk) (zf (zi Y Y yh) (zf (zl Y Y Y kS) (zf (qA Y Y Y Tryz.underlying23) ?_))))
 refine qP (cs:=[_]) Y Y Y Y Y Y Y zv3 ty3 Y (by rfl) (qU Y) Y ?_
 refine zo (zt ?_)
 refine qY (zy (mem':=[.row [[wG]]]) [(1, .pub (.ptr (vK c l))), (3, .pp 0 1 0 0), (4, .pub (.ptr [ei (c.fields.length:Int)]))] ?_ ?_) ?_
 ·exact ⟨Y, Y, (congrArg (fun z:Nat=>EV.pub (.ptr [ei (z:Int)])) (List.length_map ..)), trivial⟩
 ·exact (Y)
 refine zx (zf (zl Y Y Y ty3) ?_)
 refine qL Y (znE Y Y Y Tryz.underlying24 ti3 Y Y Y (zs:=[.int .i64 0]) Y Y Y (by decide) (by omega) (by omega) (by decide)) ?_
 refine qL Y (jr Y Y ztS Y Y) ?_
 refine qL Y (qw Y Y Y Y Y Y (zc7 Y Y (by simp)) zcX (by rfl) (by exact zLb Y)) ?_
 refine zo (zn (qL Y (jr Y Y ztm Y Y) (zo (zn (zf (vP Y) ?_)))))
 refine qL Y (qw Y Y Y Y Y Y (zkm Y) zl0 (by rfl) (by exact zLb Y)) ?_
 refine zo (zt ?_)
 refine qY (zgZ (k:=0) (i:=0) (j:=0) Y Y Y) ?_
 refine qY (zy (mem':=zd4 c l (List.replicate c.fields.length (0:Int)) []) [(1, .pub (.ptr (vK c l))), (3, .pp 0 1 0 0), (6, .pp 3 1 0 0)] ?_ ?_) ?_
 ·exact ⟨Y, Y, Y, trivial⟩
 ·exact (zeX Y (zm4 _) Y)
 refine zx (zf (zX Y Y Y Y Y Y zl0) ?_)
 refine zf (zkf (cs:=[_, _, _]) Y ztg Y Y (by rfl) (by simp [ofV])) ?_
 refine qL Y (zfW (f:=232) (fs:=[]) (cs:=zht c l) (av:=[I ((0:Nat):Int), I ((0:Nat):Int), I 0, .pub (.agg (eCn (0, 0, 0)))]) Y Y ⟨Y, Y, Y⟩ ⟨Y, Y, Y, Y, trivial⟩ (zt3 c l hc hl hcp 24 0 0 0 (0, 0, 0) (List.replicate c.fields.length (0:Int)) [] (by omega) (by omega) (fun _=>rfl) (znb hcb.1.2) (by simp) Y (zqp _) (by unfold zjT; decide) (by rw [← hN]; simpa using hfew))) ?_
 refine zo (zt ?_)
 refine qY (zy (mem':=zd4 c l (List.replicate c.fields.length (0:Int)) N) [(3, .pp 0 1 0 0)] ?_ ?_) ?_
 ·exact ⟨Y, trivial⟩
 ·exact (zcE Y (by rw [hN]; rfl))
 refine zx (zf (zX Y Y Y Y Y Y zei) (qL Y (zrV (ls:=N) Tryz.laysSlF6_f139 Y Y Y Y Y Y Y (by omega) ⟨_, Tryz.func237, Y, Y⟩ ⟨_, Tryz.func238, Y, Y⟩ zt9 zuk) (zo (zn (zf (zX Y Y Y Y Y Y zei) (zf (jm Y Y) (zo (zN ?_))))))))
 exact ⟨.inr Y, zcp Y ⟨(vO c l).map fun m=>[nums m], (congrArg (fun z=>some (PO.row z)) (show (sortL N).map (fun m=>[EV.pub (nums m)]) = _ by rw [hN]; exact zm1 (vO c l))), by rw [List.length_map, vO, (xK _).length_eq, hN], Y⟩⟩
theorem zfS:(Tryz.prog.info? 289).bind (·.zero) = some (.agg #[.slice none 0 0, .slice none 0 0, .int .i64 0, .slice none 0 0]):=by kernel_rfl
theorem zoe:vM Tryz.prog 289 [(0, 3), (3, 1)] [.slice none 0 0, .slice none 0 0, .int .i64 0, .slice none 0 0]:=⟨_, Tryz.underlying289, by kernel_rfl, by kernel_rfl⟩
theorem f165 (l:List (List (List UInt8))) (h:(List (List UInt8)) -> Bool) (f:FuncId) (fs cs:List AV) (hl:l.length <= 1000) (hf:∀ n ∈ l, ACall Tryz.prog G f (fs ++ [eStrs n] ++ cs) (.v (.bool (h n)))):ACall Tryz.prog G 274 [eCps l, .fn f fs cs] (.v (.int .i64 (ixF h l))):=by
 have hF:=Lib.hid hf
 clear hf
 refine zO Tryz.func274 Y (by kernel_rfl) Y ?_
 refine zn (zf (zg Y Y) (zo (zt (zn (zf (zI Y Y) (zf (qA Y Y Y Tryz.underlying74) (zf (zh Y Y) (zM ?_))))))))
 refine zk (zF ?_)
 refine qm (ι:={ k:Nat // k <= l.length /\ (l.take k).any h = false }) (fun k=>⟨Tryz.f274.ntmps, frL [(0, .pub (eCps l)), (1, .pub (.fn f fs cs)), (7, I (l.length:Int)), (8, I (k.1:Int))], []⟩) (fun k=>l.length - k.1) (⟨0, by simp⟩) ?_ ?_
 ·exact zy _ ⟨Y, Y, (congrArg (fun x:Nat=>I (x:Int)) (List.length_map _)), Y, trivial⟩ (Y)
 ·rintro ⟨k, hk⟩
  dsimp only
  refine zn (zf (qx Y Y Y) (zo (zt (zA Y (fun h0=>?_) (fun h0=>?_)))))
  ·have hlt:k < l.length:=by simpa using h0
   refine zH (zk (zt (zF (zn (zf (zh Y Y) (zf (zg Y Y) (zo (zn ?_))))))))
   refine zf (zI Y Y) (zf (zI Y Y) (zf (zh Y Y) (zf (zD Y Y Y zer (by omega) (zb3 hlt) zaa) (zf (zl Y Y Y zi6) (zf (vH (av:=[_]) Y Y ⟨Y, trivial⟩ (hF.out _ (List.getElem_mem hlt))) (zo (zA Y (fun h1=>?_) (fun h1=>?_))))))))
   ·refine zn (zf (zh Y Y) (zf (zg Y Y) (zo (zN (zZ (zP (zP (zZ (zP ?_)))))))))
    exact ⟨.inr Y, AVle.of (by rw [zk4 hlt hk.2 h1])⟩
   ·refine zH (zJ (zk (zx (zf (zW Y Y Y ⟨by omega, by omega⟩) (zf (zh Y Y) (zM ?_))))))
    exact ⟨⟨k + 1, by omega, zaI hk.2 hlt h1⟩, by dsimp only; omega, zy _ ⟨Y, Y, Y, Y, trivial⟩ (Y)⟩
  ·have hge:l.length <= k:=by simpa using h0
   refine qg (zS (zS (qh (zk (zn (zf (zg Y Y) (zo (zN ?_))))))))
   exact ⟨.inr Y, AVle.of (by rw [List.take_of_length_le hge] at hk; rw [zh8 hk.2])⟩
theorem f134 (l:List (List (List UInt8))) (h:(List (List UInt8)) -> Bool) (f:FuncId) (fs cs:List AV) (hl:l.length <= 1000) (hf:∀ n ∈ l, ACall Tryz.prog G f (fs ++ [eStrs n] ++ cs) (.v (.bool (h n)))):ACall Tryz.prog G 229 [eCps l, .fn f fs cs] (.v (.bool (l.any h))):=by
 refine zO Tryz.func229 Y (by kernel_rfl) Y ?_
 refine zn (zf (zg Y Y) (zo (zn (zf (zI Y Y) (zf (zI Y Y) (zf (zB (av:=[_, _]) Y ⟨Y, Y, trivial⟩ (f165 l h f fs cs hl hf)) (zf (kG Y Y Y) (zf (zg Y Y) ?_))))))))
 refine zo (zN ?_)
 exact ⟨.inr Y, AVle.of (by rw [← zhV h l])⟩
theorem f135 (c:Cod) (l:List (List UInt8)) (hl:l.length <= 1000) (hc:c.fields.length <= 1000):ACall Tryz.prog G 230 [eStrs l, .ptr (eCod c)] (.v (.bool (!vI c l))):=by
 refine zO Tryz.func230 Y (by kernel_rfl) Y ?_
 refine zn (zf (zg Y Y) (zo (zn (zf (zK Y Y zbD (by exact zLb Y)) (zf (zI Y Y) (zf (zB (av:=[_, _]) Y ⟨Y, Y, trivial⟩ (f118 c l hl hc)) (zf (qJ Y Y) (zf (zg Y Y) ?_))))))))
 refine zo (zN ?_)
 exact ⟨.inr Y, AVle.refl _⟩
def zgb (c:Cod) (l:List (List (List UInt8))):Bool:=wL c && decide (0 < l.length) && l.all (vI c)
def zb4 (c:Cod) (l:List (List (List UInt8))):Int:=if 3 < l.length then 3 else if zgb c l then 0 else 2
theorem zaM {c:Cod} {l:List (List (List UInt8))}:zgb c l = true ↔ wL c = true /\ 0 < l.length /\ ∀ g ∈ l, vI c g = true:=by
 simp [zgb, and_assoc]
theorem zpn {c:Cod} {l:List (List (List UInt8))} (h:zb4 c l = 0):wL c = true /\ l.length <= 3 /\ 0 < l.length /\ ∀ g ∈ l, vI c g = true:=by
 unfold zb4 at h
 by_cases h3:3 < l.length
 ·rw [if_pos h3] at h; cases h
 ·rw [if_neg h3] at h
  cases hb:zgb c l with
  | false=>rw [hb] at h; cases h
  | true=>have:=zaM.1 hb; exact ⟨this.1, by omega, this.2⟩
theorem zqT {c:Cod} {l:List (List (List UInt8))} (h1:wL c = true) (h2:l.length <= 3) (h3:0 < l.length) (h4:∀ g ∈ l, vI c g = true):zb4 c l = 0:=by
 unfold zb4
 rw [if_neg (by omega), if_pos (zaM.2 ⟨h1, h3, h4⟩)]
theorem zen {α:Type} (l:List α) (p:α -> Bool):(l.any fun x=>!p x) = !l.all p:=by
 induction l with
 | nil=>rfl
 | cons a l ih=>simp only[List.any_cons, List.all_cons, ih]; cases p a <;> simp
def zfJ (c:Cod) (l:List (List (List UInt8))):Int:=if zb4 c l = 0 then (if vO c l = [] then 5 else 0) else zb4 c l
def fndL (c:Cod) (l:List (List (List UInt8))):List (List Int):=if zb4 c l = 0 then vO c l else []
theorem zoq (c:Cod) (l:List (List (List UInt8))) (hc:c.fields.length <= 1000 /\ c.turns.length <= 1000) (hl:l.length <= 1000) (hgl:∀ g ∈ l, g.length <= 1000) (h3:3 < l.length):ACall Tryz.prog G 173 [.agg (eCod c), eCps l] (.tup [.agg [.top, .top, .top, .top], ei 3]):=by
 refine zO Tryz.func173 Y (by kernel_rfl) Y ?_
 refine zn (zf (ql Y (zQ Y)) (qL Y (jr Y Y zfS Y Y) (zf (zg Y Y) (zo (zt (zn (zf (zI Y Y) (zf (qA Y Y Y Tryz.underlying74) ?_))))))))
 refine zf (jB Y Y Y) (zo (zA Y (fun h0=>?_) (fun h0=>?_)))
 ·refine zn ?_
  refine zf (yl (cs:=[_, _, _, _]) Y zoe Y Y (by rfl) (by simp [ofV, eInts, eCps, eStrs])) ?_
  refine qL Y (qw Y Y Y Y Y Y (zQ Y) kR (by rfl) (by exact zLb Y)) ?_
  refine zf (zg Y Y) (zo (zN (zP ?_)))
  exact ⟨.inr Y, ⟨_, Y, ⟨_, _, Y, (jd Y Y Y Y kR Y ⟨_, _, Y, AVle.top _, ⟨_, _, Y, AVle.top _, ⟨_, _, Y, AVle.top _, ⟨_, _, Y, AVle.top _, Y⟩⟩⟩⟩), ⟨_, _, Y, AVle.refl _, Y⟩⟩⟩⟩
 ·exfalso; simp [eCps] at h0; omega
theorem zqX (c:Cod) (l:List (List (List UInt8))) (hc:c.fields.length <= 1000 /\ c.turns.length <= 1000) (hl:l.length <= 1000) (hgl:∀ g ∈ l, g.length <= 1000) (h3:l.length <= 3) (hb:zgb c l = false):ACall Tryz.prog G 173 [.agg (eCod c), eCps l] (.tup [.agg [.top, .top, .top, .top], ei 2]):=by
 refine zO Tryz.func173 Y (by kernel_rfl) Y ?_
 refine zn (zf (ql Y (zQ Y)) (qL Y (jr Y Y zfS Y Y) (zf (zg Y Y) (zo (zt (zn (zf (zI Y Y) (zf (qA Y Y Y Tryz.underlying74) ?_))))))))
 refine zf (jB Y Y Y) (zo (zA Y (fun h0=>?_) (fun h0=>?_)))
 ·exfalso; simp [eCps] at h0; omega
 ·refine zH (zk (zt (zn (zf (zK Y Y zbD (by exact zLb Y)) (zf (zB (av:=[_]) Y ⟨Y, trivial⟩ (f116 c hc)) (zf (qJ Y Y) (zf (zh Y Y) (zC Y (fun hg=>zI Y Y) (zC Y (fun hg=>qA Y Y (if_pos hg) Tryz.underlying74) (zC Y (fun hg=>qR Y (if_pos hg) Y) ?_))))))))))
  refine zf (jf Y Y Y Y) (zf (zh Y Y) (zC Y (fun hg=>zI Y Y) (zC Y (fun hg=>wC (fs:=[]) (cs:=[_]) Y Y Y) (zC Y (fun hg=>zB (av:=[_, _]) Y ⟨((if_pos hg)), ((if_pos hg)), trivial⟩ (f134 l (fun g=>!vI c g) 230 [] [.ptr (eCod c)] hl (fun g hgm=>f135 c g (hgl g hgm) hc.1))) (zf (jf Y Y Y Y) (zo (zA Y (fun h1=>?_) (fun h1=>?_))))))))
  ·refine zn ?_
   refine zf (yl (cs:=[_, _, _, _]) Y zoe Y Y (by rfl) (by simp [ofV, eInts, eCps, eStrs])) ?_
   refine qL Y (qw Y Y Y Y Y Y (zQ Y) kR (by rfl) (by exact zLb Y)) ?_
   refine zf (zg Y Y) (zo (zN (zP ?_)))
   exact ⟨.inr Y, ⟨_, Y, ⟨_, _, Y, (jd Y Y Y Y kR Y ⟨_, _, Y, AVle.top _, ⟨_, _, Y, AVle.top _, ⟨_, _, Y, AVle.top _, ⟨_, _, Y, AVle.top _, Y⟩⟩⟩⟩), ⟨_, _, Y, AVle.refl _, Y⟩⟩⟩⟩
  ·exfalso
   have hq:zgb c l = true:=by
    simp [eCps, zen] at h1
    rw [zaM]
    refine ⟨h1.1.1, ?_, h1.2⟩
    cases l with
    | nil=>simp at h1
    | cons a t=>simp
   rw [hb] at hq
   cases hq
theorem zpg (c:Cod) (l:List (List (List UInt8))) (hc:c.fields.length <= 1000 /\ c.turns.length <= 1000) (hl:l.length <= 1000) (hgl:∀ g ∈ l, g.length <= 1000) (h3:l.length <= 3) (hb:zgb c l = true):ACall Tryz.prog G 173 [.agg (eCod c), eCps l] (.tup [.agg (vK c l), ei 0]):=by
 refine zO Tryz.func173 Y (by kernel_rfl) Y ?_
 refine zn (zf (ql Y (zQ Y)) (qL Y (jr Y Y zfS Y Y) (zf (zg Y Y) (zo (zt (zn (zf (zI Y Y) (zf (qA Y Y Y Tryz.underlying74) ?_))))))))
 refine zf (jB Y Y Y) (zo (zA Y (fun h0=>?_) (fun h0=>?_)))
 ·exfalso; simp [eCps] at h0; omega
 ·refine zH (zk (zt (zn (zf (zK Y Y zbD (by exact zLb Y)) (zf (zB (av:=[_]) Y ⟨Y, trivial⟩ (f116 c hc)) (zf (qJ Y Y) (zf (zh Y Y) (zC Y (fun hg=>zI Y Y) (zC Y (fun hg=>qA Y Y (if_pos hg) Tryz.underlying74) (zC Y (fun hg=>qR Y (if_pos hg) Y) ?_))))))))))
  refine zf (jf Y Y Y Y) (zf (zh Y Y) (zC Y (fun hg=>zI Y Y) (zC Y (fun hg=>wC (fs:=[]) (cs:=[_]) Y Y Y) (zC Y (fun hg=>zB (av:=[_, _]) Y ⟨((if_pos hg)), ((if_pos hg)), trivial⟩ (f134 l (fun g=>!vI c g) 230 [] [.ptr (eCod c)] hl (fun g hgm=>f135 c g (hgl g hgm) hc.1))) (zf (jf Y Y Y Y) (zo (zA Y (fun h1=>?_) (fun h1=>?_))))))))
  ·exfalso
   have hq:=zaM.1 hb
   have hz:l ≠ []:=fun e=>by rw [e] at hq; simp at hq
   simp [eCps, zen, hq.1, hz] at h1
   obtain ⟨g, hgm, hgc⟩:=h1
   rw [hq.2.2 g hgm] at hgc
   cases hgc
  ·refine zH (zk (zn (zf (zK Y Y zbD (by exact zLb Y)) (zf (zI Y Y) ?_))))
   refine zf (yl (cs:=[_, _, _, _]) Y zoe Y ⟨_, _, Y, (zQ Y), ⟨_, _, Y, (zjo Y), Y⟩⟩ (by rfl) (by simp [ofV, eInts, eCps, eStrs])) ?_
   refine qL Y (qw Y Y Y Y Y Y (zQ Y) kR (by rfl) (by exact zLb Y)) ?_
   refine zf (zg Y Y) (zo (zN ?_))
   exact ⟨.inr Y, ⟨_, Y, ⟨_, _, Y, (jd Y Y Y Y kR Y ⟨_, _, Y, AVle.refl _, ⟨_, _, Y, AVle.refl _, ⟨_, _, Y, AVle.refl _, ⟨_, _, Y, AVle.refl _, Y⟩⟩⟩⟩), ⟨_, _, Y, AVle.refl _, Y⟩⟩⟩⟩
theorem zoX (c:Cod) (l:List (List (List UInt8))) (hc:c.fields.length <= 1000 /\ c.turns.length <= 1000) (hl:l.length <= 1000) (hgl:∀ g ∈ l, g.length <= 1000) (h3:3 < l.length):ACall Tryz.prog G 76 [.agg (eCod c), eCps l] (.tup [.sl [], ei 3]):=by
 refine zO Tryz.func76 Y (by kernel_rfl) Y ?_
 refine zn (zf (ql Y (zQ Y)) (zf (zg Y Y) (zf (zg Y Y) (zo (zn (zf (zK Y Y zbD (by exact zLb Y)) (zf (zI Y Y) (zf (zB (av:=[_, _]) Y ⟨Y, Y, trivial⟩ (zoq c l hc hl hgl h3)) ?_))))))))
 refine zf (zI Y Y) (zf (zU Y Y Y) (zf (zU Y Y Y) ?_))
 refine qP  Y Y Y Y Y Y Y zfS kR Y (by rfl) (zQ Y) Y ?_
 refine zf (zg Y Y) (zo (zt (zn (zf (zh Y Y) (zf (wE Y Y Y) (zo (zA Y (fun h0=>?_) (fun h0=>?_))))))))
 ·refine zn (zf (zh Y Y) (zf (zg Y Y) (zf (zg Y Y) (zo (zN (zP ?_))))))
  exact ⟨.inr Y, ⟨_, Y, ⟨_, _, Y, AVle.nil, ⟨_, _, Y, AVle.refl _, Y⟩⟩⟩⟩
 ·exfalso; simp at h0
theorem zpT (c:Cod) (l:List (List (List UInt8))) (hc:c.fields.length <= 1000 /\ c.turns.length <= 1000) (hl:l.length <= 1000) (hgl:∀ g ∈ l, g.length <= 1000) (h3:l.length <= 3) (hb:zgb c l = false):ACall Tryz.prog G 76 [.agg (eCod c), eCps l] (.tup [.sl [], ei 2]):=by
 refine zO Tryz.func76 Y (by kernel_rfl) Y ?_
 refine zn (zf (ql Y (zQ Y)) (zf (zg Y Y) (zf (zg Y Y) (zo (zn (zf (zK Y Y zbD (by exact zLb Y)) (zf (zI Y Y) (zf (zB (av:=[_, _]) Y ⟨Y, Y, trivial⟩ (zqX c l hc hl hgl h3 hb)) ?_))))))))
 refine zf (zI Y Y) (zf (zU Y Y Y) (zf (zU Y Y Y) ?_))
 refine qP  Y Y Y Y Y Y Y zfS kR Y (by rfl) (zQ Y) Y ?_
 refine zf (zg Y Y) (zo (zt (zn (zf (zh Y Y) (zf (wE Y Y Y) (zo (zA Y (fun h0=>?_) (fun h0=>?_))))))))
 ·refine zn (zf (zh Y Y) (zf (zg Y Y) (zf (zg Y Y) (zo (zN (zP ?_))))))
  exact ⟨.inr Y, ⟨_, Y, ⟨_, _, Y, AVle.nil, ⟨_, _, Y, AVle.refl _, Y⟩⟩⟩⟩
 ·exfalso; simp at h0
theorem znu (c:Cod) (l:List (List (List UInt8))) (hc:c.fields.length <= 1000 /\ c.turns.length <= 1000) (hl:l.length <= 1000) (hgl:∀ g ∈ l, g.length <= 1000) (h3:l.length <= 3) (hb:zgb c l = true) (hm:vO c l = []):ACall Tryz.prog G 76 [.agg (eCod c), eCps l] (.tup [.sl [], ei 5]):=by
 have hq:=zaM.1 hb
 refine zO Tryz.func76 Y (by kernel_rfl) Y ?_
 refine zn (zf (ql Y (zQ Y)) (zf (zg Y Y) (zf (zg Y Y) (zo (zn (zf (zK Y Y zbD (by exact zLb Y)) (zf (zI Y Y) (zf (zB (av:=[_, _]) Y ⟨Y, Y, trivial⟩ (zpg c l hc hl hgl h3 hb)) ?_))))))))
 refine zf (zI Y Y) (zf (zU Y Y Y) (zf (zU Y Y Y) ?_))
 refine qP  Y Y Y Y Y Y Y zfS kR Y (by rfl) (zQ Y) Y ?_
 refine zf (zg Y Y) (zo (zt (zn (zf (zh Y Y) (zf (wE Y Y Y) (zo (zA Y (fun h0=>?_) (fun h0=>?_))))))))
 ·exfalso; simp at h0
 ·refine zH (zk (zn (zf (zK Y Y kR (by exact zLb Y)) (zf (zB (av:=[_]) Y ⟨Y, trivial⟩ (f96 c l hq.1 h3 hq.2.1 hq.2.2)) (zf (qG Y Y) (zo (zt (zn ?_))))))))
  refine zf (zI Y Y) (zf (qA Y Y Y Tryz.underlying82) (zf (qR Y Y Y) (zo (zA Y (fun h1=>?_) (fun h1=>?_)))))
  ·refine zn (zf (zg Y Y) (zf (zg Y Y) (zo (zN (zP ?_)))))
   exact ⟨.inr Y, ⟨_, Y, ⟨_, _, Y, AVle.nil, ⟨_, _, Y, AVle.refl _, Y⟩⟩⟩⟩
  ·exfalso; simp [hm] at h1
theorem zoy (c:Cod) (l:List (List (List UInt8))) (hc:c.fields.length <= 1000 /\ c.turns.length <= 1000) (hl:l.length <= 1000) (hgl:∀ g ∈ l, g.length <= 1000) (h3:l.length <= 3) (hb:zgb c l = true) (hm:vO c l ≠ []):ACall Tryz.prog G 76 [.agg (eCod c), eCps l] (.tup [zd8 (vO c l), ei 0]):=by
 have hq:=zaM.1 hb
 refine zO Tryz.func76 Y (by kernel_rfl) Y ?_
 refine zn (zf (ql Y (zQ Y)) (zf (zg Y Y) (zf (zg Y Y) (zo (zn (zf (zK Y Y zbD (by exact zLb Y)) (zf (zI Y Y) (zf (zB (av:=[_, _]) Y ⟨Y, Y, trivial⟩ (zpg c l hc hl hgl h3 hb)) ?_))))))))
 refine zf (zI Y Y) (zf (zU Y Y Y) (zf (zU Y Y Y) ?_))
 refine qP  Y Y Y Y Y Y Y zfS kR Y (by rfl) (zQ Y) Y ?_
 refine zf (zg Y Y) (zo (zt (zn (zf (zh Y Y) (zf (wE Y Y Y) (zo (zA Y (fun h0=>?_) (fun h0=>?_))))))))
 ·exfalso; simp at h0
 ·refine zH (zk (zn (zf (zK Y Y kR (by exact zLb Y)) (zf (zB (av:=[_]) Y ⟨Y, trivial⟩ (f96 c l hq.1 h3 hq.2.1 hq.2.2)) (zf (qG Y Y) (zo (zt (zn ?_))))))))
  refine zf (zI Y Y) (zf (qA Y Y Y Tryz.underlying82) (zf (qR Y Y Y) (zo (zA Y (fun h1=>?_) (fun h1=>?_)))))
  ·exfalso; simp at h1; exact hm h1
  ·refine zH (zk (zn (zf (zI Y Y) (zf (qG Y Y) (zf (zg Y Y) (zo (zN ?_)))))))
   exact ⟨.inr Y, ⟨_, Y, ⟨_, _, Y, AVle.refl _, ⟨_, _, Y, AVle.refl _, Y⟩⟩⟩⟩
theorem f85 (c:Cod) (l:List (List (List UInt8))) (hc:c.fields.length <= 1000 /\ c.turns.length <= 1000) (hl:l.length <= 1000) (hgl:∀ g ∈ l, g.length <= 1000):ACall Tryz.prog G 76 [.agg (eCod c), eCps l] (.tup [zd8 (fndL c l), ei (zfJ c l)]):=by
 by_cases h3:3 < l.length
 ·have e:zb4 c l = 3:=by unfold zb4; rw [if_pos h3]
  have:=zoX (G:=G) c l hc hl hgl h3
  unfold zfJ fndL
  rw [e]
  exact this
 ·cases hb:zgb c l with
  | false=>
   have e:zb4 c l = 2:=by unfold zb4; rw [if_neg h3, hb]; rfl
   have:=zpT (G:=G) c l hc hl hgl (by omega) hb
   unfold zfJ fndL
   rw [e]
   exact this
  | true=>
   have e:zb4 c l = 0:=by unfold zb4; rw [if_neg h3, hb]; rfl
   unfold zfJ fndL
   rw [if_pos e, if_pos e]
   by_cases hm:vO c l = []
   ·rw [if_pos hm, hm]
    exact znu c l hc hl hgl (by omega) hb hm
   ·rw [if_neg hm]
    exact zoy c l hc hl hgl (by omega) hb hm
theorem f24 (c:Cod) (l:List (List (List UInt8))) (hc:c.fields.length <= 1000 /\ c.turns.length <= 1000) (hl:l.length <= 1000) (hgl:∀ g ∈ l, g.length <= 1000):ACall Tryz.prog G 26 [.agg (eCod c), eCps l] (.tup [zd8 (fndL c l), ei (zfJ c l)]):=by
 refine zO Tryz.func26 Y (by kernel_rfl) Y ?_
 refine zn (zf (ql Y (zQ Y)) (zf (zg Y Y) (zf (zg Y Y) (zo (zn (zf (zK Y Y zbD (by exact zLb Y)) (zf (zI Y Y) (zf (zB (av:=[_, _]) Y ⟨Y, Y, trivial⟩ (f85 c l hc hl hgl)) ?_))))))))
 refine zf (zU Y Y Y) (zf (zU Y Y Y) (zf (qG Y Y) (zf (zg Y Y) (zo (zN ?_)))))
 exact ⟨.inr Y, ⟨_, Y, ⟨_, _, Y, AVle.refl _, ⟨_, _, Y, AVle.refl _, Y⟩⟩⟩⟩
theorem f88 (c:Cod) (l:List (List (List UInt8))) (hc:c.fields.length <= 1000) (hl:l.length <= 1000) (hgl:∀ g ∈ l, g.length <= 1000):ACall Tryz.prog G 23 [.agg (eCod c), eCps l] (.v (.bool (l.all (vI c) && decide (0 < l.length)))):=by
 refine zO Tryz.func23 Y (by kernel_rfl) Y ?_
 refine zn (zf (ql Y (zQ Y)) (zf (zg Y Y) (zo (zt (zn (zf (zg Y Y) (zo ?_)))))))
 refine zF ?_
 refine qm (ι:={ q:Nat // q <= l.length /\ (l.take q).all (vI c) = true }) (fun q=>⟨Tryz.f23.ntmps, frL [(1, .pub (eCps l)), (2, .pub (.ptr (eCod c))), (5, I (q.1:Int))], []⟩) (fun q=>l.length - q.1) (⟨0, by simp⟩) ?_ ?_
 ·exact zy _ ⟨Y, Y, Y, trivial⟩ (Y)
 ·rintro ⟨q, hq⟩
  dsimp only
  refine zt (zn (zf (zh Y Y) (zf (zI Y Y) (zf (qA Y Y Y Tryz.underlying74) (zf (qx Y Y Y) (zo (zA Y (fun h0=>?_) (fun h0=>?_))))))))
  ·have hlt:q < l.length:=by simpa [eCps, zd8] using h0
   refine zH (zk (zt (zF (zt ?_))))
   refine qp mixed (by kernel_rfl) Y ?_
   refine zu Y (zK Y Y zbD (by exact zLb Y)) (zu Y (zI Y Y) (zu Y (zh Y Y) (zu Y (zD Y Y Y zer (by omega) (zb3 hlt) zaa) (zu Y (zl Y Y Y zi6) (zu Y (zB (av:=[_, _]) Y ⟨Y, Y, trivial⟩ (f67 c l[q] (hgl _ (List.getElem_mem hlt)) hc)) (zu Y (qJ Y Y) (qF (zk (zA Y (fun h1=>?_) (fun h1=>?_))))))))))
   ·have hb:vI c l[q] = false:=by simpa using h1
    refine zn (zf (zg Y Y) (zo (zN (zZ (zP (zP (zZ (zP ?_))))))))
    exact ⟨.inr Y, AVle.of (by rw [xB hlt hb, Bool.false_and])⟩
   ·have hb:vI c l[q] = true:=by simpa using h1
    refine zH (zJ (zk (zx (zf (zh Y Y) (zf (zW Y Y Y ⟨by omega, by omega⟩) (zf (zg Y Y) (zM ?_)))))))
    exact ⟨⟨q + 1, by omega, yF hq.2 hlt hb⟩, by dsimp only; omega, zy _ ⟨Y, Y, Y, trivial⟩ (Y)⟩
  ·have hge:l.length <= q:=by simpa [eCps, zd8] using h0
   refine qg (zS (zS (qh (zk (zn (zf (zI Y Y) (zf (qA Y Y Y Tryz.underlying74) (zf (jB Y Y Y) (zf (zg Y Y) (zM ?_))))))))))
   refine zk (zN ?_)
   exact ⟨.inr Y, AVle.of (by have h3:=hq.2; rw [List.take_of_length_le (by omega)] at h3; rw [h3]; simp [eCps])⟩
theorem zpE (c:Cod) (l:List (List (List UInt8))):(fndL c l).length <= 4000000 /\ ∀ x ∈ fndL c l, x.length <= 1000:=by
 unfold fndL
 by_cases h:zb4 c l = 0
 ·rw [if_pos h]
  obtain ⟨h1, h2, h3, h4⟩:=zpn h
  refine ⟨?_, fun x hx=>?_⟩
  ·rw [vO, (xK _).length_eq]; exact ziZ h1 h3 h4
  ·have:=yL ((ze9 h1 h2 h4).1 hx).1
   have:=(zcb h1).1
   omega
 ·rw [if_neg h]; simp
theorem zoA {c:Cod} {l:List (List (List UInt8))} (h:zfJ c l = 0):zb4 c l = 0 /\ fndL c l = vO c l /\ vO c l ≠ []:=by
 unfold zfJ at h
 by_cases h0:zb4 c l = 0
 ·rw [if_pos h0] at h
  refine ⟨h0, by unfold fndL; rw [if_pos h0], fun e=>?_⟩
  rw [if_pos e] at h; cases h
 ·rw [if_neg h0] at h; exact absurd h h0
theorem zpV {c:Cod} {l:List (List (List UInt8))} (h:zfJ c l = 0):wL c = true /\ ∀ m ∈ fndL c l, msgB c m = true /\ m.length = c.fields.length /\ ∀ x ∈ m, 0 <= x /\ x <= 1000000000000:=by
 obtain ⟨h0, h1, _⟩:=zoA h
 obtain ⟨q1, q2, q3, q4⟩:=zpn h0
 refine ⟨q1, fun m hm=>?_⟩
 rw [h1] at hm
 have:=(ze9 q1 q2 q4).1 hm
 exact ⟨this.1, yL this.1, zlS q1 this.1⟩
theorem zqM {c:Cod} {l:List (List (List UInt8))} (h:zb4 c l = 0) (h2:vO c l ≠ []):zfJ c l = 0:=by unfold zfJ; rw [if_pos h, if_neg h2]
end Wr
end Go.Av
end
