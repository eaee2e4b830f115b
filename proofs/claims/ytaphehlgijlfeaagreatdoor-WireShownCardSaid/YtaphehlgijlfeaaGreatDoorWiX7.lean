import Derived.Test.YtaphehlgijlfeaaGreatDoorWiX6
import Derived.Test.YtaphehlgijlfeaaGreatDoorPlatT
import Derived.Test.YtaphehlgijlfeaaGreatDoorPlatQ
set_option linter.unusedVariables false
set_option linter.unusedSimpArgs false
section
namespace Go.Av
open Go.Proofs
set_option maxRecDepth 100000
set_option maxHeartbeats 1000000
variable {G:Glob}
def nbN (b:Nat) (x:List Int) (i:Nat):Bool:=inB (x.getD i 0) 0 ((b:Int) - 1) && (decide (i = 0) || decide (x.getD (i - 1) 0 < x.getD i 0))
def zvY (b:Nat) (x:List Int):Bool:=(List.range x.length).all (nbN b x)
def zG2 (b:Nat) (x:List Int) (i:Nat):Prop:=∀ k, k < i -> nbN b x k = true
theorem zHc (b:Nat) (x:List Int):zG2 b x 0:=fun k hk=>absurd hk (Nat.not_lt_zero k)
theorem zGs {b:Nat} {x:List Int} {i:Nat} (h:zG2 b x i) (h2:nbN b x i = true):zG2 b x (i + 1):=fun k hk=>by
 by_cases e:k < i
 ·
  exact h k e
 ·
  rw [show k = i from by omega]; exact h2
theorem zG4 {b:Nat} {x:List Int} {i:Nat} (h:zG2 b x i) (hi:i = x.length):zvY b x = true:=by
 unfold zvY
 rw [List.all_eq_true]
 exact fun k hk=>h k (by rw [List.mem_range] at hk; omega)
theorem zGp {b:Nat} {x:List Int} {i:Nat} (hi:i < x.length) (h:nbN b x i = false):zvY b x = false:=by
 unfold zvY
 rw [Bool.eq_false_iff]
 intro h2
 rw [List.all_eq_true] at h2
 rw [h2 i (List.mem_range.2 hi)] at h; cases h
theorem zG8 {x:List Int} {i:Nat} (hi:i < x.length) (h:decide (0 < (i:Int)) = true):(x.map fun n=>[AV.v (.int .i64 n)])[((i:Int) - 1).toNat]? = some [ei (x.getD (i - 1) 0)]:=by
 have h0:0 < i:=by simp at h; omega
 rw [show ((i:Int) - 1).toNat = i - 1 from by omega]
 exact ztu (by omega)
theorem zGZ {b:Nat} {x:List Int} {i:Nat} (h:inB (x.getD i 0) 0 ((b:Int) - 1) = false):nbN b x i = false:=by unfold nbN; rw [h]; rfl
theorem zGY {b:Nat} {x:List Int} {i:Nat} (h:inB (x.getD i 0) 0 ((b:Int) - 1) = true) (h2:decide (0 < (i:Int)) = false):nbN b x i = true:=by
 have:i = 0:=by simp at h2; omega
 unfold nbN; rw [h, this]; rfl
theorem zGx {b:Nat} {x:List Int} {i:Nat} {q:Bool} (h:inB (x.getD i 0) 0 ((b:Int) - 1) = true) (h2:decide (0 < (i:Int)) = true) (h3:decide (x.getD i 0 <= x.getD (i - 1) 0) = q):nbN b x i = !q:=by
 have hi:¬ i = 0:=by simp at h2; omega
 unfold nbN; rw [h]
 generalize x.getD i 0 = u at *
 generalize x.getD (i - 1) 0 = v at *
 cases q with
 | true=>simp only[decide_eq_true_eq] at h3; simp [hi]; omega
 | false=>simp only[decide_eq_false_iff_not] at h3; simp [hi]; omega
theorem f40 (l:List (List (List UInt8))) (x:List Int) (hl:l.length <= 1000) (hxl:x.length <= 1000):ACall Tryz.prog G 40 [qO l, zO x] (.v (.bool (zvY l.length x))):=by
 refine zS Tryz.func40 Y (by kernel_rfl) Y ?_
 refine zuy (zh (zE8 (zn Y Y) (zo (zf (zuy (zuy (zh (zE8 (zn Y Y) (zo (zf (zB ?_)))))))))))
 refine qy (ι:={ i:Nat // i <= x.length /\ zG2 l.length x i }) (fun i=>⟨Tryz.f40.ntmps, frL [(0, .pub (qO l)), (1, .pub (zO x)), (5, I (i.1:Int))], []⟩) (fun i=>x.length - i.1) (⟨0, ⟨Nat.zero_le _, zHc _ _⟩⟩) ?_ ?_
 ·
  exact zt _ ⟨Y, Y, Y, trivial⟩ (Y)
 ·
  rintro ⟨i, hi⟩
  dsimp only
  refine zuy (zuy (zh (zE8 (zi Y Y) (zE8 (zq Y Y) (zE8 (zuB Y Y Tryz.underlying23) (zE8 (qi Y Y Y) (zo (zf (zx Y (fun h_0=>?_) (fun h_0=>?_))))))))))
  ·
   have hi2:i < x.length:=by simp only[decide_eq_true_eq] at h_0; omega
   refine zC (zf (zuy (zB (zuy ?_))))
   refine Or.elim (zrJ (inB (x.getD i 0) 0 ((l.length:Int) - 1))) (fun hb=>?_) (fun hb=>?_)
   ·
    refine Or.elim (zrJ (decide (0 < (i:Int)))) (fun hb2=>?_) (fun hb2=>?_)
    ·
     refine qY mixed (by kernel_rfl) Y ?_
     refine zH Y (zq Y Y) (zH Y (zi Y Y) (zH Y (zG Y Y Y jv (by omega) (ztu (k:=i) hi2) jC) (zH Y (zA Y Y Y ty3) (zH Y (zq Y Y) (zH Y (zuB Y Y Tryz.underlying26) (zH Y (ze5 Y Y Y ⟨(by omega), (by omega)⟩) (zH Y (zuW hb (zy (av:=[_, _, _]) Y ⟨Y, Y, Y, trivial⟩ (f93 _ _ _))) (zH Y (je Y Y) (zH Y (zi Y Y) (jm Y (fun hg=>zi Y Y) ?_))))))))))
     refine jm (x:=.pub (.tup [])) Y (fun hg=>absurd hg (by decide)) ?_
     refine jm Y (fun hg=>zq Y (Y)) (jm Y (fun hg=>zq Y Y) (jm Y (fun hg=>zi Y Y) ?_))
     refine jm (x:=.pub (.tup [])) Y (fun hg=>absurd hg (by decide)) ?_
     refine jm (x:=.pub (.tup [])) Y (fun hg=>absurd hg (by decide)) ?_
     refine jm Y (fun hg=>zq Y Y) (jm Y (fun hg=>zi Y Y) ?_)
     refine jm (x:=.pub (.tup [])) Y (fun hg=>absurd hg (by decide)) ?_
     refine jm (x:=.pub (.tup [])) Y (fun hg=>absurd hg (by decide)) ?_
     refine jm (x:=.pub (.tup [])) Y (fun hg=>absurd hg (by decide)) ?_
     refine jm (x:=.pub (.tup [])) Y (fun hg=>absurd hg (by decide)) ?_
     refine jm (x:=.pub (.tup [])) Y (fun hg=>absurd hg (by decide)) ?_
     refine zH Y (zU Y Y (fun _=>rfl) (fun h=>absurd h (by decide))) ?_
     refine jw (zf (zx Y (fun h_1=>?_) (fun h_1=>?_)))
     ·
      have hnb:zvY l.length x = false:=by first | exact zGp hi2 (zGZ hb) | exact absurd (show false = true from h_1) (by decide) | exact zGp hi2 (zGx hb hb2 h_1)
      refine zuy (zh (zE8 (zn Y Y) (zo (zf (zP (qF (zQ (zQ (qF (zQ ?_))))))))))
      exact ⟨.inr Y, AVle.of (by rw [hnb])⟩
     ·
      have hok:nbN l.length x i = true:=by first | exact absurd (show true = false from h_1) (by decide) | exact zGY hb hb2 | exact zGx hb hb2 h_1
      refine zC (zD (zf (zh (zE8 (zi Y Y) (zE8 (zV Y Y Y ⟨(by omega), (by omega)⟩) (zE8 (zn Y Y) (zo ?_)))))))
      exact ⟨⟨i + 1, ⟨by omega, zGs hi.2 hok⟩⟩, by dsimp only; omega, zt _ ⟨Y, Y, Y, trivial⟩ (Y)⟩
    ·
     refine qY mixed (by kernel_rfl) Y ?_
     refine zH Y (zq Y Y) (zH Y (zi Y Y) (zH Y (zG Y Y Y jv (by omega) (ztu (k:=i) hi2) jC) (zH Y (zA Y Y Y ty3) (zH Y (zq Y Y) (zH Y (zuB Y Y Tryz.underlying26) (zH Y (ze5 Y Y Y ⟨(by omega), (by omega)⟩) (zH Y (zuW hb (zy (av:=[_, _, _]) Y ⟨Y, Y, Y, trivial⟩ (f93 _ _ _))) (zH Y (je Y Y) (zH Y (zi Y Y) (jm Y (fun hg=>zi Y Y) ?_))))))))))
     refine jm (x:=.pub (.tup [])) Y (fun hg=>absurd hg (by decide)) ?_
     refine jm Y (fun hg=>zq Y (Y)) (jm Y (fun hg=>zq Y Y) (jm Y (fun hg=>zi Y Y) ?_))
     refine jm (x:=.pub (.tup [])) Y (fun hg=>absurd hg (by decide)) ?_
     refine jm (x:=.pub (.tup [])) Y (fun hg=>absurd hg (by decide)) ?_
     refine jm Y (fun hg=>zq Y Y) (jm Y (fun hg=>zi Y Y) ?_)
     refine jm (x:=.pub (.tup [])) Y (fun hg=>absurd hg (by decide)) ?_
     refine jm (x:=.pub (.tup [])) Y (fun hg=>absurd hg (by decide)) ?_
     refine jm (x:=.pub (.tup [])) Y (fun hg=>absurd hg (by decide)) ?_
     refine jm (x:=.pub (.tup [])) Y (fun hg=>absurd hg (by decide)) ?_
     refine jm (x:=.pub (.tup [])) Y (fun hg=>absurd hg (by decide)) ?_
     refine zH Y (zU Y Y (fun _=>rfl) (fun h=>absurd h (by decide))) ?_
     refine jw (zf (zx Y (fun h_1=>?_) (fun h_1=>?_)))
     ·
      have hnb:zvY l.length x = false:=by first | exact zGp hi2 (zGZ hb) | exact absurd (show false = true from h_1) (by decide) | exact zGp hi2 (zGx hb hb2 h_1)
      refine zuy (zh (zE8 (zn Y Y) (zo (zf (zP (qF (zQ (zQ (qF (zQ ?_))))))))))
      exact ⟨.inr Y, AVle.of (by rw [hnb])⟩
     ·
      have hok:nbN l.length x i = true:=by first | exact absurd (show true = false from h_1) (by decide) | exact zGY hb hb2 | exact zGx hb hb2 h_1
      refine zC (zD (zf (zh (zE8 (zi Y Y) (zE8 (zV Y Y Y ⟨(by omega), (by omega)⟩) (zE8 (zn Y Y) (zo ?_)))))))
      exact ⟨⟨i + 1, ⟨by omega, zGs hi.2 hok⟩⟩, by dsimp only; omega, zt _ ⟨Y, Y, Y, trivial⟩ (Y)⟩
   ·
    refine Or.elim (zrJ (decide (0 < (i:Int)))) (fun hb2=>?_) (fun hb2=>?_)
    ·
     refine qY mixed (by kernel_rfl) Y ?_
     refine zH Y (zq Y Y) (zH Y (zi Y Y) (zH Y (zG Y Y Y jv (by omega) (ztu (k:=i) hi2) jC) (zH Y (zA Y Y Y ty3) (zH Y (zq Y Y) (zH Y (zuB Y Y Tryz.underlying26) (zH Y (ze5 Y Y Y ⟨(by omega), (by omega)⟩) (zH Y (zuW hb (zy (av:=[_, _, _]) Y ⟨Y, Y, Y, trivial⟩ (f93 _ _ _))) (zH Y (je Y Y) (zH Y (zi Y Y) (jm Y (fun hg=>zi Y Y) (jm Y (fun hg=>zuW hb2 (qR Y Y Y)) ?_)))))))))))
     refine jm Y (fun hg=>zi Y (Y)) (jm Y (fun hg=>zq Y Y) (jm Y (fun hg=>zi Y Y) ?_))
     refine jm (x:=.pub (.tup [])) Y (fun hg=>absurd hg (by decide)) ?_
     refine jm (x:=.pub (.tup [])) Y (fun hg=>absurd hg (by decide)) ?_
     refine jm Y (fun hg=>zq Y Y) (jm Y (fun hg=>zi Y Y) ?_)
     refine jm (x:=.pub (.tup [])) Y (fun hg=>absurd hg (by decide)) ?_
     refine jm (x:=.pub (.tup [])) Y (fun hg=>absurd hg (by decide)) ?_
     refine jm (x:=.pub (.tup [])) Y (fun hg=>absurd hg (by decide)) ?_
     refine jm (x:=.pub (.tup [])) Y (fun hg=>absurd hg (by decide)) ?_
     refine jm Y (fun hg=>zU Y Y (fun h=>absurd h (by decide)) (fun _=>rfl)) ?_
     refine zH Y (qU Y Y Y Y) (jw (zf (zx Y (fun h_1=>?_) (fun h_1=>?_))))
     ·
      have hnb:zvY l.length x = false:=by first | exact zGp hi2 (zGZ hb) | exact absurd (show false = true from h_1) (by decide) | exact zGp hi2 (zGx hb hb2 h_1)
      refine zuy (zh (zE8 (zn Y Y) (zo (zf (zP (qF (zQ (zQ (qF (zQ ?_))))))))))
      exact ⟨.inr Y, AVle.of (by rw [hnb])⟩
     ·
      have hok:nbN l.length x i = true:=by first | exact absurd (show true = false from h_1) (by decide) | exact zGY hb hb2 | exact zGx hb hb2 h_1
      refine zC (zD (zf (zh (zE8 (zi Y Y) (zE8 (zV Y Y Y ⟨(by omega), (by omega)⟩) (zE8 (zn Y Y) (zo ?_)))))))
      exact ⟨⟨i + 1, ⟨by omega, zGs hi.2 hok⟩⟩, by dsimp only; omega, zt _ ⟨Y, Y, Y, trivial⟩ (Y)⟩
    ·
     refine qY mixed (by kernel_rfl) Y ?_
     refine zH Y (zq Y Y) (zH Y (zi Y Y) (zH Y (zG Y Y Y jv (by omega) (ztu (k:=i) hi2) jC) (zH Y (zA Y Y Y ty3) (zH Y (zq Y Y) (zH Y (zuB Y Y Tryz.underlying26) (zH Y (ze5 Y Y Y ⟨(by omega), (by omega)⟩) (zH Y (zuW hb (zy (av:=[_, _, _]) Y ⟨Y, Y, Y, trivial⟩ (f93 _ _ _))) (zH Y (je Y Y) (zH Y (zi Y Y) (jm Y (fun hg=>zi Y Y) (jm Y (fun hg=>zuW hb2 (qR Y Y Y)) ?_)))))))))))
     refine jm Y (fun hg=>zi Y (Y)) (jm Y (fun hg=>zq Y Y) (jm Y (fun hg=>zi Y Y) (jm Y (fun hg=>zG Y Y Y jv (by omega) (ztu (k:=i) hi2) jC) (jm Y (fun hg=>zA Y Y Y ty3) (jm Y (fun hg=>zq Y Y) (jm Y (fun hg=>zi Y Y) ?_))))))
     refine jm Y (fun hg=>ze5 Y Y Y ⟨by omega, by omega⟩) ?_
     refine jm Y (fun hg=>zG Y Y Y jv (by simp at hb2; omega) (zG8 hi2 hb2) jC) ?_
     refine jm Y (fun hg=>zA Y Y Y ty3) (jm Y (fun hg=>zaq Y Y Y) (jm Y (fun hg=>qI Y Y Y Y) (zH Y (qU Y Y Y Y) (jw (zf (zx Y (fun h_1=>?_) (fun h_1=>?_)))))))
     ·
      have hnb:zvY l.length x = false:=by first | exact zGp hi2 (zGZ hb) | exact absurd (show false = true from h_1) (by decide) | exact zGp hi2 (zGx hb hb2 h_1)
      refine zuy (zh (zE8 (zn Y Y) (zo (zf (zP (qF (zQ (zQ (qF (zQ ?_))))))))))
      exact ⟨.inr Y, AVle.of (by rw [hnb])⟩
     ·
      have hok:nbN l.length x i = true:=by first | exact absurd (show true = false from h_1) (by decide) | exact zGY hb hb2 | exact zGx hb hb2 h_1
      refine zC (zD (zf (zh (zE8 (zi Y Y) (zE8 (zV Y Y Y ⟨(by omega), (by omega)⟩) (zE8 (zn Y Y) (zo ?_)))))))
      exact ⟨⟨i + 1, ⟨by omega, zGs hi.2 hok⟩⟩, by dsimp only; omega, zt _ ⟨Y, Y, Y, trivial⟩ (Y)⟩
  ·
   have hi2:i = x.length:=by have:=hi.1; simp only[decide_eq_false_iff_not] at h_0; omega
   have hnb:=zG4 hi.2 hi2
   refine qp (zL (zL (qw (zf (zuy (zh (zE8 (zn Y Y) (zo (zf (zP ?_))))))))))
   exact ⟨.inr Y, AVle.of (by rw [hnb])⟩
theorem zHf {b:Nat} {lo lo':Int}:∀ {x:List Int}, lo' <= lo -> Inc b lo x -> Inc b lo' x
 | [], _, _=>trivial
 | z :: t, h, hx=>⟨Int.le_trans h hx.1, hx.2⟩
theorem zGo {b:Nat}:∀ {x:List Int} {lo:Int} (i:Nat), Inc b lo x -> Inc b lo (x.take i ++ x.drop (i + 1))
 | [], _, i, _=>by simp [Inc]
 | z :: t, lo, 0, h=>zHf (Int.le_trans h.1 (by omega)) h.2.2
 | z :: t, lo, i + 1, h=>⟨h.1, h.2.1, zGo i h.2.2⟩
theorem zG1 {b:Nat}:∀ {x:List Int} {lo:Int}, (∀ i, i < x.length -> x.getD i 0 < (b:Int)) -> (∀ i, i + 1 < x.length -> x.getD i 0 < x.getD (i + 1) 0) -> (x ≠ [] -> lo <= x.getD 0 0) -> Inc b lo x
 | [], _, _, _, _=>trivial
 | z :: t, lo, h1, h2, h3=>⟨by simpa using h3 (by simp), by simpa using h1 0 (by simp), zG1 (fun i hi=>by simpa using h1 (i + 1) (by simpa using hi)) (fun i hi=>by simpa using h2 (i + 1) (by simpa using hi)) (fun ht=>by
  have hl:0 < t.length:=List.length_pos_iff.2 ht
  have:=h2 0 (by simpa using hl)
  have e:(z :: t).getD 0 0 = z:=rfl
  have e2:(z :: t).getD 1 0 = t.getD 0 0:=rfl
  rw [e, Nat.zero_add, e2] at this
  omega)⟩
theorem zGt {b:Nat} {x:List Int} (h:zvY b x = true):Inc b 0 x:=by
 unfold zvY at h
 rw [List.all_eq_true] at h
 have h':∀ i, i < x.length -> nbN b x i = true:=fun i hi=>h i (List.mem_range.2 hi)
 refine zG1 (fun i hi=>?_) (fun i hi=>?_) (fun hx=>?_)
 ·
  have:=h' i hi
  simp only[nbN, zLa] at this
  have:=zdh.1 this.1
  omega
 ·
  have:=h' (i + 1) hi
  simp only[nbN, zLa, Bool.or_eq_true, decide_eq_true_eq] at this
  rcases this.2 with h | h
  ·
   omega
  ·
   exact h
 ·
  have:=h' 0 (List.length_pos_iff.2 hx)
  simp only[nbN, zLa] at this
  exact (zdh.1 this.1).1
theorem zGO {b:Nat}:∀ {x:List Int} {lo:Int}, Inc b lo x -> ∀ i, i + 1 < x.length -> x.getD i 0 < x.getD (i + 1) 0
 | [], _, _, i, hi=>by simp at hi
 | [z], _, _, i, hi=>by simp at hi
 | z :: w :: t, lo, h, 0, hi=>by
  have:=h.2.2.1
  show z < w
  omega
 | z :: w :: t, lo, h, i + 1, hi=>zGO h.2.2 i (by simpa using hi)
theorem zGG {b:Nat} {x:List Int} (h:Inc b 0 x):zvY b x = true:=by
 unfold zvY
 rw [List.all_eq_true]
 intro i hi
 rw [List.mem_range] at hi
 have hb:=zCu (by omega) h (x.getD i 0) (by rw [List.getD_eq_getElem?_getD, List.getElem?_eq_getElem hi]; exact List.getElem_mem hi)
 simp only[nbN, zLa, Bool.or_eq_true, decide_eq_true_eq]
 refine ⟨zdh.2 (by omega), ?_⟩
 by_cases h0:i = 0
 ·
  exact .inl h0
 ·
  have:=zGO h (i - 1) (by omega)
  rw [show i - 1 + 1 = i from by omega] at this
  exact .inr this
section
variable {c:Cod} {l:List (List (List UInt8))}
theorem zGu (hc:jA c = true) (hl:l.length <= 3) (hcp:∀ g ∈ l, jX c g = true) {x:List Int} (hx:Inc l.length 0 x) (h0:0 < x.length):yT c (zuT l x) = 0:=by
 have hbd:=zCu (by omega) hx
 have hxl:=zyu (by omega) hx
 exact zGH hc (by simp only[zuT, List.length_map]; omega) (by simp only[zuT, List.length_map]; omega) (zBM hbd hcp)
theorem zGm (hgl:∀ g ∈ l, g.length <= 1000) {x:List Int} (hbd:∀ y ∈ x, 0 <= y /\ y < (l.length:Int)):∀ g ∈ zuT l x, g.length <= 1000:=fun g hg=>by
 obtain ⟨y, hy, rfl⟩:=List.mem_map.1 hg
 have hv:y.toNat < l.length:=by have:=hbd y hy; omega
 simp only[List.getD_eq_getElem?_getD, List.getElem?_eq_getElem hv, Option.getD_some]
 exact hgl _ (List.getElem_mem hv)
theorem zGl (l:List (List (List UInt8))) (x:List Int):(zuT l x).length = x.length:=List.length_map ..
theorem zG3 {x:List Int} (h:zvZ c l x = true):x ≠ [] /\ kC c (zuT l x) = []:=by
 unfold zvZ at h
 simp only[zLa] at h
 refine ⟨fun e=>by subst e; simp at h, List.isEmpty_iff.1 h.2⟩
theorem zGN {x:List Int} (h0:0 < x.length) (h:kC c (zuT l x) = []):zvZ c l x = true:=by
 unfold zvZ; rw [h]
 cases x with
 | nil=>simp at h0
 | cons a b=>rfl
theorem zG7 {a b:List Int} (h:Fst a b):a.length <= b.length:=by rcases h with h | h <;> omega
theorem zGT (hc:jA c = true) (hl:l.length <= 3) (hcp:∀ g ∈ l, jX c g = true) (h0:0 < l.length) (hN:kC c l = []) {L:List Int} (hL:zw1 (zvZ c l) l.length = L) {i:Nat} (hi:i < L.length) (h1:1 < L.length):kJ c (zuT l (L.take i ++ L.drop (i + 1))) = 0:=by
 obtain ⟨q1, q2, q3, q4⟩:=zF4 h0 hN
 rw [hL] at q1 q2 q3 q4
 have hd:=zGo i (zzM.1 q3)
 have hdl:(L.take i ++ L.drop (i + 1)).length = L.length - 1:=by simp; omega
 refine zp7 (zGu hc hl hcp hd (by omega)) fun e=>?_
 rcases q4 _ (zzM.2 hd) (zGN (by omega) e) with h | h
 ·
  have:=congrArg List.length h; omega
 ·
  have:=zG7 h; omega
theorem zGI (hc:jA c = true) (hl:l.length <= 3) (hcp:∀ g ∈ l, jX c g = true) (h0:0 < l.length) (hN:kC c l = []) {L:List Int} (hL:zw1 (zvZ c l) l.length = L):kJ c (zuT l L) = 5 /\ 0 < L.length /\ Inc l.length 0 L:=by
 obtain ⟨q1, q2, q3, q4⟩:=zF4 h0 hN
 rw [hL] at q1 q2 q3 q4
 have hi:=zzM.1 q3
 have hb:=zG3 q2
 have hp:0 < L.length:=List.length_pos_iff.2 q1
 exact ⟨zfe (zGu hc hl hcp hi hp) hb.2, hp, hi⟩
theorem zHb (h0:0 < l.length) (hN:kC c l = []) {L o:List Int} (hL:zw1 (zvZ c l) l.length = L) (ho:Inc l.length 0 o) (hp:0 < o.length) (hm:kC c (zuT l o) = []):L.length < o.length ∨ (L.length = o.length /\ ltL o L = false):=by
 obtain ⟨q1, q2, q3, q4⟩:=zF4 h0 hN
 rw [hL] at q1 q2 q3 q4
 rcases q4 o (zzM.2 ho) (zGN hp hm) with rfl | h | h
 ·
  exact .inr ⟨Y, zct _⟩
 ·
  exact .inl h
 ·
  exact .inr ⟨h.1, zd0 h.2⟩
theorem zG9 (hc:jA c = true) (hl:l.length <= 3) (hcp:∀ g ∈ l, jX c g = true) (hN:kC c l ≠ []) {o:List Int} (ho:Inc l.length 0 o) (hp:0 < o.length):kJ c (zuT l o) = 0:=by
 refine zp7 (zGu hc hl hcp ho hp) fun e=>?_
 obtain ⟨m, hm⟩:=List.exists_mem_of_ne_nil _ hN
 have:=zF2 hc hl hcp ho hm
 rw [e] at this; cases this
end
theorem zGP {l:List (List (List UInt8))} {x:List Int} (hl:l.length <= 1000) (hxl:x.length <= 1000) {b:Bool} (h:zvY l.length x = b):ACall Tryz.prog G 40 [qO l, zO x] (.v (.bool b)):=h ▸ f40 l x hl hxl
theorem zHn {a b:List Int} (ha:a.length <= 100000) (hb:b.length <= 100000) {r:Bool} (h:ltL a b = r):ACall Tryz.prog G 42 [zO a, zO b] (.v (.bool r)):=h ▸ f42 a b ha hb
theorem zG6 {x:List Int} {i:Nat}:((x.take i ++ x.drop (i + 1)).map fun q=>[AV.v (.int .i64 q)]) = ((x.map fun q=>[AV.v (.int .i64 q)]).take i) ++ ((x.map fun q=>[AV.v (.int .i64 q)]).drop (i + 1)):=by rw [List.map_append, List.map_take, List.map_drop]
theorem zGr {n:Nat} (h:0 < n):(((n:Nat):Int) == 0) = false:=by rw [beq_eq_false_iff_ne]; omega
theorem zGR {i n:Nat} (h:(decide ((i:Int) < (n:Int)) && decide (1 < (n:Int))) = true):i < n /\ 1 < n:=by
 simp only[zLa, decide_eq_true_eq] at h
 omega
theorem zGn (L:List Int) (a b:Nat):∀ r ∈ ((((L.map fun q=>[AV.v (.int .i64 q)]).take a).drop b).map (·.map EV.pub)), r.length = 1:=fun r hr=>by
 obtain ⟨q, hq, rfl⟩:=List.mem_map.1 hr
 have:=List.mem_of_mem_take (List.mem_of_mem_drop hq)
 obtain ⟨z, _, rfl⟩:=List.mem_map.1 this
 rfl
theorem zGy (L:List Int) {i:Nat} (h:i < L.length):((((L.map fun q=>[AV.v (.int .i64 q)]).take ((i:Nat):Int).toNat).drop (0:Int).toNat).map (·.map EV.pub)) ++ ((((L.map fun q=>[AV.v (.int .i64 q)]).take (((L.map fun q=>[AV.v (.int .i64 q)]).length:Nat):Int).toNat).drop ((i:Int) + 1).toNat).map (·.map EV.pub)) = ((L.take i ++ L.drop (i + 1)).map fun q=>[AV.v (.int .i64 q)]).map (·.map .pub):=by
 rw [zG6, List.map_append, Int.toNat_natCast, Int.toNat_natCast, List.take_length, show ((i:Int) + 1).toNat = i + 1 from by omega]; rfl
theorem zGQ {L:List Int} {i:Nat} (h:i < L.length):((L.take i ++ L.drop (i + 1)).map fun q=>[AV.v (.int .i64 q)]).length = ((((L.map fun q=>[AV.v (.int .i64 q)]).take ((i:Nat):Int).toNat).drop (0:Int).toNat).map (·.map EV.pub)).length + ((((L.map fun q=>[AV.v (.int .i64 q)]).take (((L.map fun q=>[AV.v (.int .i64 q)]).length:Nat):Int).toNat).drop ((i:Int) + 1).toNat).map (·.map EV.pub)).length:=by
 rw [← List.length_append, zGy L h, List.length_map, List.length_map, List.length_map]
theorem zHl (hk:KN G) (c:Cod) (l:List (List (List UInt8))) (o:List Int) (hs:y7 c = false):ACall Tryz.prog G 6 [.agg (qK c), qO l, zO o] (.v (.bool true)):=by
 refine zS Tryz.func6 Y (by kernel_rfl) Y ?_
 refine zuy (zh (zE8 (jf Y (zY Y)) (zE8 (zn Y Y) (zo (zf (zuy (zuy (zh (zE8 (zZ Y Y wH (by exact zLb Y)) (zE8 (zy (av:=[_]) Y ⟨Y, trivial⟩ (zoc c hs)) (zE8 (je Y Y) ?_)))))))))))
 refine zE8 (zi Y Y) (zE9 Y (fun hg=>zq Y Y) ?_)
 refine zk (x:=.pub (.tup [])) Y Y Y (fun hg=>absurd hg (by decide)) ?_
 refine zk (x:=.pub (.tup [])) Y Y Y (fun hg=>absurd hg (by decide)) ?_
 refine zE8 (zU Y Y (fun _=>rfl) (fun h=>absurd h (by decide))) ?_
 refine zE8 (zi Y Y) (zE9 Y (fun hg=>zq Y Y) ?_)
 refine zk (x:=.pub (.tup [])) Y Y Y (fun hg=>absurd hg (by decide)) ?_
 refine zk (x:=.pub (.tup [])) Y Y Y (fun hg=>absurd hg (by decide)) ?_
 refine zE8 (zU Y Y (fun _=>rfl) (fun h=>absurd h (by decide))) ?_
 refine zE8 (zi Y Y) (zE9 Y (fun hg=>zZ Y Y wH (by exact zLb Y)) (zE9 Y (fun hg=>zq Y Y) ?_))
 refine zk (x:=.pub (.tup [])) Y Y Y (fun hg=>absurd hg (by decide)) ?_
 refine zk (x:=.pub (.tup [])) Y Y Y (fun hg=>absurd hg (by decide)) ?_
 refine zE8 (zU Y Y (fun _=>rfl) (fun h=>absurd h (by decide))) ?_
 refine zE8 (zi Y Y) (zE9 Y (fun hg=>zq Y Y) ?_)
 refine zk (x:=.pub (.tup [])) Y Y Y (fun hg=>absurd hg (by decide)) ?_
 refine zk (x:=.pub (.tup [])) Y Y Y (fun hg=>absurd hg (by decide)) ?_
 refine zE8 (zU Y Y (fun _=>rfl) (fun h=>absurd h (by decide))) ?_
 refine zE8 (zi Y Y) (zE9 Y (fun hg=>zq Y Y) (zE9 Y (fun hg=>zq Y Y) ?_))
 refine zk (x:=.pub (.tup [])) Y Y Y (fun hg=>absurd hg (by decide)) ?_
 refine zk (x:=.pub (.tup [])) Y Y Y (fun hg=>absurd hg (by decide)) ?_
 refine zE8 (zU Y Y (fun _=>rfl) (fun h=>absurd h (by decide))) ?_
 refine zo (zf (zx Y (fun h_0=>?_) (fun h_0=>?_)))
 ·
  refine zuy (zh (zE8 (zy (av:=[]) Y trivial hk) (zE8 (zn Y Y) (zo (zf (zP (zQ ?_)))))))
  exact ⟨.inr Y, AVle.refl _⟩
 ·
  exact absurd (show true = false from h_0) (by decide)
theorem zHh (hk:KN G) (c:Cod) (l:List (List (List UInt8))) (o:List Int) (hs:y7 c = true) (hf:zos l = false):ACall Tryz.prog G 6 [.agg (qK c), qO l, zO o] (.v (.bool true)):=by
 have zc:=zav hs
 refine zS Tryz.func6 Y (by kernel_rfl) Y ?_
 refine zuy (zh (zE8 (jf Y (zY Y)) (zE8 (zn Y Y) (zo (zf (zuy (zuy (zh (zE8 (zZ Y Y wH (by exact zLb Y)) (zE8 (zy (av:=[_]) Y ⟨Y, trivial⟩ (zoc c hs)) (zE8 (je Y Y) ?_)))))))))))
 refine zE8 (zi Y Y) (zE9 Y (fun hg=>zq Y Y) (zE9 Y (fun hg=>zy (av:=[_]) Y ⟨(Y), trivial⟩ (zzH l hf)) (zE9 Y (fun hg=>je Y (Y)) (zE8 (qU Y Y Y Y) (zE8 (zi Y Y) (zE9 Y (fun hg=>zq Y Y) ?_))))))
 refine zk (x:=.pub (.tup [])) Y Y Y (fun hg=>absurd hg (by decide)) ?_
 refine zk (x:=.pub (.tup [])) Y Y Y (fun hg=>absurd hg (by decide)) ?_
 refine zE8 (zU Y Y (fun _=>rfl) (fun h=>absurd h (by decide))) ?_
 refine zE8 (zi Y Y) (zE9 Y (fun hg=>zZ Y Y wH (by exact zLb Y)) (zE9 Y (fun hg=>zq Y Y) ?_))
 refine zk (x:=.pub (.tup [])) Y Y Y (fun hg=>absurd hg (by decide)) ?_
 refine zk (x:=.pub (.tup [])) Y Y Y (fun hg=>absurd hg (by decide)) ?_
 refine zE8 (zU Y Y (fun _=>rfl) (fun h=>absurd h (by decide))) ?_
 refine zE8 (zi Y Y) (zE9 Y (fun hg=>zq Y Y) ?_)
 refine zk (x:=.pub (.tup [])) Y Y Y (fun hg=>absurd hg (by decide)) ?_
 refine zk (x:=.pub (.tup [])) Y Y Y (fun hg=>absurd hg (by decide)) ?_
 refine zE8 (zU Y Y (fun _=>rfl) (fun h=>absurd h (by decide))) ?_
 refine zE8 (zi Y Y) (zE9 Y (fun hg=>zq Y Y) (zE9 Y (fun hg=>zq Y Y) ?_))
 refine zk (x:=.pub (.tup [])) Y Y Y (fun hg=>absurd hg (by decide)) ?_
 refine zk (x:=.pub (.tup [])) Y Y Y (fun hg=>absurd hg (by decide)) ?_
 refine zE8 (zU Y Y (fun _=>rfl) (fun h=>absurd h (by decide))) ?_
 refine zo (zf (zx Y (fun h_0=>?_) (fun h_0=>?_)))
 ·
  refine zuy (zh (zE8 (zy (av:=[]) Y trivial hk) (zE8 (zn Y Y) (zo (zf (zP (zQ ?_)))))))
  exact ⟨.inr Y, AVle.refl _⟩
 ·
  exact absurd (show true = false from h_0) (by decide)
theorem zHm (hk:KN G) (c:Cod) (l:List (List (List UInt8))) (o:List Int) (hs:y7 c = true) (hf:zos l = true) (ho5:5 < o.length):ACall Tryz.prog G 6 [.agg (qK c), qO l, zO o] (.v (.bool true)):=by
 have zc:=zav hs
 have zl:=zb8 hf
 refine zS Tryz.func6 Y (by kernel_rfl) Y ?_
 refine zuy (zh (zE8 (jf Y (zY Y)) (zE8 (zn Y Y) (zo (zf (zuy (zuy (zh (zE8 (zZ Y Y wH (by exact zLb Y)) (zE8 (zy (av:=[_]) Y ⟨Y, trivial⟩ (zoc c hs)) (zE8 (je Y Y) ?_)))))))))))
 refine zE8 (zi Y Y) (zE9 Y (fun hg=>zq Y Y) (zE9 Y (fun hg=>zy (av:=[_]) Y ⟨(Y), trivial⟩ (zzH l hf)) (zE9 Y (fun hg=>je Y (Y)) (zE8 (qU Y Y Y Y) (zE8 (zi Y Y) (zE9 Y (fun hg=>zq Y Y) (zE9 Y (fun hg=>zuB Y Y Tryz.underlying23) ?_)))))))
 refine zE9 Y (fun hg=>zuW (y:=true) (by simp; omega) (qR Y Y Y)) ?_
 refine zE8 (qU Y Y Y Y) (zE8 (zi Y Y) (zE9 Y (fun hg=>zZ Y Y wH (by exact zLb Y)) (zE9 Y (fun hg=>zq Y Y) (zE9 Y (fun hg=>zy (av:=[_, _]) Y ⟨((if_pos hg)), ((if_pos hg)), trivial⟩ (f26 c l zc zl.1 zl.2)) ?_))))
 refine zk (x:=.pub (.tup [])) Y Y Y (fun hg=>absurd hg (by decide)) ?_
 refine zE8 (zU Y Y (fun _=>rfl) (fun h=>absurd h (by decide))) ?_
 refine zE8 (zi Y Y) (zE9 Y (fun hg=>zq Y Y) ?_)
 refine zk (x:=.pub (.tup [])) Y Y Y (fun hg=>absurd hg (by decide)) ?_
 refine zk (x:=.pub (.tup [])) Y Y Y (fun hg=>absurd hg (by decide)) ?_
 refine zE8 (zU Y Y (fun _=>rfl) (fun h=>absurd h (by decide))) ?_
 refine zE8 (zi Y Y) (zE9 Y (fun hg=>zq Y Y) (zE9 Y (fun hg=>zq Y Y) ?_))
 refine zk (x:=.pub (.tup [])) Y Y Y (fun hg=>absurd hg (by decide)) ?_
 refine zk (x:=.pub (.tup [])) Y Y Y (fun hg=>absurd hg (by decide)) ?_
 refine zE8 (zU Y Y (fun _=>rfl) (fun h=>absurd h (by decide))) ?_
 refine zo (zf (zx Y (fun h_0=>?_) (fun h_0=>?_)))
 ·
  refine zuy (zh (zE8 (zy (av:=[]) Y trivial hk) (zE8 (zn Y Y) (zo (zf (zP (zQ ?_)))))))
  exact ⟨.inr Y, AVle.refl _⟩
 ·
  exact absurd (show true = false from h_0) (by decide)
theorem zHj (hk:KN G) (c:Cod) (l:List (List (List UInt8))) (o:List Int) (hs:y7 c = true) (hf:zos l = true) (ho5:o.length <= 5) (hA:yT c l ≠ 0):ACall Tryz.prog G 6 [.agg (qK c), qO l, zO o] (.v (.bool true)):=by
 have zc:=zav hs
 have zl:=zb8 hf
 refine zS Tryz.func6 Y (by kernel_rfl) Y ?_
 refine zuy (zh (zE8 (jf Y (zY Y)) (zE8 (zn Y Y) (zo (zf (zuy (zuy (zh (zE8 (zZ Y Y wH (by exact zLb Y)) (zE8 (zy (av:=[_]) Y ⟨Y, trivial⟩ (zoc c hs)) (zE8 (je Y Y) ?_)))))))))))
 refine zE8 (zi Y Y) (zE9 Y (fun hg=>zq Y Y) (zE9 Y (fun hg=>zy (av:=[_]) Y ⟨(Y), trivial⟩ (zzH l hf)) (zE9 Y (fun hg=>je Y (Y)) (zE8 (qU Y Y Y Y) (zE8 (zi Y Y) (zE9 Y (fun hg=>zq Y Y) (zE9 Y (fun hg=>zuB Y Y Tryz.underlying23) ?_)))))))
 refine zE9 Y (fun hg=>zuW (y:=false) (by simp; omega) (qR Y Y Y)) ?_
 refine zE8 (qU Y Y Y Y) (zE8 (zi Y Y) (zE9 Y (fun hg=>zZ Y Y wH (by exact zLb Y)) (zE9 Y (fun hg=>zq Y Y) (zE9 Y (fun hg=>zy (av:=[_, _]) Y ⟨(Y), (Y), trivial⟩ (f26 c l zc zl.1 zl.2)) ?_))))
 refine zE9 Y (fun hg=>zuW (y:=true) (by simp [hA]) (vg Y Y Y)) ?_
 refine zE8 (qU Y Y Y Y) (zE8 (zi Y Y) (zE9 Y (fun hg=>zq Y Y) ?_))
 refine zk (x:=.pub (.tup [])) Y Y Y (fun hg=>absurd hg (by decide)) ?_
 refine zk (x:=.pub (.tup [])) Y Y Y (fun hg=>absurd hg (by decide)) ?_
 refine zE8 (zU Y Y (fun _=>rfl) (fun h=>absurd h (by decide))) ?_
 refine zE8 (zi Y Y) (zE9 Y (fun hg=>zq Y Y) (zE9 Y (fun hg=>zq Y Y) ?_))
 refine zk (x:=.pub (.tup [])) Y Y Y (fun hg=>absurd hg (by decide)) ?_
 refine zk (x:=.pub (.tup [])) Y Y Y (fun hg=>absurd hg (by decide)) ?_
 refine zE8 (zU Y Y (fun _=>rfl) (fun h=>absurd h (by decide))) ?_
 refine zo (zf (zx Y (fun h_0=>?_) (fun h_0=>?_)))
 ·
  refine zuy (zh (zE8 (zy (av:=[]) Y trivial hk) (zE8 (zn Y Y) (zo (zf (zP (zQ ?_)))))))
  exact ⟨.inr Y, AVle.refl _⟩
 ·
  exact absurd (show true = false from h_0) (by decide)
theorem zHg (hk:KN G) (c:Cod) (l:List (List (List UInt8))) (o:List Int) (hs:y7 c = true) (hf:zos l = true) (ho5:o.length <= 5) (hA:yT c l = 0) (ho0:o.length = 0):ACall Tryz.prog G 6 [.agg (qK c), qO l, zO o] (.v (.bool true)):=by
 have zc:=zav hs
 have zl:=zb8 hf
 refine zS Tryz.func6 Y (by kernel_rfl) Y ?_
 refine zuy (zh (zE8 (jf Y (zY Y)) (zE8 (zn Y Y) (zo (zf (zuy (zuy (zh (zE8 (zZ Y Y wH (by exact zLb Y)) (zE8 (zy (av:=[_]) Y ⟨Y, trivial⟩ (zoc c hs)) (zE8 (je Y Y) ?_)))))))))))
 refine zE8 (zi Y Y) (zE9 Y (fun hg=>zq Y Y) (zE9 Y (fun hg=>zy (av:=[_]) Y ⟨(Y), trivial⟩ (zzH l hf)) (zE9 Y (fun hg=>je Y (Y)) (zE8 (qU Y Y Y Y) (zE8 (zi Y Y) (zE9 Y (fun hg=>zq Y Y) (zE9 Y (fun hg=>zuB Y Y Tryz.underlying23) ?_)))))))
 refine zE9 Y (fun hg=>zuW (y:=false) (by simp; omega) (qR Y Y Y)) ?_
 refine zE8 (qU Y Y Y Y) (zE8 (zi Y Y) (zE9 Y (fun hg=>zZ Y Y wH (by exact zLb Y)) (zE9 Y (fun hg=>zq Y Y) (zE9 Y (fun hg=>zy (av:=[_, _]) Y ⟨(Y), (Y), trivial⟩ (f26 c l zc zl.1 zl.2)) ?_))))
 refine zE9 Y (fun hg=>zuW (y:=false) (by simp [hA]) (vg Y Y Y)) ?_
 refine zE8 (qU Y Y Y Y) (zE8 (zi Y Y) (zE9 Y (fun hg=>zq Y Y) (zE9 Y (fun hg=>zuB Y Y Tryz.underlying23) ?_)))
 refine zE9 Y (fun hg=>zuW (y:=true) (by rw [ho0]; rfl) (qJ Y Y Y)) ?_
 refine zE8 (qU Y Y Y Y) (zE8 (zi Y Y) (zE9 Y (fun hg=>zq Y Y) (zE9 Y (fun hg=>zq Y Y) ?_)))
 refine zk (x:=.pub (.tup [])) Y Y Y (fun hg=>absurd hg (by decide)) ?_
 refine zk (x:=.pub (.tup [])) Y Y Y (fun hg=>absurd hg (by decide)) ?_
 refine zE8 (zU Y Y (fun _=>rfl) (fun h=>absurd h (by decide))) ?_
 refine zo (zf (zx Y (fun h_0=>?_) (fun h_0=>?_)))
 ·
  refine zuy (zh (zE8 (zy (av:=[]) Y trivial hk) (zE8 (zn Y Y) (zo (zf (zP (zQ ?_)))))))
  exact ⟨.inr Y, AVle.refl _⟩
 ·
  exact absurd (show true = false from h_0) (by decide)
theorem zHi (hk:KN G) (c:Cod) (l:List (List (List UInt8))) (o:List Int) (hs:y7 c = true) (hf:zos l = true) (ho5:o.length <= 5) (hA:yT c l = 0) (ho0:0 < o.length) (hnm:zvY l.length o = false):ACall Tryz.prog G 6 [.agg (qK c), qO l, zO o] (.v (.bool true)):=by
 have zc:=zav hs
 have zl:=zb8 hf
 refine zS Tryz.func6 Y (by kernel_rfl) Y ?_
 refine zuy (zh (zE8 (jf Y (zY Y)) (zE8 (zn Y Y) (zo (zf (zuy (zuy (zh (zE8 (zZ Y Y wH (by exact zLb Y)) (zE8 (zy (av:=[_]) Y ⟨Y, trivial⟩ (zoc c hs)) (zE8 (je Y Y) ?_)))))))))))
 refine zE8 (zi Y Y) (zE9 Y (fun hg=>zq Y Y) (zE9 Y (fun hg=>zy (av:=[_]) Y ⟨(Y), trivial⟩ (zzH l hf)) (zE9 Y (fun hg=>je Y (Y)) (zE8 (qU Y Y Y Y) (zE8 (zi Y Y) (zE9 Y (fun hg=>zq Y Y) (zE9 Y (fun hg=>zuB Y Y Tryz.underlying23) ?_)))))))
 refine zE9 Y (fun hg=>zuW (y:=false) (by simp; omega) (qR Y Y Y)) ?_
 refine zE8 (qU Y Y Y Y) (zE8 (zi Y Y) (zE9 Y (fun hg=>zZ Y Y wH (by exact zLb Y)) (zE9 Y (fun hg=>zq Y Y) (zE9 Y (fun hg=>zy (av:=[_, _]) Y ⟨(Y), (Y), trivial⟩ (f26 c l zc zl.1 zl.2)) ?_))))
 refine zE9 Y (fun hg=>zuW (y:=false) (by simp [hA]) (vg Y Y Y)) ?_
 refine zE8 (qU Y Y Y Y) (zE8 (zi Y Y) (zE9 Y (fun hg=>zq Y Y) (zE9 Y (fun hg=>zuB Y Y Tryz.underlying23) (zE9 Y (fun hg=>zuW (y:=false) (zGr ho0) (qJ Y Y Y)) (zE8 (qU Y Y Y Y) (zE8 (zi Y Y) (zE9 Y (fun hg=>zq Y Y) (zE9 Y (fun hg=>zq Y Y) (zE9 Y (fun hg=>zy (av:=[_, _]) Y ⟨(Y), (Y), trivial⟩ (zGP zl.1 (by omega) hnm)) (zE9 Y (fun hg=>je Y (Y)) (zE8 (qU Y Y Y Y) ?_)))))))))))
 refine zo (zf (zx Y (fun h_0=>?_) (fun h_0=>?_)))
 ·
  refine zuy (zh (zE8 (zy (av:=[]) Y trivial hk) (zE8 (zn Y Y) (zo (zf (zP (zQ ?_)))))))
  exact ⟨.inr Y, AVle.refl _⟩
 ·
  exact absurd (show true = false from h_0) (by decide)
theorem zHo (hk:KN G) (c:Cod) (l:List (List (List UInt8))) (o:List Int) (hs:y7 c = true) (hf:zos l = true) (ho5:o.length <= 5) (hA:yT c l = 0) (ho0:0 < o.length) (hnm:zvY l.length o = true) (hN:kC c l ≠ []):ACall Tryz.prog G 6 [.agg (qK c), qO l, zO o] (.v (.bool true)):=by
 have zc:=zav hs
 have zl:=zb8 hf
 obtain ⟨q1, q2, q3, q4⟩:=zh6 hA
 have hoi:=zGt hnm
 have hob:=zCu (by omega) hoi
 have hosz:=zGm zl.2 hob
 have hopl:=zGl l o
 have W:=zGd hA hN
 have hE:=zG9 q1 q2 q4 hN hoi ho0
 refine zS Tryz.func6 Y (by kernel_rfl) Y ?_
 refine zuy (zh (zE8 (jf Y (zY Y)) (zE8 (zn Y Y) (zo (zf (zuy (zuy (zh (zE8 (zZ Y Y wH (by exact zLb Y)) (zE8 (zy (av:=[_]) Y ⟨Y, trivial⟩ (zoc c hs)) (zE8 (je Y Y) ?_)))))))))))
 refine zE8 (zi Y Y) (zE9 Y (fun hg=>zq Y Y) (zE9 Y (fun hg=>zy (av:=[_]) Y ⟨(Y), trivial⟩ (zzH l hf)) (zE9 Y (fun hg=>je Y (Y)) (zE8 (qU Y Y Y Y) (zE8 (zi Y Y) (zE9 Y (fun hg=>zq Y Y) (zE9 Y (fun hg=>zuB Y Y Tryz.underlying23) ?_)))))))
 refine zE9 Y (fun hg=>zuW (y:=false) (by simp; omega) (qR Y Y Y)) ?_
 refine zE8 (qU Y Y Y Y) (zE8 (zi Y Y) (zE9 Y (fun hg=>zZ Y Y wH (by exact zLb Y)) (zE9 Y (fun hg=>zq Y Y) (zE9 Y (fun hg=>zy (av:=[_, _]) Y ⟨(Y), (Y), trivial⟩ (f26 c l zc zl.1 zl.2)) ?_))))
 refine zE9 Y (fun hg=>zuW (y:=false) (by simp [hA]) (vg Y Y Y)) ?_
 refine zE8 (qU Y Y Y Y) (zE8 (zi Y Y) (zE9 Y (fun hg=>zq Y Y) (zE9 Y (fun hg=>zuB Y Y Tryz.underlying23) (zE9 Y (fun hg=>zuW (y:=false) (zGr ho0) (qJ Y Y Y)) (zE8 (qU Y Y Y Y) (zE8 (zi Y Y) (zE9 Y (fun hg=>zq Y Y) (zE9 Y (fun hg=>zq Y Y) (zE9 Y (fun hg=>zy (av:=[_, _]) Y ⟨(Y), (Y), trivial⟩ (zGP zl.1 (by omega) hnm)) (zE9 Y (fun hg=>je Y (Y)) (zE8 (qU Y Y Y Y) ?_)))))))))))
 refine zo (zf (zx Y (fun h_0=>?_) (fun h_0=>?_)))
 ·
  exact absurd (show false = true from h_0) (by decide)
 ·
  refine zC (zf (zuy (zh (zE8 (zZ Y Y wH (by exact zLb Y)) (zE8 (zq Y Y) (zE8 (zy (av:=[_, _]) Y ⟨Y, Y, trivial⟩ (zEy zc zl.1 zl.2 W.2 W.1)) (zE8 (zq Y Y) (zE8 (zN Y Y Y) (zE8 (zN Y Y Y) (zE8 (zW Y Y) (zE8 (zn Y Y) ?_)))))))))))
  refine zo (zf (zuy ?_))
  refine qY mixed (by kernel_rfl) Y ?_
  refine zH Y (zZ Y Y wH (by exact zLb Y)) (zH Y (zq Y Y) (zH Y (zq Y Y) (zH Y (zy (av:=[_, _]) Y ⟨Y, Y, trivial⟩ (f41 l o (by omega) hob)) (zH Y (zy (av:=[_, _]) Y ⟨Y, Y, trivial⟩ (zEb zc (by omega) hosz Y hE)) (zH Y (zq Y Y) (zH Y (zN Y Y Y) (zH Y (zN Y Y Y) (zH Y (zW Y Y) (zH Y (zn Y Y) (jw (zf ?_)))))))))))
  refine zuy (zuy (zh (zE8 (zi Y Y) (zE8 (vg Y Y Y) (zE8 (zi Y Y) (zE9 Y (fun hg=>zi Y Y) ?_))))))
  refine zk (x:=.pub (.tup [])) Y Y Y (fun hg=>absurd hg (by decide)) ?_
  refine zE8 (zU Y Y (fun h=>absurd h (by decide)) (fun _=>rfl)) ?_
  refine zo (zf (zx Y (fun h_1=>?_) (fun h_1=>?_)))
  ·
   exact absurd (show false = true from h_1) (by decide)
  ·
   refine zC (zf (zuy (zuy (zh (zE8 (zi Y Y) (zE8 (vg Y Y Y) (zo (zf (zx Y (fun h_2=>?_) (fun h_2=>?_))))))))))
   ·
    refine zuy (zh (zE8 (zi Y Y) (zE8 (qJ Y Y Y) (zE8 (zi Y Y) (zE9 Y (fun hg=>zi Y Y) (zE9 Y (fun hg=>qJ Y (Y) Y) (zE8 (qI Y Y Y Y) (zE8 (zi Y Y) (zE9 Y (fun hg=>zy (av:=[]) Y trivial hk) (zE8 (qI Y Y Y Y) (zE8 (zn Y Y) ?_)))))))))))
    refine zo (zf (zP (zQ ?_)))
    exact ⟨.inr Y, AVle.of (by rfl)⟩
   ·
    exact absurd (show true = false from h_2) (by decide)
theorem zHk (hk:KN G) (c:Cod) (l:List (List (List UInt8))) (o:List Int) (hs:y7 c = true) (hf:zos l = true) (ho5:o.length <= 5) (hA:yT c l = 0) (ho0:0 < o.length) (hnm:zvY l.length o = true) (hN:kC c l = []) (L:List Int) (hL:zw1 (zvZ c l) l.length = L) (hE:kJ c (zuT l o) = 0):ACall Tryz.prog G 6 [.agg (qK c), qO l, zO o] (.v (.bool true)):=by
 have zc:=zav hs
 have zl:=zb8 hf
 obtain ⟨q1, q2, q3, q4⟩:=zh6 hA
 have hoi:=zGt hnm
 have hob:=zCu (by omega) hoi
 have hosz:=zGm zl.2 hob
 have hopl:=zGl l o
 have W:=zGg hA hN
 rw [hL] at W
 obtain ⟨hL5, hL0, hLi⟩:=zGI q1 q2 q4 q3 hN hL
 have hLb:=zCu (by omega) hLi
 have hLl:=zyu (by omega) hLi
 have hLsz:=zGm zl.2 hLb
 have hLpl:=zGl l L
 have hLn:=zGG hLi
 refine zS Tryz.func6 Y (by kernel_rfl) Y ?_
 refine zuy (zh (zE8 (jf Y (zY Y)) (zE8 (zn Y Y) (zo (zf (zuy (zuy (zh (zE8 (zZ Y Y wH (by exact zLb Y)) (zE8 (zy (av:=[_]) Y ⟨Y, trivial⟩ (zoc c hs)) (zE8 (je Y Y) ?_)))))))))))
 refine zE8 (zi Y Y) (zE9 Y (fun hg=>zq Y Y) (zE9 Y (fun hg=>zy (av:=[_]) Y ⟨(Y), trivial⟩ (zzH l hf)) (zE9 Y (fun hg=>je Y (Y)) (zE8 (qU Y Y Y Y) (zE8 (zi Y Y) (zE9 Y (fun hg=>zq Y Y) (zE9 Y (fun hg=>zuB Y Y Tryz.underlying23) ?_)))))))
 refine zE9 Y (fun hg=>zuW (y:=false) (by simp; omega) (qR Y Y Y)) ?_
 refine zE8 (qU Y Y Y Y) (zE8 (zi Y Y) (zE9 Y (fun hg=>zZ Y Y wH (by exact zLb Y)) (zE9 Y (fun hg=>zq Y Y) (zE9 Y (fun hg=>zy (av:=[_, _]) Y ⟨(Y), (Y), trivial⟩ (f26 c l zc zl.1 zl.2)) ?_))))
 refine zE9 Y (fun hg=>zuW (y:=false) (by simp [hA]) (vg Y Y Y)) ?_
 refine zE8 (qU Y Y Y Y) (zE8 (zi Y Y) (zE9 Y (fun hg=>zq Y Y) (zE9 Y (fun hg=>zuB Y Y Tryz.underlying23) (zE9 Y (fun hg=>zuW (y:=false) (zGr ho0) (qJ Y Y Y)) (zE8 (qU Y Y Y Y) (zE8 (zi Y Y) (zE9 Y (fun hg=>zq Y Y) (zE9 Y (fun hg=>zq Y Y) (zE9 Y (fun hg=>zy (av:=[_, _]) Y ⟨(Y), (Y), trivial⟩ (zGP zl.1 (by omega) hnm)) (zE9 Y (fun hg=>je Y (Y)) (zE8 (qU Y Y Y Y) ?_)))))))))))
 refine zo (zf (zx Y (fun h_0=>?_) (fun h_0=>?_)))
 ·
  exact absurd (show false = true from h_0) (by decide)
 ·
  refine zC (zf (zuy (zh (zE8 (zZ Y Y wH (by exact zLb Y)) (zE8 (zq Y Y) (zE8 (zy (av:=[_, _]) Y ⟨Y, Y, trivial⟩ (zEy zc zl.1 zl.2 W.2 W.1)) (zE8 (zq Y Y) (zE8 (zN Y Y Y) (zE8 (zN Y Y Y) (zE8 (zW Y Y) (zE8 (zn Y Y) ?_)))))))))))
  refine zo (zf (zuy ?_))
  refine qY mixed (by kernel_rfl) Y ?_
  refine zH Y (zZ Y Y wH (by exact zLb Y)) (zH Y (zq Y Y) (zH Y (zq Y Y) (zH Y (zy (av:=[_, _]) Y ⟨Y, Y, trivial⟩ (f41 l o (by omega) hob)) (zH Y (zy (av:=[_, _]) Y ⟨Y, Y, trivial⟩ (zEb zc (by omega) hosz Y hE)) (zH Y (zq Y Y) (zH Y (zN Y Y Y) (zH Y (zN Y Y Y) (zH Y (zW Y Y) (zH Y (zn Y Y) (jw (zf ?_)))))))))))
  refine zuy (zuy (zh (zE8 (zi Y Y) (zE8 (vg Y Y Y) (zE8 (zi Y Y) (zE9 Y (fun hg=>zi Y Y) ?_))))))
  refine zk (x:=.pub (.tup [])) Y Y Y (fun hg=>absurd hg (by decide)) ?_
  refine zE8 (zU Y Y (fun h=>absurd h (by decide)) (fun _=>rfl)) ?_
  refine zo (zf (zx Y (fun h_1=>?_) (fun h_1=>?_)))
  ·
   exact absurd (show false = true from h_1) (by decide)
  ·
   refine zC (zf (zuy (zuy (zh (zE8 (zi Y Y) (zE8 (vg Y Y Y) (zo (zf (zx Y (fun h_2=>?_) (fun h_2=>?_))))))))))
   ·
    exact absurd (show false = true from h_2) (by decide)
   ·
    refine zC (zf (zuy (zuy (zh (zE8 (zq Y Y) (zE8 (zuB Y Y Tryz.underlying23) (zE8 (zuW (y:=false) (zGr hL0) (qJ Y Y Y)) (zE8 (zi Y Y) (zE9 Y (fun hg=>zq Y Y) (zE9 Y (fun hg=>zq Y Y) (zE9 Y (fun hg=>zy (av:=[_, _]) Y ⟨(Y), (Y), trivial⟩ (zGP zl.1 (by omega) hLn)) ?_)))))))))))
    refine zE9 Y (fun hg=>je Y (Y)) (zE8 (qU Y Y Y Y) (zo (zf (zx Y (fun h_3=>?_) (fun h_3=>?_)))))
    ·
     exact absurd (show false = true from h_3) (by decide)
    ·
     refine zC (zf (zuy ?_))
     refine qY mixed (by kernel_rfl) Y ?_
     refine zH Y (zZ Y Y wH (by exact zLb Y)) (zH Y (zq Y Y) (zH Y (zq Y Y) (zH Y (zy (av:=[_, _]) Y ⟨Y, Y, trivial⟩ (f41 l L (by omega) hLb)) (zH Y (zy (av:=[_, _]) Y ⟨Y, Y, trivial⟩ (zEb zc (by omega) hLsz Y hL5)) (zH Y (zq Y Y) (zH Y (zN Y Y Y) (zH Y (zN Y Y Y) (zH Y (zW Y Y) (zH Y (zn Y Y) (jw (zf ?_)))))))))))
     refine zuy (zuy (zh (zE8 (zi Y Y) (zE8 (vg Y Y Y) (zo (zf (zx Y (fun h_4=>?_) (fun h_4=>?_))))))))
     ·
      exact absurd (show false = true from h_4) (by decide)
     ·
      refine zC (zf (zuy (zuy (zh (zE8 (zn Y Y) (zo (zf (zB ?_))))))))
      refine qy (ι:={ i:Nat // i <= L.length }) (fun i=>⟨Tryz.f6.ntmps, frL [(1, .pub (qO l)), (2, .pub (zO o)), (3, .pub (.ptr (qK c))), (7, .pub (zO L)), (10, .pub (ei 0)), (13, I (i.1:Int))], []⟩) (fun i=>L.length - i.1) (⟨0, Nat.zero_le _⟩) ?_ ?_
      ·
       exact zt _ ⟨Y, Y, Y, Y, Y, Y, trivial⟩ (Y)
      ·
       rintro ⟨i, hi⟩
       dsimp only
       refine zuy (zuy (zh (zE8 (zi Y Y) (zE8 (zq Y Y) (zE8 (zuB Y Y Tryz.underlying23) (zE8 (qi Y Y Y) (zE8 (zi Y Y) (zE9 Y (fun hg=>zq Y Y) (zE9 Y (fun hg=>zuB Y (ifp hg) Tryz.underlying23) (zE9 Y (fun hg=>qR Y (ifp hg) Y) (zE8 (qI Y Y Y Y) ?_)))))))))))
       refine zo (zf (zx Y (fun h_5=>?_) (fun h_5=>?_)))
       ·
        have hi2:i < L.length /\ 1 < L.length:=zGR h_5
        have hxd:=zGl l (L.take i ++ L.drop (i + 1))
        have hxl:(L.take i ++ L.drop (i + 1)).length = L.length - 1:=by simp; omega
        have hxE:=zGT q1 q2 q4 q3 hN hL hi2.1 hi2.2
        have hxb:=zCu (by omega) (zGo i hLi)
        have hi2:=hi2.1
        refine zC (zf (zuy (zB (zuy ?_))))
        refine qx vz ?_
        refine zGz (fun _=>True) (fun k=>match k with | 0=>.stable | 1=>.stable | 2=>.stable | 3=>.stable | 4=>.stable | 5=>.rw [] 0 | 6=>.stable | 7=>.stable | 8=>.stable | 9=>.stable | 10=>.rw [] 0 | 11=>.writes | 12=>.stable | 13=>.stable | 14=>.stable | 15=>.stable | 16=>.stable | 17=>.stable | _=>.here) mixed (by kernel_rfl) rfl (by kernel_rfl) trivial ?_
        refine zuC Y Y (fun m hm=>zZ Y Y wH (by exact zLb Y)) (zuC Y Y (fun m hm=>zq Y Y) (zuC Y Y (fun m hm=>zq Y Y) (zuC Y Y (fun m hm=>zi Y Y) ?_)))
        refine zuC Y Y (fun m hm=>zhU (l:=0) (h:=(i:Int)) Y Y Y Y jv jC (by omega) (by omega) (by simp; omega)) ?_
        refine zsL [] 0 Y Y (fun _=>trivial) (fun m hm=>zGk Y Y Y ((hm.one 0 Y).trans Y) Y zvE (zGn _ _ _) (by simp; omega) (by unfold maxLen; simp; omega)) ?_
        refine zuC Y Y (fun m hm=>zq Y Y) (zuC Y Y (fun m hm=>zi Y Y) (zuC Y Y (fun m hm=>zV Y Y Y ⟨(by omega), (by omega)⟩) ?_))
        refine zuC Y Y (fun m hm=>zhU (l:=(i:Int) + 1) Y Y Y Y jv jC (by omega) (by simp; omega) (by simp)) ?_
        refine zsL [] 0 Y Y (fun _=>trivial) (fun m hm=>zj3 Y Y ((hm.one 0 Y).trans Y) Y Y zvE (zGn _ _ _) (zGn _ _ _) (by simp; omega) (by unfold maxLen; simp; omega)) ?_
        refine zaw Y Y (zGq (z:=.tmp 110) (x:=119) (c:=qO l) (k:=0) (ra:=(L.take i ++ L.drop (i + 1)).map fun q=>[AV.v (.int .i64 q)]) (r:=qO (zuT l (L.take i ++ L.drop (i + 1)))) Y (by decide) Y (fun h=>by injection h with h; exact absurd h (by decide)) Y (congrArg (fun z=>some (PO.row z)) (zGy L hi2)) (zGQ hi2) (f41 l (L.take i ++ L.drop (i + 1)) (by simp; omega) (zCu (by omega) (zGo i hLi)))) trivial ?_
        refine zuC Y Y (fun m hm=>zy (av:=[_, _]) Y ⟨Y, Y, trivial⟩ (zEb zc (by omega) (zGm zl.2 hxb) Y hxE)) (zuC Y Y (fun m hm=>zq Y Y) (zuC Y Y (fun m hm=>zN Y Y Y) (zuC Y Y (fun m hm=>zN Y Y Y) (zuC Y Y (fun m hm=>zW Y Y) (zuC Y Y (fun m hm=>zn Y Y) (wQ (zf (zuy (zh (zE8 (zi Y Y) (zE8 (vg Y Y Y) ?_)))))))))))
        refine zo (zf (zx Y (fun h_6=>?_) (fun h_6=>?_)))
        ·
         exact absurd (show false = true from h_6) (by decide)
        ·
         refine zC (zD (zf (zh (zE8 (zi Y Y) (zE8 (zV Y Y Y ⟨(by omega), (by omega)⟩) (zE8 (zn Y Y) (zo ?_)))))))
         exact ⟨⟨i + 1, by omega⟩, by dsimp only; omega, Weak.trans (zt (mem':=[.dead]) [(1, .pub (qO l)), (2, .pub (zO o)), (3, .pub (.ptr (qK c))), (7, .pub (zO L)), (10, .pub (ei 0)), (13, I ((i + 1:Nat):Int))] ⟨Y, Y, Y, Y, Y, Y, trivial⟩ Y) (vO 0 ⟨trivial, trivial, trivial, trivial, trivial, trivial, trivial⟩ trivial)⟩
       ·
        refine qp (zL (zL (qw (zf (zuy (zh (zE8 (zi Y Y) (zE8 (qJ Y Y Y) (zE8 (zi Y Y) (zE9 Y (fun hg=>zq Y Y) ?_))))))))))
        refine zk (x:=.pub (.tup [])) Y Y Y (fun hg=>absurd hg (by decide)) ?_
        refine zE9 Y (fun hg=>zq Y Y) ?_
        refine zk (x:=.pub (.tup [])) Y Y Y (fun hg=>absurd hg (by decide)) ?_
        refine zk (x:=.pub (.tup [])) Y Y Y (fun hg=>absurd hg (by decide)) ?_
        refine zE8 (zU Y Y (fun _=>rfl) (fun h=>absurd h (by decide))) ?_
        refine zE8 (zi Y Y) (zE9 Y (fun hg=>zq Y Y) ?_)
        refine zk (x:=.pub (.tup [])) Y Y Y (fun hg=>absurd hg (by decide)) ?_
        refine zE9 Y (fun hg=>zq Y Y) ?_
        refine zk (x:=.pub (.tup [])) Y Y Y (fun hg=>absurd hg (by decide)) ?_
        refine zk (x:=.pub (.tup [])) Y Y Y (fun hg=>absurd hg (by decide)) ?_
        refine zE9 Y (fun hg=>zq Y (Y)) (zE9 Y (fun hg=>zq Y Y) (zE9 Y (fun hg=>zq Y Y) ?_))
        refine zk (x:=.pub (.tup [])) Y Y Y (fun hg=>absurd hg (by decide)) ?_
        refine zk (x:=.pub (.tup [])) Y Y Y (fun hg=>absurd hg (by decide)) ?_
        refine zk (x:=.pub (.tup [])) Y Y Y (fun hg=>absurd hg (by decide)) ?_
        refine zE8 (zU Y Y (fun _=>rfl) (fun h=>absurd h (by decide))) ?_
        refine zE8 (zi Y Y) (zE9 Y (fun hg=>zy (av:=[]) Y trivial hk) (zE8 (qI Y Y Y Y) (zE8 (zn Y Y) (zo (zf (zP ?_))))))
        exact ⟨.inr Y, AVle.of (by rfl)⟩
theorem zHd (hk:KN G) (c:Cod) (l:List (List (List UInt8))) (o:List Int) (hs:y7 c = true) (hf:zos l = true) (ho5:o.length <= 5) (hA:yT c l = 0) (ho0:0 < o.length) (hnm:zvY l.length o = true) (hN:kC c l = []) (L:List Int) (hL:zw1 (zvZ c l) l.length = L) (hE:kJ c (zuT l o) = 5) (hlt:L.length < o.length):ACall Tryz.prog G 6 [.agg (qK c), qO l, zO o] (.v (.bool true)):=by
 have zc:=zav hs
 have zl:=zb8 hf
 obtain ⟨q1, q2, q3, q4⟩:=zh6 hA
 have hoi:=zGt hnm
 have hob:=zCu (by omega) hoi
 have hosz:=zGm zl.2 hob
 have hopl:=zGl l o
 have W:=zGg hA hN
 rw [hL] at W
 obtain ⟨hL5, hL0, hLi⟩:=zGI q1 q2 q4 q3 hN hL
 have hLb:=zCu (by omega) hLi
 have hLl:=zyu (by omega) hLi
 have hLsz:=zGm zl.2 hLb
 have hLpl:=zGl l L
 have hLn:=zGG hLi
 refine zS Tryz.func6 Y (by kernel_rfl) Y ?_
 refine zuy (zh (zE8 (jf Y (zY Y)) (zE8 (zn Y Y) (zo (zf (zuy (zuy (zh (zE8 (zZ Y Y wH (by exact zLb Y)) (zE8 (zy (av:=[_]) Y ⟨Y, trivial⟩ (zoc c hs)) (zE8 (je Y Y) ?_)))))))))))
 refine zE8 (zi Y Y) (zE9 Y (fun hg=>zq Y Y) (zE9 Y (fun hg=>zy (av:=[_]) Y ⟨(Y), trivial⟩ (zzH l hf)) (zE9 Y (fun hg=>je Y (Y)) (zE8 (qU Y Y Y Y) (zE8 (zi Y Y) (zE9 Y (fun hg=>zq Y Y) (zE9 Y (fun hg=>zuB Y Y Tryz.underlying23) ?_)))))))
 refine zE9 Y (fun hg=>zuW (y:=false) (by simp; omega) (qR Y Y Y)) ?_
 refine zE8 (qU Y Y Y Y) (zE8 (zi Y Y) (zE9 Y (fun hg=>zZ Y Y wH (by exact zLb Y)) (zE9 Y (fun hg=>zq Y Y) (zE9 Y (fun hg=>zy (av:=[_, _]) Y ⟨(Y), (Y), trivial⟩ (f26 c l zc zl.1 zl.2)) ?_))))
 refine zE9 Y (fun hg=>zuW (y:=false) (by simp [hA]) (vg Y Y Y)) ?_
 refine zE8 (qU Y Y Y Y) (zE8 (zi Y Y) (zE9 Y (fun hg=>zq Y Y) (zE9 Y (fun hg=>zuB Y Y Tryz.underlying23) (zE9 Y (fun hg=>zuW (y:=false) (zGr ho0) (qJ Y Y Y)) (zE8 (qU Y Y Y Y) (zE8 (zi Y Y) (zE9 Y (fun hg=>zq Y Y) (zE9 Y (fun hg=>zq Y Y) (zE9 Y (fun hg=>zy (av:=[_, _]) Y ⟨(Y), (Y), trivial⟩ (zGP zl.1 (by omega) hnm)) (zE9 Y (fun hg=>je Y (Y)) (zE8 (qU Y Y Y Y) ?_)))))))))))
 refine zo (zf (zx Y (fun h_0=>?_) (fun h_0=>?_)))
 ·
  exact absurd (show false = true from h_0) (by decide)
 ·
  refine zC (zf (zuy (zh (zE8 (zZ Y Y wH (by exact zLb Y)) (zE8 (zq Y Y) (zE8 (zy (av:=[_, _]) Y ⟨Y, Y, trivial⟩ (zEy zc zl.1 zl.2 W.2 W.1)) (zE8 (zq Y Y) (zE8 (zN Y Y Y) (zE8 (zN Y Y Y) (zE8 (zW Y Y) (zE8 (zn Y Y) ?_)))))))))))
  refine zo (zf (zuy ?_))
  refine qY mixed (by kernel_rfl) Y ?_
  refine zH Y (zZ Y Y wH (by exact zLb Y)) (zH Y (zq Y Y) (zH Y (zq Y Y) (zH Y (zy (av:=[_, _]) Y ⟨Y, Y, trivial⟩ (f41 l o (by omega) hob)) (zH Y (zy (av:=[_, _]) Y ⟨Y, Y, trivial⟩ (zEb zc (by omega) hosz Y hE)) (zH Y (zq Y Y) (zH Y (zN Y Y Y) (zH Y (zN Y Y Y) (zH Y (zW Y Y) (zH Y (zn Y Y) (jw (zf ?_)))))))))))
  refine zuy (zuy (zh (zE8 (zi Y Y) (zE8 (vg Y Y Y) (zE8 (zi Y Y) (zE9 Y (fun hg=>zi Y Y) (zE9 Y (fun hg=>vg Y (Y) Y) (zE8 (qI Y Y Y Y) (zo (zf (zx Y (fun h_1=>?_) (fun h_1=>?_))))))))))))
  ·
   exact absurd (show false = true from h_1) (by decide)
  ·
   refine zC (zf (zuy (zuy (zh (zE8 (zi Y Y) (zE8 (vg Y Y Y) (zo (zf (zx Y (fun h_2=>?_) (fun h_2=>?_))))))))))
   ·
    exact absurd (show false = true from h_2) (by decide)
   ·
    refine zC (zf (zuy (zuy (zh (zE8 (zq Y Y) (zE8 (zuB Y Y Tryz.underlying23) (zE8 (zuW (y:=false) (zGr hL0) (qJ Y Y Y)) (zE8 (zi Y Y) (zE9 Y (fun hg=>zq Y Y) (zE9 Y (fun hg=>zq Y Y) (zE9 Y (fun hg=>zy (av:=[_, _]) Y ⟨(Y), (Y), trivial⟩ (zGP zl.1 (by omega) hLn)) ?_)))))))))))
    refine zE9 Y (fun hg=>je Y (Y)) (zE8 (qU Y Y Y Y) (zo (zf (zx Y (fun h_3=>?_) (fun h_3=>?_)))))
    ·
     exact absurd (show false = true from h_3) (by decide)
    ·
     refine zC (zf (zuy ?_))
     refine qY mixed (by kernel_rfl) Y ?_
     refine zH Y (zZ Y Y wH (by exact zLb Y)) (zH Y (zq Y Y) (zH Y (zq Y Y) (zH Y (zy (av:=[_, _]) Y ⟨Y, Y, trivial⟩ (f41 l L (by omega) hLb)) (zH Y (zy (av:=[_, _]) Y ⟨Y, Y, trivial⟩ (zEb zc (by omega) hLsz Y hL5)) (zH Y (zq Y Y) (zH Y (zN Y Y Y) (zH Y (zN Y Y Y) (zH Y (zW Y Y) (zH Y (zn Y Y) (jw (zf ?_)))))))))))
     refine zuy (zuy (zh (zE8 (zi Y Y) (zE8 (vg Y Y Y) (zo (zf (zx Y (fun h_4=>?_) (fun h_4=>?_))))))))
     ·
      exact absurd (show false = true from h_4) (by decide)
     ·
      refine zC (zf (zuy (zuy (zh (zE8 (zn Y Y) (zo (zf (zB ?_))))))))
      refine qy (ι:={ i:Nat // i <= L.length }) (fun i=>⟨Tryz.f6.ntmps, frL [(1, .pub (qO l)), (2, .pub (zO o)), (3, .pub (.ptr (qK c))), (7, .pub (zO L)), (10, .pub (ei 5)), (13, I (i.1:Int))], []⟩) (fun i=>L.length - i.1) (⟨0, Nat.zero_le _⟩) ?_ ?_
      ·
       exact zt _ ⟨Y, Y, Y, Y, Y, Y, trivial⟩ (Y)
      ·
       rintro ⟨i, hi⟩
       dsimp only
       refine zuy (zuy (zh (zE8 (zi Y Y) (zE8 (zq Y Y) (zE8 (zuB Y Y Tryz.underlying23) (zE8 (qi Y Y Y) (zE8 (zi Y Y) (zE9 Y (fun hg=>zq Y Y) (zE9 Y (fun hg=>zuB Y (ifp hg) Tryz.underlying23) (zE9 Y (fun hg=>qR Y (ifp hg) Y) (zE8 (qI Y Y Y Y) ?_)))))))))))
       refine zo (zf (zx Y (fun h_5=>?_) (fun h_5=>?_)))
       ·
        have hi2:i < L.length /\ 1 < L.length:=zGR h_5
        have hxd:=zGl l (L.take i ++ L.drop (i + 1))
        have hxl:(L.take i ++ L.drop (i + 1)).length = L.length - 1:=by simp; omega
        have hxE:=zGT q1 q2 q4 q3 hN hL hi2.1 hi2.2
        have hxb:=zCu (by omega) (zGo i hLi)
        have hi2:=hi2.1
        refine zC (zf (zuy (zB (zuy ?_))))
        refine qx vz ?_
        refine zGz (fun _=>True) (fun k=>match k with | 0=>.stable | 1=>.stable | 2=>.stable | 3=>.stable | 4=>.stable | 5=>.rw [] 0 | 6=>.stable | 7=>.stable | 8=>.stable | 9=>.stable | 10=>.rw [] 0 | 11=>.writes | 12=>.stable | 13=>.stable | 14=>.stable | 15=>.stable | 16=>.stable | 17=>.stable | _=>.here) mixed (by kernel_rfl) rfl (by kernel_rfl) trivial ?_
        refine zuC Y Y (fun m hm=>zZ Y Y wH (by exact zLb Y)) (zuC Y Y (fun m hm=>zq Y Y) (zuC Y Y (fun m hm=>zq Y Y) (zuC Y Y (fun m hm=>zi Y Y) ?_)))
        refine zuC Y Y (fun m hm=>zhU (l:=0) (h:=(i:Int)) Y Y Y Y jv jC (by omega) (by omega) (by simp; omega)) ?_
        refine zsL [] 0 Y Y (fun _=>trivial) (fun m hm=>zGk Y Y Y ((hm.one 0 Y).trans Y) Y zvE (zGn _ _ _) (by simp; omega) (by unfold maxLen; simp; omega)) ?_
        refine zuC Y Y (fun m hm=>zq Y Y) (zuC Y Y (fun m hm=>zi Y Y) (zuC Y Y (fun m hm=>zV Y Y Y ⟨(by omega), (by omega)⟩) ?_))
        refine zuC Y Y (fun m hm=>zhU (l:=(i:Int) + 1) Y Y Y Y jv jC (by omega) (by simp; omega) (by simp)) ?_
        refine zsL [] 0 Y Y (fun _=>trivial) (fun m hm=>zj3 Y Y ((hm.one 0 Y).trans Y) Y Y zvE (zGn _ _ _) (zGn _ _ _) (by simp; omega) (by unfold maxLen; simp; omega)) ?_
        refine zaw Y Y (zGq (z:=.tmp 110) (x:=119) (c:=qO l) (k:=0) (ra:=(L.take i ++ L.drop (i + 1)).map fun q=>[AV.v (.int .i64 q)]) (r:=qO (zuT l (L.take i ++ L.drop (i + 1)))) Y (by decide) Y (fun h=>by injection h with h; exact absurd h (by decide)) Y (congrArg (fun z=>some (PO.row z)) (zGy L hi2)) (zGQ hi2) (f41 l (L.take i ++ L.drop (i + 1)) (by simp; omega) (zCu (by omega) (zGo i hLi)))) trivial ?_
        refine zuC Y Y (fun m hm=>zy (av:=[_, _]) Y ⟨Y, Y, trivial⟩ (zEb zc (by omega) (zGm zl.2 hxb) Y hxE)) (zuC Y Y (fun m hm=>zq Y Y) (zuC Y Y (fun m hm=>zN Y Y Y) (zuC Y Y (fun m hm=>zN Y Y Y) (zuC Y Y (fun m hm=>zW Y Y) (zuC Y Y (fun m hm=>zn Y Y) (wQ (zf (zuy (zh (zE8 (zi Y Y) (zE8 (vg Y Y Y) ?_)))))))))))
        refine zo (zf (zx Y (fun h_6=>?_) (fun h_6=>?_)))
        ·
         exact absurd (show false = true from h_6) (by decide)
        ·
         refine zC (zD (zf (zh (zE8 (zi Y Y) (zE8 (zV Y Y Y ⟨(by omega), (by omega)⟩) (zE8 (zn Y Y) (zo ?_)))))))
         exact ⟨⟨i + 1, by omega⟩, by dsimp only; omega, Weak.trans (zt (mem':=[.dead]) [(1, .pub (qO l)), (2, .pub (zO o)), (3, .pub (.ptr (qK c))), (7, .pub (zO L)), (10, .pub (ei 5)), (13, I ((i + 1:Nat):Int))] ⟨Y, Y, Y, Y, Y, Y, trivial⟩ Y) (vO 0 ⟨trivial, trivial, trivial, trivial, trivial, trivial, trivial⟩ trivial)⟩
       ·
        refine qp (zL (zL (qw (zf (zuy (zh (zE8 (zi Y Y) (zE8 (qJ Y Y Y) (zE8 (zi Y Y) (zE9 Y (fun hg=>zq Y Y) (zE9 Y (fun hg=>zuB Y Y Tryz.underlying23) ?_)))))))))))
        refine zE9 Y (fun hg=>zq Y Y) (zE9 Y (fun hg=>zuB Y Y Tryz.underlying23) ?_)
        refine zE9 Y (fun hg=>zuW (y:=true) (by simp; omega) (qR Y Y Y)) ?_
        refine zE8 (qU Y Y Y Y) (zE8 (zi Y Y) (zE9 Y (fun hg=>zq Y Y) ?_))
        refine zk (x:=.pub (.tup [])) Y Y Y (fun hg=>absurd hg (by decide)) ?_
        refine zE9 Y (fun hg=>zq Y Y) ?_
        refine zk (x:=.pub (.tup [])) Y Y Y (fun hg=>absurd hg (by decide)) ?_
        refine zk (x:=.pub (.tup [])) Y Y Y (fun hg=>absurd hg (by decide)) ?_
        refine zE9 Y (fun hg=>zq Y (Y)) (zE9 Y (fun hg=>zq Y Y) (zE9 Y (fun hg=>zq Y Y) ?_))
        refine zk (x:=.pub (.tup [])) Y Y Y (fun hg=>absurd hg (by decide)) ?_
        refine zk (x:=.pub (.tup [])) Y Y Y (fun hg=>absurd hg (by decide)) ?_
        refine zk (x:=.pub (.tup [])) Y Y Y (fun hg=>absurd hg (by decide)) ?_
        refine zE8 (zU Y Y (fun _=>rfl) (fun h=>absurd h (by decide))) ?_
        refine zE8 (zi Y Y) (zE9 Y (fun hg=>zy (av:=[]) Y trivial hk) (zE8 (qI Y Y Y Y) (zE8 (zn Y Y) (zo (zf (zP ?_))))))
        exact ⟨.inr Y, AVle.of (by rfl)⟩
theorem zHe (hk:KN G) (c:Cod) (l:List (List (List UInt8))) (o:List Int) (hs:y7 c = true) (hf:zos l = true) (ho5:o.length <= 5) (hA:yT c l = 0) (ho0:0 < o.length) (hnm:zvY l.length o = true) (hN:kC c l = []) (L:List Int) (hL:zw1 (zvZ c l) l.length = L) (hE:kJ c (zuT l o) = 5) (hlt:L.length = o.length) (hbf:ltL o L = false):ACall Tryz.prog G 6 [.agg (qK c), qO l, zO o] (.v (.bool true)):=by
 have zc:=zav hs
 have zl:=zb8 hf
 obtain ⟨q1, q2, q3, q4⟩:=zh6 hA
 have hoi:=zGt hnm
 have hob:=zCu (by omega) hoi
 have hosz:=zGm zl.2 hob
 have hopl:=zGl l o
 have W:=zGg hA hN
 rw [hL] at W
 obtain ⟨hL5, hL0, hLi⟩:=zGI q1 q2 q4 q3 hN hL
 have hLb:=zCu (by omega) hLi
 have hLl:=zyu (by omega) hLi
 have hLsz:=zGm zl.2 hLb
 have hLpl:=zGl l L
 have hLn:=zGG hLi
 refine zS Tryz.func6 Y (by kernel_rfl) Y ?_
 refine zuy (zh (zE8 (jf Y (zY Y)) (zE8 (zn Y Y) (zo (zf (zuy (zuy (zh (zE8 (zZ Y Y wH (by exact zLb Y)) (zE8 (zy (av:=[_]) Y ⟨Y, trivial⟩ (zoc c hs)) (zE8 (je Y Y) ?_)))))))))))
 refine zE8 (zi Y Y) (zE9 Y (fun hg=>zq Y Y) (zE9 Y (fun hg=>zy (av:=[_]) Y ⟨(Y), trivial⟩ (zzH l hf)) (zE9 Y (fun hg=>je Y (Y)) (zE8 (qU Y Y Y Y) (zE8 (zi Y Y) (zE9 Y (fun hg=>zq Y Y) (zE9 Y (fun hg=>zuB Y Y Tryz.underlying23) ?_)))))))
 refine zE9 Y (fun hg=>zuW (y:=false) (by simp; omega) (qR Y Y Y)) ?_
 refine zE8 (qU Y Y Y Y) (zE8 (zi Y Y) (zE9 Y (fun hg=>zZ Y Y wH (by exact zLb Y)) (zE9 Y (fun hg=>zq Y Y) (zE9 Y (fun hg=>zy (av:=[_, _]) Y ⟨(Y), (Y), trivial⟩ (f26 c l zc zl.1 zl.2)) ?_))))
 refine zE9 Y (fun hg=>zuW (y:=false) (by simp [hA]) (vg Y Y Y)) ?_
 refine zE8 (qU Y Y Y Y) (zE8 (zi Y Y) (zE9 Y (fun hg=>zq Y Y) (zE9 Y (fun hg=>zuB Y Y Tryz.underlying23) (zE9 Y (fun hg=>zuW (y:=false) (zGr ho0) (qJ Y Y Y)) (zE8 (qU Y Y Y Y) (zE8 (zi Y Y) (zE9 Y (fun hg=>zq Y Y) (zE9 Y (fun hg=>zq Y Y) (zE9 Y (fun hg=>zy (av:=[_, _]) Y ⟨(Y), (Y), trivial⟩ (zGP zl.1 (by omega) hnm)) (zE9 Y (fun hg=>je Y (Y)) (zE8 (qU Y Y Y Y) ?_)))))))))))
 refine zo (zf (zx Y (fun h_0=>?_) (fun h_0=>?_)))
 ·
  exact absurd (show false = true from h_0) (by decide)
 ·
  refine zC (zf (zuy (zh (zE8 (zZ Y Y wH (by exact zLb Y)) (zE8 (zq Y Y) (zE8 (zy (av:=[_, _]) Y ⟨Y, Y, trivial⟩ (zEy zc zl.1 zl.2 W.2 W.1)) (zE8 (zq Y Y) (zE8 (zN Y Y Y) (zE8 (zN Y Y Y) (zE8 (zW Y Y) (zE8 (zn Y Y) ?_)))))))))))
  refine zo (zf (zuy ?_))
  refine qY mixed (by kernel_rfl) Y ?_
  refine zH Y (zZ Y Y wH (by exact zLb Y)) (zH Y (zq Y Y) (zH Y (zq Y Y) (zH Y (zy (av:=[_, _]) Y ⟨Y, Y, trivial⟩ (f41 l o (by omega) hob)) (zH Y (zy (av:=[_, _]) Y ⟨Y, Y, trivial⟩ (zEb zc (by omega) hosz Y hE)) (zH Y (zq Y Y) (zH Y (zN Y Y Y) (zH Y (zN Y Y Y) (zH Y (zW Y Y) (zH Y (zn Y Y) (jw (zf ?_)))))))))))
  refine zuy (zuy (zh (zE8 (zi Y Y) (zE8 (vg Y Y Y) (zE8 (zi Y Y) (zE9 Y (fun hg=>zi Y Y) (zE9 Y (fun hg=>vg Y (Y) Y) (zE8 (qI Y Y Y Y) (zo (zf (zx Y (fun h_1=>?_) (fun h_1=>?_))))))))))))
  ·
   exact absurd (show false = true from h_1) (by decide)
  ·
   refine zC (zf (zuy (zuy (zh (zE8 (zi Y Y) (zE8 (vg Y Y Y) (zo (zf (zx Y (fun h_2=>?_) (fun h_2=>?_))))))))))
   ·
    exact absurd (show false = true from h_2) (by decide)
   ·
    refine zC (zf (zuy (zuy (zh (zE8 (zq Y Y) (zE8 (zuB Y Y Tryz.underlying23) (zE8 (zuW (y:=false) (zGr hL0) (qJ Y Y Y)) (zE8 (zi Y Y) (zE9 Y (fun hg=>zq Y Y) (zE9 Y (fun hg=>zq Y Y) (zE9 Y (fun hg=>zy (av:=[_, _]) Y ⟨(Y), (Y), trivial⟩ (zGP zl.1 (by omega) hLn)) ?_)))))))))))
    refine zE9 Y (fun hg=>je Y (Y)) (zE8 (qU Y Y Y Y) (zo (zf (zx Y (fun h_3=>?_) (fun h_3=>?_)))))
    ·
     exact absurd (show false = true from h_3) (by decide)
    ·
     refine zC (zf (zuy ?_))
     refine qY mixed (by kernel_rfl) Y ?_
     refine zH Y (zZ Y Y wH (by exact zLb Y)) (zH Y (zq Y Y) (zH Y (zq Y Y) (zH Y (zy (av:=[_, _]) Y ⟨Y, Y, trivial⟩ (f41 l L (by omega) hLb)) (zH Y (zy (av:=[_, _]) Y ⟨Y, Y, trivial⟩ (zEb zc (by omega) hLsz Y hL5)) (zH Y (zq Y Y) (zH Y (zN Y Y Y) (zH Y (zN Y Y Y) (zH Y (zW Y Y) (zH Y (zn Y Y) (jw (zf ?_)))))))))))
     refine zuy (zuy (zh (zE8 (zi Y Y) (zE8 (vg Y Y Y) (zo (zf (zx Y (fun h_4=>?_) (fun h_4=>?_))))))))
     ·
      exact absurd (show false = true from h_4) (by decide)
     ·
      refine zC (zf (zuy (zuy (zh (zE8 (zn Y Y) (zo (zf (zB ?_))))))))
      refine qy (ι:={ i:Nat // i <= L.length }) (fun i=>⟨Tryz.f6.ntmps, frL [(1, .pub (qO l)), (2, .pub (zO o)), (3, .pub (.ptr (qK c))), (7, .pub (zO L)), (10, .pub (ei 5)), (13, I (i.1:Int))], []⟩) (fun i=>L.length - i.1) (⟨0, Nat.zero_le _⟩) ?_ ?_
      ·
       exact zt _ ⟨Y, Y, Y, Y, Y, Y, trivial⟩ (Y)
      ·
       rintro ⟨i, hi⟩
       dsimp only
       refine zuy (zuy (zh (zE8 (zi Y Y) (zE8 (zq Y Y) (zE8 (zuB Y Y Tryz.underlying23) (zE8 (qi Y Y Y) (zE8 (zi Y Y) (zE9 Y (fun hg=>zq Y Y) (zE9 Y (fun hg=>zuB Y (ifp hg) Tryz.underlying23) (zE9 Y (fun hg=>qR Y (ifp hg) Y) (zE8 (qI Y Y Y Y) ?_)))))))))))
       refine zo (zf (zx Y (fun h_5=>?_) (fun h_5=>?_)))
       ·
        have hi2:i < L.length /\ 1 < L.length:=zGR h_5
        have hxd:=zGl l (L.take i ++ L.drop (i + 1))
        have hxl:(L.take i ++ L.drop (i + 1)).length = L.length - 1:=by simp; omega
        have hxE:=zGT q1 q2 q4 q3 hN hL hi2.1 hi2.2
        have hxb:=zCu (by omega) (zGo i hLi)
        have hi2:=hi2.1
        refine zC (zf (zuy (zB (zuy ?_))))
        refine qx vz ?_
        refine zGz (fun _=>True) (fun k=>match k with | 0=>.stable | 1=>.stable | 2=>.stable | 3=>.stable | 4=>.stable | 5=>.rw [] 0 | 6=>.stable | 7=>.stable | 8=>.stable | 9=>.stable | 10=>.rw [] 0 | 11=>.writes | 12=>.stable | 13=>.stable | 14=>.stable | 15=>.stable | 16=>.stable | 17=>.stable | _=>.here) mixed (by kernel_rfl) rfl (by kernel_rfl) trivial ?_
        refine zuC Y Y (fun m hm=>zZ Y Y wH (by exact zLb Y)) (zuC Y Y (fun m hm=>zq Y Y) (zuC Y Y (fun m hm=>zq Y Y) (zuC Y Y (fun m hm=>zi Y Y) ?_)))
        refine zuC Y Y (fun m hm=>zhU (l:=0) (h:=(i:Int)) Y Y Y Y jv jC (by omega) (by omega) (by simp; omega)) ?_
        refine zsL [] 0 Y Y (fun _=>trivial) (fun m hm=>zGk Y Y Y ((hm.one 0 Y).trans Y) Y zvE (zGn _ _ _) (by simp; omega) (by unfold maxLen; simp; omega)) ?_
        refine zuC Y Y (fun m hm=>zq Y Y) (zuC Y Y (fun m hm=>zi Y Y) (zuC Y Y (fun m hm=>zV Y Y Y ⟨(by omega), (by omega)⟩) ?_))
        refine zuC Y Y (fun m hm=>zhU (l:=(i:Int) + 1) Y Y Y Y jv jC (by omega) (by simp; omega) (by simp)) ?_
        refine zsL [] 0 Y Y (fun _=>trivial) (fun m hm=>zj3 Y Y ((hm.one 0 Y).trans Y) Y Y zvE (zGn _ _ _) (zGn _ _ _) (by simp; omega) (by unfold maxLen; simp; omega)) ?_
        refine zaw Y Y (zGq (z:=.tmp 110) (x:=119) (c:=qO l) (k:=0) (ra:=(L.take i ++ L.drop (i + 1)).map fun q=>[AV.v (.int .i64 q)]) (r:=qO (zuT l (L.take i ++ L.drop (i + 1)))) Y (by decide) Y (fun h=>by injection h with h; exact absurd h (by decide)) Y (congrArg (fun z=>some (PO.row z)) (zGy L hi2)) (zGQ hi2) (f41 l (L.take i ++ L.drop (i + 1)) (by simp; omega) (zCu (by omega) (zGo i hLi)))) trivial ?_
        refine zuC Y Y (fun m hm=>zy (av:=[_, _]) Y ⟨Y, Y, trivial⟩ (zEb zc (by omega) (zGm zl.2 hxb) Y hxE)) (zuC Y Y (fun m hm=>zq Y Y) (zuC Y Y (fun m hm=>zN Y Y Y) (zuC Y Y (fun m hm=>zN Y Y Y) (zuC Y Y (fun m hm=>zW Y Y) (zuC Y Y (fun m hm=>zn Y Y) (wQ (zf (zuy (zh (zE8 (zi Y Y) (zE8 (vg Y Y Y) ?_)))))))))))
        refine zo (zf (zx Y (fun h_6=>?_) (fun h_6=>?_)))
        ·
         exact absurd (show false = true from h_6) (by decide)
        ·
         refine zC (zD (zf (zh (zE8 (zi Y Y) (zE8 (zV Y Y Y ⟨(by omega), (by omega)⟩) (zE8 (zn Y Y) (zo ?_)))))))
         exact ⟨⟨i + 1, by omega⟩, by dsimp only; omega, Weak.trans (zt (mem':=[.dead]) [(1, .pub (qO l)), (2, .pub (zO o)), (3, .pub (.ptr (qK c))), (7, .pub (zO L)), (10, .pub (ei 5)), (13, I ((i + 1:Nat):Int))] ⟨Y, Y, Y, Y, Y, Y, trivial⟩ Y) (vO 0 ⟨trivial, trivial, trivial, trivial, trivial, trivial, trivial⟩ trivial)⟩
       ·
        refine qp (zL (zL (qw (zf (zuy (zh (zE8 (zi Y Y) (zE8 (qJ Y Y Y) (zE8 (zi Y Y) (zE9 Y (fun hg=>zq Y Y) (zE9 Y (fun hg=>zuB Y Y Tryz.underlying23) ?_)))))))))))
        refine zE9 Y (fun hg=>zq Y Y) (zE9 Y (fun hg=>zuB Y Y Tryz.underlying23) ?_)
        refine zE9 Y (fun hg=>zuW (y:=false) (by simp; omega) (qR Y Y Y)) ?_
        refine zE8 (qU Y Y Y Y) (zE8 (zi Y Y) (zE9 Y (fun hg=>zq Y Y) (zE9 Y (fun hg=>zuB Y Y Tryz.underlying23) (zE9 Y (fun hg=>zq Y Y) (zE9 Y (fun hg=>zuB Y Y Tryz.underlying23) ?_)))))
        refine zE9 Y (fun hg=>zuW (y:=true) (by simp; omega) (qJ Y Y Y)) ?_
        refine zE9 Y (fun hg=>zi Y (Y)) (zE9 Y (fun hg=>zq Y Y) (zE9 Y (fun hg=>zq Y Y) (zE9 Y (fun hg=>zy (av:=[_, _]) Y ⟨(Y), (Y), trivial⟩ (zHn (by omega) (by omega) hbf)) (zE9 Y (fun hg=>je Y Y) (zE9 Y (fun hg=>qI Y Y Y Y) (zE8 (qU Y Y Y Y) (zE8 (zi Y Y) (zE9 Y (fun hg=>zy (av:=[]) Y trivial hk) (zE8 (qI Y Y Y Y) (zE8 (zn Y Y) (zo ?_)))))))))))
        refine zf (zP ?_)
        exact ⟨.inr Y, AVle.of (by rfl)⟩
theorem f6 (hk:KN G) (c:Cod) (l:List (List (List UInt8))) (o:List Int):ACall Tryz.prog G 6 [.agg (qK c), qO l, zO o] (.v (.bool true)):=by
 cases hs:y7 c with
 | false=>exact zHl hk c l o hs
 | true=>
  cases hf:zos l with
  | false=>exact zHh hk c l o hs hf
  | true=>
   by_cases ho5:o.length <= 5
   ·
    by_cases hA:yT c l = 0
    ·
     by_cases ho0:0 < o.length
     ·
      cases hnm:zvY l.length o with
      | false=>exact zHi hk c l o hs hf ho5 hA ho0 hnm
      | true=>
       by_cases hN:kC c l = []
       ·
        obtain ⟨q1, q2, q3, q4⟩:=zh6 hA
        have hoi:=zGt hnm
        have hpa:=zGu q1 q2 q4 hoi ho0
        by_cases hm:kC c (zuT l o) = []
        ·
         have hE:=zfe hpa hm
         rcases zHb q3 hN rfl hoi ho0 hm with h | ⟨h, h2⟩
         ·
          exact zHd hk c l o hs hf ho5 hA ho0 hnm hN _ Y hE h
         ·
          exact zHe hk c l o hs hf ho5 hA ho0 hnm hN _ Y hE h h2
        ·
         exact zHk hk c l o hs hf ho5 hA ho0 hnm hN _ Y (zp7 hpa hm)
       ·
        exact zHo hk c l o hs hf ho5 hA ho0 hnm hN
     ·
      exact zHg hk c l o hs hf ho5 hA (by omega)
    ·
     exact zHj hk c l o hs hf ho5 hA
   ·
    exact zHm hk c l o hs hf (by omega)
end Go.Av
end
