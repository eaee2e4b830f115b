
import Derived.Test.YtaphehlgijlfeaaGreatDoorWiJ
import Derived.Test.YtaphehlgijlfeaaGreatDoorWiC
import Derived.Test.YtaphehlgijlfeaaGreatDoorWiA
import Derived.Test.YtaphehlgijlfeaaGreatDoorPlatJ
import Derived.Test.YtaphehlgijlfeaaGreatDoorWiL
set_option linter.unusedVariables false
set_option linter.unusedSimpArgs false
section
namespace Go.Av
open Go.Proofs
set_option maxRecDepth 100000
def zvo (bk : List Ent) (x y : Int) : Option Ent := bk.find? fun e => e.first == x && e.second == y
def zuE (bk : List Ent) : List Int -> List (List UInt8)
 | [] => []
 | [x] => [grp x]
 | x :: y :: m => match zvo bk x y with
  | none => grp x :: zuE bk (y :: m)
  | some e => if (zuE bk m).length <= (zuE bk (y :: m)).length then e.word :: zuE bk m else grp x :: zuE bk (y :: m)
theorem zvA (bk : List Ent) : ∀ m, (zuE bk m).length <= m.length
 | [] => Nat.le_refl _
 | [x] => Nat.le_refl _
 | x :: y :: m => by
  have h1 := zvA bk m
  have h2 := zvA bk (y :: m)
  rw [zuE]
  cases zvo bk x y with
  | none => simp only [List.length_cons] at h2 ⊢; omega
  | some e => dsimp only; split <;> simp only [List.length_cons] at h2 ⊢ <;> omega
theorem zyd {bk : List Ent} {x y : Int} {e : Ent} (h : zvo bk x y = some e) : e ∈ bk /\ e.first = x /\ e.second = y := by
 have h1 := List.find?_some h
 simp only [Bool.and_eq_true, beq_iff_eq] at h1
 exact ⟨List.mem_of_find?_eq_some h, h1.1, h1.2⟩
def zvM (w : List UInt8) : Int := w.foldl (fun n b => 10 * n + ((b.toNat : Int) - 48)) 0
def zuK (bk : List Ent) (t : List UInt8) : Option Ent := bk.find? fun e => decide (e.word = t)
def zuM (bk : List Ent) (t : List UInt8) : List Int := match zuK bk t with
 | some e => [e.first, e.second]
 | none => [zvM t]
def zvZ (bk : List Ent) (t : List UInt8) : Bool := (zuK bk t).isSome || ofB zl8 t
def zvx (bk : List Ent) (ts : List (List UInt8)) : List Int := ts.dropLast.flatMap (zuM bk)
def zwN (c : Cod) (bk : List Ent) (ts : List (List UInt8)) : Bool := decide (ts ≠ []) && ts.dropLast.all (zvZ bk) && wS c (zvx bk ts) && decide (ts.getLast? = some (chk (zvx bk ts)).chs)
theorem zzt {bk : List Ent} (hb : zuB bk = true) {e : Ent} (h : e ∈ bk) : ofB zwt e.word = true /\ (0 <= e.first /\ e.first <= 99999) /\ (0 <= e.second /\ e.second <= 99999) := by
 simp only [zuB, bkE, Bool.and_eq_true, List.all_eq_true] at hb
 have := hb.1.1 e h
 simp only [zwb, Bool.and_eq_true] at this
 exact ⟨this.1.1, zdh.1 this.1.2, zdh.1 this.2⟩
theorem zwk {bk : List Ent} (hb : zuB bk = true) : (bk.map (·.word)).Nodup := by
 simp only [zuB, bkE, Bool.and_eq_true, decide_eq_true_eq] at hb
 exact hb.1.2
def zu0 (bk : List Ent) (m : List Int) : List (List UInt8) := zuE bk m ++ [(chk m).chs]
theorem zxA (m : List Int) : jQ m = m.map grp ++ [(chk m).chs] := by simp [jQ, vV, grp, Function.comp_def]
end Go.Av
end
section
namespace Go.Av
def lnA (n : Nt) (i : Int) : Lin := n.lines.getD i.toNat ⟨0, 0, 0, 0⟩
def oth (x : Lin) (o : Int) : Int := x.src + x.dst - o
def vs (n : Nt) : Int -> List Int -> List Int
 | a, [] => [a]
 | a, i :: l => a :: vs n (oth (lnA n i) a) l
end Go.Av
end
section
namespace Go.Av
open Go.Proofs
set_option maxRecDepth 100000
set_option maxHeartbeats 1000000
variable {G : Glob}
theorem zBv : elemIs Tryz.prog 26 34 1 24 := ⟨Tryz.underlying26, Tryz.t34, _, by kernel_rfl, rfl, rfl, rfl, rfl, by decide⟩
def ePk (bk : List Ent) (m : List Int) : List AV := [eBk bk, zO m]
def bsK {α : Type} (f : α -> α -> Bool) (d : α) (D : List α) : Nat -> α
 | 0 => D.getD 0 d
 | k + 1 => if f (D.getD (k + 1) d) (bsK f d D k) then D.getD (k + 1) d else bsK f d D k
theorem zBe (m : List Int) : ((vV m).map eFg)[(m.map fun n => [AV.v (.int .i64 n)]).length]? = some (eFg (chk m)) := by simp [vV]
def shF (a b : List (List UInt8)) : Bool := decide (a.length < b.length)
abbrev LS := List (List UInt8)
theorem f155 (a b : LS) : ACall Tryz.prog G 155 [jD a, jD b] (.v (.bool (shF a b))) := by
 refine zS Tryz.func155 rfl (by kernel_rfl) rfl ?_
 refine zl (zh (zg rfl rfl (zn rfl rfl) (zo (zf (zl (zh (zg rfl rfl (zq rfl rfl) (zg rfl rfl (qh rfl rfl rfl Tryz.underlying34) (zg rfl rfl (zq rfl rfl) (zg rfl rfl (qh rfl rfl rfl Tryz.underlying34) (zg rfl rfl (qi rfl rfl rfl) ?_)))))))))))
 refine zg rfl rfl (zn rfl rfl) (zo (zf (zP ?_)))
 exact ⟨.inr rfl, AVle.of (by simp [shF, jD])⟩
theorem f123 (m : List Int) (hl : m.length <= 1000) (hm : ∀ n ∈ m, 0 <= n /\ n <= 1000000000000) : ACall Tryz.prog G 123 [zO m] (eS (chk m).chs) := by
 refine zS Tryz.func123 rfl (by kernel_rfl) rfl ?_
 refine zl (zh (zg rfl rfl (zn rfl rfl) (zo (zf (zl (zh (zg rfl rfl (zq rfl rfl) (zg rfl rfl (zy (av := [_]) rfl ⟨rfl, trivial⟩ (f99 m hl hm)) (zg rfl rfl (zq rfl rfl) (zg rfl rfl (qh rfl rfl rfl Tryz.underlying23) ?_))))))))))
 refine zg rfl rfl (zG rfl rfl rfl zrY (by simp [vV]) (zBe m) zsV) ?_
 refine zg rfl rfl (zZ rfl rfl zck (by exact zLb rfl)) (zg rfl rfl (zy (av := [_]) rfl ⟨rfl, trivial⟩ (zut _ (zno m))) (zg rfl rfl (zn rfl rfl) (zo (zf (zP ?_)))))
 exact ⟨.inr rfl, AVle.refl _⟩
theorem f156 (l : List Ent) (x y : Int) (hl : l.length <= 1000) : ACall Tryz.prog G 156 [eBk l, .v (.int .i64 x), .v (.int .i64 y)] (.v (.int .i64 (ixF (fun e : Ent => e.first == x && e.second == y) l))) := by
 refine zS Tryz.func156 rfl (by kernel_rfl) rfl ?_
 refine zl (zh (zg rfl rfl (zn rfl rfl) (zo (zf (zl (zl (zh (zg rfl rfl (zn rfl rfl) (zo (zf (zB ?_)))))))))))
 refine qy (ι := { k : Nat // k <= l.length /\ (l.take k).any (fun e : Ent => e.first == x && e.second == y) = false }) (fun k => ⟨Tryz.f156.ntmps, frL [(0, .pub (eBk l)), (1, I x), (2, I y), (7, I (k.1 : Int))], []⟩) (fun k => l.length - k.1) (⟨0, by simp⟩) ?_ ?_
 ·
  exact zt _ ⟨rfl, rfl, rfl, rfl, trivial⟩ (rfl)
 ·
  rintro ⟨k, hk⟩
  dsimp only
  refine zl (zl (zh (zg rfl rfl (zi rfl rfl) (zg rfl rfl (zq rfl rfl) (zg rfl rfl (qh rfl rfl rfl Tryz.underlying63) (zg rfl rfl (qi rfl rfl rfl) (zo (zf (zx rfl (fun h0 => ?_) (fun h0 => ?_))))))))))
  ·
   have hlt : k < l.length := by simpa [eBk] using h0
   refine zC (zf (zl (zB (zl (zh (zg rfl rfl (zq rfl rfl) (zg rfl rfl (zi rfl rfl) (zg rfl rfl (zG rfl rfl rfl zu4 (by omega) (zuT hlt) zuN) (zg rfl rfl (zu rfl rfl zvf) (zg rfl rfl (zA rfl rfl rfl ty3) (zg rfl rfl (zi rfl rfl) ?_)))))))))))
   refine zg rfl rfl (qJ rfl rfl rfl) (zg rfl rfl (zi rfl rfl) (zk rfl rfl rfl (fun hg => zq rfl rfl) (zk rfl rfl rfl (fun hg => zi rfl rfl) (zk rfl rfl rfl (fun hg => zG rfl (if_pos hg) (if_pos hg) zu4 (by omega) (zuT hlt) zuN) (zk rfl rfl rfl (fun hg => zu rfl (if_pos hg) zvc) (zk rfl rfl rfl (fun hg => zA rfl (if_pos hg) rfl ty3) (zk rfl rfl rfl (fun hg => zi rfl rfl) (zk rfl rfl rfl (fun hg => qJ rfl (if_pos hg) (if_pos hg)) (zg rfl rfl (qI rfl rfl rfl rfl) (zo (zf (zx rfl (fun h1 => ?_) (fun h1 => ?_)))))))))))))
   ·
    have hb : (fun e : Ent => e.first == x && e.second == y) l[k] = true := by simpa using h1
    refine zl (zh (zg rfl rfl (zi rfl rfl) (zg rfl rfl (zn rfl rfl) (zo (zf (zP (qF (zQ (zQ (qF (zQ ?_)))))))))))
    exact ⟨.inr rfl, AVle.of (by rw [zkQ hlt hk.2 hb])⟩
   ·
    have hb : (fun e : Ent => e.first == x && e.second == y) l[k] = false := by simpa using h1
    refine zC (zD (zf (zh (zg rfl rfl (zi rfl rfl) (zg rfl rfl (zV rfl rfl rfl ⟨(by omega), (by omega)⟩) (zg rfl rfl (zn rfl rfl) (zo ?_)))))))
    exact ⟨⟨k + 1, by omega, zaE hk.2 hlt hb⟩, by dsimp only; omega, zt _ ⟨rfl, rfl, rfl, rfl, trivial⟩ (rfl)⟩
  ·
   have hge : l.length <= k := by simpa [eBk] using h0
   refine qp (zL (zL (qw (zf (zl (zh (zg rfl rfl (zn rfl rfl) (zo (zf (zP ?_))))))))))
   exact ⟨.inr rfl, AVle.of (by rw [List.take_of_length_le hge] at hk; rw [zhC hk.2])⟩
end Go.Av
end
