
import Derived.Test.YtaphehlgijlfeaaGreatDoorWiJ
import Derived.Test.YtaphehlgijlfeaaGreatDoorWiC
import Derived.Test.YtaphehlgijlfeaaGreatDoorWiA
import Derived.Test.YtaphehlgijlfeaaGreatDoorPlatJ
import Derived.Test.YtaphehlgijlfeaaGreatDoorWiL
set_option linter.unusedVariables false
set_option linter.unusedSimpArgs false
section
namespace Go.Av
open Go.Proofs
set_option maxRecDepth 100000
def zvo (bk : List Ent) (x y : Int) : Option Ent := bk.find? fun e => e.first == x && e.second == y
def zuE (bk : List Ent) : List Int -> List (List UInt8)
 | [] => []
 | [x] => [grp x]
 | x :: y :: m => match zvo bk x y with
  | none => grp x :: zuE bk (y :: m)
  | some e => if (zuE bk m).length <= (zuE bk (y :: m)).length then e.word :: zuE bk m else grp x :: zuE bk (y :: m)
theorem zvA (bk : List Ent) : ∀ m, (zuE bk m).length <= m.length
 | [] => Nat.le_refl _
 | [x] => Nat.le_refl _
 | x :: y :: m => by
  have h1 := zvA bk m
  have h2 := zvA bk (y :: m)
  rw [zuE]
  cases zvo bk x y with
  | none => simp only [List.length_cons] at h2 ⊢; omega
  | some e => dsimp only; split <;> simp only [List.length_cons] at h2 ⊢ <;> omega
theorem zCp (bk : List Ent) (x : Int) (m : List Int) : (zuE bk (x :: m)).length <= (zuE bk m).length + 1 := by
 cases m with
 | nil => rw [zuE, zuE]; exact Nat.le_refl _
 | cons y m =>
  rw [zuE]
  cases zvo bk x y with
  | none => exact Nat.le_refl _
  | some e => dsimp only; split <;> simp only [List.length_cons] <;> omega
theorem zCr {bk : List Ent} {x y : Int} {m : List Int} {e : Ent} (h : zvo bk x y = some e) : (zuE bk (x :: y :: m)).length <= (zuE bk m).length + 1 := by
 rw [zuE, h]; dsimp only; split <;> simp only [List.length_cons] <;> omega
theorem zyd {bk : List Ent} {x y : Int} {e : Ent} (h : zvo bk x y = some e) : e ∈ bk /\ e.first = x /\ e.second = y := by
 have h1 := List.find?_some h
 simp only [Bool.and_eq_true, beq_iff_eq] at h1
 exact ⟨List.mem_of_find?_eq_some h, h1.1, h1.2⟩
theorem zCl {bk : List Ent} {x y : Int} {e : Ent} (h : e ∈ bk) (h1 : e.first = x) (h2 : e.second = y) : ∃ e', zvo bk x y = some e' := by
 cases hc : zvo bk x y with
 | some e' => exact ⟨e', rfl⟩
 | none =>
  unfold zvo at hc
  rw [List.find?_eq_none] at hc
  exact absurd (by simp [h1, h2]) (hc e h)
def zvM (w : List UInt8) : Int := w.foldl (fun n b => 10 * n + ((b.toNat : Int) - 48)) 0
def zuK (bk : List Ent) (t : List UInt8) : Option Ent := bk.find? fun e => decide (e.word = t)
def zuM (bk : List Ent) (t : List UInt8) : List Int := match zuK bk t with
 | some e => [e.first, e.second]
 | none => [zvM t]
def zvZ (bk : List Ent) (t : List UInt8) : Bool := (zuK bk t).isSome || ofB zl8 t
def zvx (bk : List Ent) (ts : List (List UInt8)) : List Int := ts.dropLast.flatMap (zuM bk)
def zwN (c : Cod) (bk : List Ent) (ts : List (List UInt8)) : Bool := decide (ts ≠ []) && ts.dropLast.all (zvZ bk) && wS c (zvx bk ts) && decide (ts.getLast? = some (chk (zvx bk ts)).chs)
theorem zzt {bk : List Ent} (hb : zuB bk = true) {e : Ent} (h : e ∈ bk) : ofB zwt e.word = true /\ (0 <= e.first /\ e.first <= 99999) /\ (0 <= e.second /\ e.second <= 99999) := by
 simp only [zuB, bkE, Bool.and_eq_true, List.all_eq_true] at hb
 have := hb.1.1 e h
 simp only [zwb, Bool.and_eq_true] at this
 exact ⟨this.1.1, zdh.1 this.1.2, zdh.1 this.2⟩
theorem zwk {bk : List Ent} (hb : zuB bk = true) : (bk.map (·.word)).Nodup := by
 simp only [zuB, bkE, Bool.and_eq_true, decide_eq_true_eq] at hb
 exact hb.1.2
theorem zCf : ∀ {bk : List Ent}, (bk.map (·.word)).Nodup -> ∀ {e : Ent}, e ∈ bk -> zuK bk e.word = some e
 | [], _, e, h => nomatch h
 | a :: bk, hn, e, h => by
  rw [List.map_cons, List.nodup_cons] at hn
  unfold zuK
  rw [List.find?_cons]
  rcases List.mem_cons.1 h with h1 | h1
  ·
   subst h1; simp
  ·
   have : a.word ≠ e.word := fun q => hn.1 (q ▸ List.mem_map.2 ⟨e, h1, rfl⟩)
   simp only [this, decide_false]
   exact zCf hn.2 h1
theorem zCg (n : Int) : ofB zl8 (grp n) = true := by
 have h := zlN n
 unfold G5.ok at h
 have z : ∀ {x : Int}, 0 <= x /\ x <= 9 -> zl8 ((chD x).toNat : Int) = true := fun {x} hx => by rw [zhE hx]; simp [zl8]; omega
 simp only [ofB, grp, G5.chs, List.all_cons, List.all_nil, z h.1, z h.2.1, z h.2.2.1, z h.2.2.2.1, z h.2.2.2.2, Bool.and_true, List.length_cons, List.length_nil, Nat.zero_add, decide_true]
theorem zCv {bk : List Ent} (hb : zuB bk = true) {t : List UInt8} (ht : ofB zl8 t = true) : zuK bk t = none := by
 unfold zuK
 rw [List.find?_eq_none]
 intro e he hq
 have hw := (zzt hb he).1
 rw [of_decide_eq_true hq] at hw
 simp only [ofB, Bool.and_eq_true, List.all_eq_true, decide_eq_true_eq] at ht hw
 cases t with
 | nil => simp at ht
 | cons b t =>
  have h1 := ht.1 b (List.mem_cons_self ..)
  have h2 := hw.1 b (List.mem_cons_self ..)
  simp only [zl8, zwt, Bool.and_eq_true, decide_eq_true_eq] at h1 h2
  omega
theorem zCt {n : Int} (h : 0 <= n /\ n <= 99999) : zvM (grp n) = n := by
 have ho := zlN n
 unfold G5.ok at ho
 simp only [zvM, grp, G5.chs, List.foldl_cons, List.foldl_nil, zhE ho.1, zhE ho.2.1, zhE ho.2.2.1, zhE ho.2.2.2.1, zhE ho.2.2.2.2]
 simp only [qB]
 omega
theorem zB6 {bk : List Ent} (hb : zuB bk = true) {n : Int} (h : 0 <= n /\ n <= 99999) : zuM bk (grp n) = [n] /\ zvZ bk (grp n) = true := by
 constructor
 ·
  rw [zuM, zCv hb (zCg n)]; exact congrArg (fun x => [x]) (zCt h)
 ·
  rw [zvZ, zCg, Bool.or_true]
theorem zCs {bk : List Ent} (hb : zuB bk = true) {e : Ent} (h : e ∈ bk) : zuM bk e.word = [e.first, e.second] /\ zvZ bk e.word = true := by
 rw [zuM, zvZ, zCf (zwk hb) h]; exact ⟨rfl, rfl⟩
theorem zB0 {bk : List Ent} (hb : zuB bk = true) : ∀ {m : List Int}, (∀ n ∈ m, 0 <= n /\ n <= 99999) -> (zuE bk m).flatMap (zuM bk) = m /\ (zuE bk m).all (zvZ bk) = true
 | [], _ => ⟨rfl, rfl⟩
 | [x], h => by
  have := zB6 hb (h x (List.mem_cons_self ..))
  rw [zuE]; simp [this.1, this.2]
 | x :: y :: m, h => by
  have h1 := zB0 hb (m := m) (fun n hn => h n (List.mem_cons_of_mem _ (List.mem_cons_of_mem _ hn)))
  have h2 := zB0 hb (m := y :: m) (fun n hn => h n (List.mem_cons_of_mem _ hn))
  have h3 := zB6 hb (h x (List.mem_cons_self ..))
  rw [zuE]
  cases he : zvo bk x y with
  | none => simp [h2.1, h2.2, h3.1, h3.2]
  | some e =>
   obtain ⟨e1, e2, e3⟩ := zyd he
   have h4 := zCs hb e1
   dsimp only
   split
   ·
    simp [h1.1, h1.2, h4.1, h4.2, e2, e3]
   ·
    simp [h2.1, h2.2, h3.1, h3.2]
theorem zB9 {bk : List Ent} (hb : zuB bk = true) : ∀ {m : List Int}, (∀ n ∈ m, 0 <= n /\ n <= 99999) -> (m.map grp).flatMap (zuM bk) = m /\ (m.map grp).all (zvZ bk) = true
 | [], _ => ⟨rfl, rfl⟩
 | x :: m, h => by
  have h1 := zB9 hb (m := m) (fun n hn => h n (List.mem_cons_of_mem _ hn))
  have h3 := zB6 hb (h x (List.mem_cons_self ..))
  simp only [List.map_cons, List.flatMap_cons, List.all_cons, h1.1, h1.2, h3.1, h3.2]
  exact ⟨rfl, rfl⟩
theorem zCa (bk : List Ent) : ∀ ts : List (List UInt8), (zuE bk (ts.flatMap (zuM bk))).length <= ts.length
 | [] => Nat.le_refl _
 | t :: ts => by
  have ih := zCa bk ts
  rw [List.flatMap_cons]
  unfold zuM at ih ⊢
  cases hw : zuK bk t with
  | none =>
   dsimp only
   have := zCp bk (zvM t) (ts.flatMap (zuM bk))
   unfold zuM at this
   simp only [List.cons_append, List.nil_append, List.length_cons]
   omega
  | some e =>
   dsimp only
   obtain ⟨e', he⟩ := zCl (List.mem_of_find?_eq_some hw) rfl rfl
   have := zCr (m := ts.flatMap (zuM bk)) he
   unfold zuM at this
   simp only [List.cons_append, List.nil_append, List.length_cons]
   omega
def zu0 (bk : List Ent) (m : List Int) : List (List UInt8) := zuE bk m ++ [(chk m).chs]
theorem zBZ {α : Type} (l : List α) (x : α) : (l ++ [x]).dropLast = l := by simp
theorem zCq {c : Cod} {bk : List Ent} (hb : zuB bk = true) {m : List Int} (h : ∀ n ∈ m, 0 <= n /\ n <= 99999) (hm : wS c m = true) : zvx bk (zu0 bk m) = m /\ zwN c bk (zu0 bk m) = true := by
 have h1 := zB0 hb h
 have e : zvx bk (zu0 bk m) = m := by rw [zvx, zu0, zBZ, h1.1]
 refine ⟨e, ?_⟩
 rw [zwN, e, hm, zu0, zBZ, h1.2]
 simp
theorem zxA (m : List Int) : jQ m = m.map grp ++ [(chk m).chs] := by simp [jQ, vV, grp, Function.comp_def]
theorem zCi {c : Cod} {bk : List Ent} (hb : zuB bk = true) {m : List Int} (h : ∀ n ∈ m, 0 <= n /\ n <= 99999) (hm : wS c m = true) : zvx bk (jQ m) = m /\ zwN c bk (jQ m) = true := by
 have h1 := zB9 hb h
 have e : zvx bk (jQ m) = m := by rw [zvx, zxA, zBZ, h1.1]
 refine ⟨e, ?_⟩
 rw [zwN, e, hm, zxA, zBZ, h1.2]
 simp
theorem zCo {c : Cod} {bk : List Ent} {ts : List (List UInt8)} (h : zwN c bk ts = true) {m : List Int} (hm : zvx bk ts = m) : (zu0 bk m).length <= ts.length := by
 have h1 := zCa bk ts.dropLast
 have hne : ts ≠ [] := by simp only [zwN, Bool.and_eq_true, decide_eq_true_eq] at h; exact h.1.1.1
 have : 0 < ts.length := List.length_pos_iff.2 hne
 rw [← hm, zvx, zu0]
 simp only [List.length_append, List.length_dropLast, List.length_cons, List.length_nil] at h1 ⊢
 omega
end Go.Av
end
section
namespace Go.Av
def lnA (n : Nt) (i : Int) : Lin := n.lines.getD i.toNat ⟨0, 0, 0, 0⟩
def oth (x : Lin) (o : Int) : Int := x.src + x.dst - o
def vs (n : Nt) : Int -> List Int -> List Int
 | a, [] => [a]
 | a, i :: l => a :: vs n (oth (lnA n i) a) l
end Go.Av
end
section
namespace Go.Av
open Go.Proofs
set_option maxRecDepth 100000
set_option maxHeartbeats 1000000
variable {G : Glob}
theorem zBv : elemIs Tryz.prog 26 34 1 24 := ⟨Tryz.underlying26, Tryz.t34, _, by kernel_rfl, rfl, rfl, rfl, rfl, by decide⟩
def ePk (bk : List Ent) (m : List Int) : List AV := [eBk bk, zO m]
def bsK {α : Type} (f : α -> α -> Bool) (d : α) (D : List α) : Nat -> α
 | 0 => D.getD 0 d
 | k + 1 => if f (D.getD (k + 1) d) (bsK f d D k) then D.getD (k + 1) d else bsK f d D k
theorem zBe (m : List Int) : ((vV m).map eFg)[(m.map fun n => [AV.v (.int .i64 n)]).length]? = some (eFg (chk m)) := by simp [vV]
def shF (a b : List (List UInt8)) : Bool := decide (a.length < b.length)
abbrev LS := List (List UInt8)
theorem f155 (a b : LS) : ACall Tryz.prog G 155 [jD a, jD b] (.v (.bool (shF a b))) := by
 refine zS Tryz.func155 rfl (by kernel_rfl) rfl ?_
 refine zl (zh (zg rfl rfl (zn rfl rfl) (zo (zf (zl (zh (zg rfl rfl (zq rfl rfl) (zg rfl rfl (qh rfl rfl rfl Tryz.underlying34) (zg rfl rfl (zq rfl rfl) (zg rfl rfl (qh rfl rfl rfl Tryz.underlying34) (zg rfl rfl (qi rfl rfl rfl) ?_)))))))))))
 refine zg rfl rfl (zn rfl rfl) (zo (zf (zP ?_)))
 exact ⟨.inr rfl, AVle.of (by simp [shF, jD])⟩
theorem f123 (m : List Int) (hl : m.length <= 1000) (hm : ∀ n ∈ m, 0 <= n /\ n <= 1000000000000) : ACall Tryz.prog G 123 [zO m] (eS (chk m).chs) := by
 refine zS Tryz.func123 rfl (by kernel_rfl) rfl ?_
 refine zl (zh (zg rfl rfl (zn rfl rfl) (zo (zf (zl (zh (zg rfl rfl (zq rfl rfl) (zg rfl rfl (zy (av := [_]) rfl ⟨rfl, trivial⟩ (f99 m hl hm)) (zg rfl rfl (zq rfl rfl) (zg rfl rfl (qh rfl rfl rfl Tryz.underlying23) ?_))))))))))
 refine zg rfl rfl (zG rfl rfl rfl zrY (by simp [vV]) (zBe m) zsV) ?_
 refine zg rfl rfl (zZ rfl rfl zck (by exact zLb rfl)) (zg rfl rfl (zy (av := [_]) rfl ⟨rfl, trivial⟩ (zut _ (zno m))) (zg rfl rfl (zn rfl rfl) (zo (zf (zP ?_)))))
 exact ⟨.inr rfl, AVle.refl _⟩
end Go.Av
end
