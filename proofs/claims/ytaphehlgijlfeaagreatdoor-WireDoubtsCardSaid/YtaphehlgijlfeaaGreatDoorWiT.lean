
import Derived.Test.YtaphehlgijlfeaaGreatDoorPlatN
import Derived.Test.YtaphehlgijlfeaaGreatDoorWiC
import Derived.ChangeKeysEq
import Derived.Laws.StructEq
import Derived.Test.YtaphehlgijlfeaaGreatDoorWiO
set_option linter.unusedVariables false
set_option linter.unusedSimpArgs false
section
namespace Go.Av
open Go.Proofs
set_option maxRecDepth 100000
def kN (g : G5) : Value := .agg #[.int .i64 g.a, .int .i64 g.b, .int .i64 g.c, .int .i64 g.d, .int .i64 g.e]
instance : DecidableEq G5 := fun x y => decidable_of_iff (x.a = y.a /\ x.b = y.b /\ x.c = y.c /\ x.d = y.d /\ x.e = y.e) (by cases x; cases y; simp)
theorem pk3 : Tryz.prog.plainKey 3 = true := by kernel_rfl
theorem pt3 {xs : Array Value} {off : Nat} {v : Value} (w : World) (hx : xs[off]? = some v) : (part 3 xs off).run Tryz.prog w = .ok v w := run_part_plain w pk3 hx
theorem zbm {xs ys : Array Value} {j : Nat} {is : List Nat} {p q : Int} (d : Nat) (w : World) (hx : xs[j]? = some (.int .i64 p)) (hy : ys[j]? = some (.int .i64 q)) : (Op.eqItems (d + 1) 3 1 xs ys (j :: is)).run Tryz.prog w = if (p == q) = true then (Op.eqItems (d + 1) 3 1 xs ys is).run Tryz.prog w else .ok false w := by
 have hi : (Op.equalIn (d + 1) 3 (.int .i64 p) (.int .i64 q)).run Tryz.prog w = .ok (p == q) w := run_equalIn_int w d 3 .i64 .i64 p q Tryz.underlying3
 simp only [Op.eqItems, Sem.run_bind, Nat.mul_one, pt3 w hx, pt3 w hy, hi, Result.andThen_ok]
 cases p == q
 ·
  rfl
 ·
  rfl
theorem zpk {xs ys : Array Value} (d : Nat) (w : World) : (Op.eqItems d 3 1 xs ys []).run Tryz.prog w = .ok true w := rfl
theorem eqG (a b : G5) (w : World) : (Op.equal 118 (kN a) (kN b)).run Tryz.prog w = .ok (decide (b = a)) w := by
 unfold Op.equal Op.maxDepth kN
 rw [run_equalIn_array (n := 5) (e := 3) _ 9999 _ _ Tryz.underlying118 (i := Tryz.t3) (by kernel_rfl)]
 have e5 : List.range 5 = [0, 1, 2, 3, 4] := rfl
 have hc : Tryz.prog.cellsOf 3 = 1 := by kernel_rfl
 rw [e5, hc, zbm (p := a.a) (q := b.a) 9998 w rfl rfl, zbm (p := a.b) (q := b.b) 9998 w rfl rfl, zbm (p := a.c) (q := b.c) 9998 w rfl rfl, zbm (p := a.d) (q := b.d) 9998 w rfl rfl, zbm (p := a.e) (q := b.e) 9998 w rfl rfl, zpk]
 have key : decide (b = a) = (a.a == b.a && (a.b == b.b && (a.c == b.c && (a.d == b.d && a.e == b.e)))) := by
  rw [Bool.eq_iff_iff]
  cases a; cases b
  simp only [Bool.and_eq_true, beq_iff_eq, decide_eq_true_eq, G5.mk.injEq]
  constructor
  ·
   rintro ⟨h1, h2, h3, h4, h5⟩; exact ⟨h1.symm, h2.symm, h3.symm, h4.symm, h5.symm⟩
  ·
   rintro ⟨h1, h2, h3, h4, h5⟩; exact ⟨h1.symm, h2.symm, h3.symm, h4.symm, h5.symm⟩
 rw [key]
 cases a.a == b.a <;> cases a.b == b.b <;> cases a.c == b.c <;> cases a.d == b.d <;> cases a.e == b.e <;> rfl
theorem ckI (b : Bool) (d : Nat) (x : Int) (w : World) : (Instr.checkKey b (d + 1) 3 (.int .i64 x)).run Tryz.prog w = .ok () w := by
 simp only [Instr.checkKey, Sem.run_bind, run_underlying Tryz.underlying3, Result.andThen_ok, Sem.run_pure]
theorem zte (b : Bool) (d : Nat) (g : G5) (w : World) : (Instr.checkKey b (d + 2) 118 (kN g)).run Tryz.prog w = .ok () w := by
 have hs : ∀ w : World, (Go.sizeOf 3).run Tryz.prog w = .ok 1 w := fun w => run_sizeOf w (i := Tryz.t3) (by kernel_rfl)
 have e5 : List.range' 0 5 = [0, 1, 2, 3, 4] := rfl
 have p0 : ∀ w : World, (part 3 #[Value.int .i64 g.a, .int .i64 g.b, .int .i64 g.c, .int .i64 g.d, .int .i64 g.e] 0).run Tryz.prog w = .ok (.int .i64 g.a) w := fun w => pt3 w rfl
 have p1 : ∀ w : World, (part 3 #[Value.int .i64 g.a, .int .i64 g.b, .int .i64 g.c, .int .i64 g.d, .int .i64 g.e] 1).run Tryz.prog w = .ok (.int .i64 g.b) w := fun w => pt3 w rfl
 have p2 : ∀ w : World, (part 3 #[Value.int .i64 g.a, .int .i64 g.b, .int .i64 g.c, .int .i64 g.d, .int .i64 g.e] 2).run Tryz.prog w = .ok (.int .i64 g.c) w := fun w => pt3 w rfl
 have p3 : ∀ w : World, (part 3 #[Value.int .i64 g.a, .int .i64 g.b, .int .i64 g.c, .int .i64 g.d, .int .i64 g.e] 3).run Tryz.prog w = .ok (.int .i64 g.d) w := fun w => pt3 w rfl
 have p4 : ∀ w : World, (part 3 #[Value.int .i64 g.a, .int .i64 g.b, .int .i64 g.c, .int .i64 g.d, .int .i64 g.e] 4).run Tryz.prog w = .ok (.int .i64 g.e) w := fun w => pt3 w rfl
 unfold kN
 rw [Instr.checkKey]
 simp only [Sem.run_bind, run_underlying Tryz.underlying118, Result.andThen_ok]
 simp only [Std.Legacy.Range.forIn_eq_forIn_range', Std.Legacy.Range.size, Nat.sub_zero, Nat.add_one_sub_one, Nat.div_one]
 rw [e5]
 simp only [List.forIn_cons, List.forIn_nil, Sem.run_bind, hs, Result.andThen_ok, Nat.mul_one, p0, p1, p2, p3, p4, ckI, Sem.run_pure]
theorem ckG (b : Bool) (g : G5) (w : World) : (Instr.checkKey b 10000 118 (kN g)).run Tryz.prog w = .ok () w := zte b 9998 g w
theorem zrr : KeyT Tryz.prog 118 kN := zn9 Tryz.underlying118 (fun _ _ => rfl) eqG ckG (fun a => by simp [kN, Instr.sameBits])
section
variable {G : Glob} {fr : Nat -> EV} {mem : List PO} {o : Oper}
theorem zrk : (Tryz.prog.info? 3).bind (·.zero) = some (.int .i64 0) := by kernel_rfl
theorem zmx {x i : Operand} {l : Nat} {es : List (G5 × Value)} {g : G5} {n : Int} (ho : o.op = .lookup 144 x i false) (hx : evO fr x = .mpv l) (hm : mem[l]? = some (xN kN es)) (hi : evO fr i = .pub (.agg (eFg g))) (hn : wM g (.int .i64 0) es = .int .i64 n) : OpY Tryz.prog G fr mem o (I n) := by
 have := zdD (P := Tryz.prog) (G := G) (fr := fr) (mem := mem) (enc := kN) ho hx hm hi (zeW (l := [.int .i64 g.a, .int .i64 g.b, .int .i64 g.c, .int .i64 g.d, .int .i64 g.e]) rfl) Tryz.underlying144 zrr zrk
 rw [show ofV (.int .i64 0) = .v (.int .i64 0) from rfl, zcX, hn] at this
 exact this
theorem zkE {x i : Operand} {l d : Nat} {es : List (G5 × Value)} {g : G5} {m : List PO} {n : Int} (hm : Agree [d] m mem) (hf : mem[d]? = some (.row [])) (hC : zjS kN l d g (.int .i64 0) es m) (ho : o.op = .lookup 144 x i false) (hx : evO fr x = .mpv l) (hi : evO fr i = .pub (.agg (eFg g))) (hn : wM g (.int .i64 0) es = .int .i64 n) : OpY Tryz.prog G fr m o (I n) := by
 have := zmL (P := Tryz.prog) (G := G) hm hf hC ho hx hi (zeW (l := [.int .i64 g.a, .int .i64 g.b, .int .i64 g.c, .int .i64 g.d, .int .i64 g.e]) rfl) Tryz.underlying144 zrr zrk rfl
 rw [hn] at this
 exact this
theorem zmm {x i : Operand} {l d : Nat} {es : List (G5 × Value)} {g : G5} {m : List PO} (hm : Agree [l] m mem) (hml : mem[l]? = some (xN kN es)) (hld : l ≠ d) (hC : zjS kN l d g (.int .i64 0) es m) (ho : o.op = .mapEntry 144 x i) (hx : evO fr x = .mpv l) (hi : evO fr i = .pub (.agg (eFg g))) (h1c : ∀ p ∈ es, p.2.oneCell' = true) :
  OpB Tryz.prog G fr m o (.pub (.tup [.v (wM g (.int .i64 0) es), .v (goInt (ixV g es))])) (m.set l (xN kN (yh g (wM g (.int .i64 0) es) es))) /\ zjS kN l d g (.int .i64 0) es (m.set l (xN kN (yh g (wM g (.int .i64 0) es) es))) :=
 zoq (P := Tryz.prog) (G := G) hm hml hld hC ho hx hi (zeW (l := [.int .i64 g.a, .int .i64 g.b, .int .i64 g.c, .int .i64 g.d, .int .i64 g.e]) rfl) Tryz.underlying144 zrr zrk rfl h1c
end
def esK (ks : List G5) : Nat -> List (G5 × Value)
 | 0 => []
 | k + 1 => yh (ks.getD k ⟨0, 0, 0, 0, 0⟩) (.int .i64 (((ks.take k).count (ks.getD k ⟨0, 0, 0, 0, 0⟩) : Nat) + 1)) (esK ks k)
def mxK (ks : List G5) : Nat -> Nat
 | 0 => 0
 | k + 1 => max (mxK ks k) ((ks.take k).count (ks.getD k ⟨0, 0, 0, 0, 0⟩) + 1)
theorem zdd {a b : G5} (h : a ≠ b) (d x : Value) : ∀ es : List (G5 × Value), wM b d (yh a x es) = wM b d es
 | [] => by simp [yh, wM, h]
 | (c, y) :: t => by
  unfold yh
  by_cases hc : c = a
  ·
   rw [if_pos hc]; unfold wM; rw [if_neg h, if_neg (by rw [hc]; exact h)]
  ·
   rw [if_neg hc]; unfold wM; by_cases hcb : c = b
   ·
    rw [if_pos hcb, if_pos hcb]
   ·
    rw [if_neg hcb, if_neg hcb]; exact zdd h d x t
theorem zlb {ks : List G5} {g : G5} : ∀ {k : Nat}, k <= ks.length -> wM g (.int .i64 0) (esK ks k) = .int .i64 (((ks.take k).count g : Nat) : Int) := by
 intro k
 induction k with
 | zero => intro _; simp [esK, wM]
 | succ k ih =>
  intro hk
  have hg : ks.getD k ⟨0, 0, 0, 0, 0⟩ = ks[k] := by simp [show k < ks.length by omega]
  rw [esK, hg, List.take_succ_eq_append_getElem (by omega), List.count_append]
  by_cases h : ks[k] = g
  ·
   subst h; rw [zdC]; simp
  ·
   rw [zdd h, ih (by omega)]; simp [h]
theorem ziY {a : G5} {x : Value} : ∀ {es : List (G5 × Value)} {p : G5 × Value}, p ∈ yh a x es -> p ∈ es ∨ p = (a, x)
 | [], p, h => by simp [yh] at h; exact .inr h
 | (c, y) :: t, p, h => by
  unfold yh at h
  by_cases hc : c = a
  ·
   rw [if_pos hc] at h
   rcases List.mem_cons.1 h with h | h
   ·
    exact .inr h
   ·
    exact .inl (List.mem_cons_of_mem _ h)
  ·
   rw [if_neg hc] at h
   rcases List.mem_cons.1 h with h | h
   ·
    exact .inl (h ▸ List.mem_cons_self ..)
   ·
    rcases ziY h with h | h
    ·
     exact .inl (List.mem_cons_of_mem _ h)
    ·
     exact .inr h
theorem zqr {ks : List G5} : ∀ {k : Nat}, ∀ p ∈ esK ks k, p.2.oneCell' = true := by
 intro k
 induction k with
 | zero => intro p h; cases h
 | succ k ih =>
  intro p h
  rcases ziY h with h | h
  ·
   exact ih p h
  ·
   rw [h]; rfl
theorem zaQ {ks : List G5} {k : Nat} (hk : k < ks.length) (g : G5) : (ks.take (k + 1)).count g = (ks.take k).count g + if ks[k] = g then 1 else 0 := by
 rw [List.take_succ_eq_append_getElem hk, List.count_append]
 by_cases h : ks[k] = g <;> simp [h]
theorem zor {ks : List G5} (g : G5) : ∀ {k : Nat}, k <= ks.length -> (ks.take k).count g <= mxK ks k := by
 intro k
 induction k with
 | zero => intro _; simp
 | succ k ih =>
  intro hk
  have hg : ks.getD k ⟨0, 0, 0, 0, 0⟩ = ks[k] := by simp [show k < ks.length by omega]
  have h1 := ih (by omega)
  rw [zaQ (by omega), mxK, hg]
  by_cases h : ks[k] = g
  ·
   rw [if_pos h, h]; omega
  ·
   rw [if_neg h]; omega
theorem zrZ {ks : List G5} : ∀ {k : Nat}, k <= ks.length -> 0 < k -> ∃ g ∈ ks, mxK ks k = (ks.take k).count g := by
 intro k
 induction k with
 | zero => intro _ h; omega
 | succ k ih =>
  intro hk _
  have hg : ks.getD k ⟨0, 0, 0, 0, 0⟩ = ks[k] := by simp [show k < ks.length by omega]
  by_cases hc : mxK ks k <= (ks.take k).count ks[k] + 1
  ·
   refine ⟨ks[k], List.getElem_mem _, ?_⟩
   rw [mxK, hg, zaQ (by omega), if_pos rfl]; omega
  ·
   have hk0 : 0 < k := by
    rcases Nat.eq_zero_or_pos k with h | h
    ·
     subst h; simp [mxK] at hc
    ·
     exact h
   obtain ⟨g, hgm, hge⟩ := ih (by omega) hk0
   refine ⟨g, hgm, ?_⟩
   rw [mxK, hg, zaQ (by omega)]
   by_cases h : ks[k] = g
   ·
    exfalso; rw [h] at hc; omega
   ·
    rw [if_neg h]; omega
theorem zro {ks : List G5} : ∀ {k : Nat}, mxK ks k <= k := by
 intro k
 induction k with
 | zero => exact Nat.le_refl _
 | succ k ih =>
  rw [mxK]
  have h1 : (ks.take k).count (ks.getD k ⟨0, 0, 0, 0, 0⟩) <= (ks.take k).length := List.count_le_length
  have h2 : (ks.take k).length <= k := by rw [List.length_take]; omega
  omega
end Go.Av
end
section
namespace Go.Av
open Go.Proofs
set_option maxRecDepth 100000
set_option maxHeartbeats 1000000
variable {G : Glob}
theorem xZ : tyIs Tryz.prog 143 true 2 = true := by kernel_rfl
theorem znP : fldIs Tryz.prog 143 0 0 = true := by kernel_rfl
theorem zbw : fldIs Tryz.prog 143 1 1 = true := by kernel_rfl
theorem zsD : elemIs Tryz.prog 141 143 2 16 := ⟨Tryz.underlying141, Tryz.t143, _, by kernel_rfl, rfl, rfl, rfl, rfl, by decide⟩
theorem zj8 : zau Tryz.prog 141 2 = true := by kernel_rfl
theorem ziB : (Tryz.prog.info? 143).bind (·.zero) = some (.agg #[.int .i64 0, .int .i64 0]) := by kernel_rfl
def xC (D : List (Int × Int)) : Nat -> Int × Int
 | 0 => D.getD 0 (0, 0)
 | k + 1 => if (D.getD (k + 1) (0, 0)).2 < (xC D k).2 then D.getD (k + 1) (0, 0) else xC D k
def zbD (D : List (Int × Int)) : Int × Int := xC D (D.length - 1)
def qP (L : List (List Int)) (p : Nat) : List G5 := L.map fun m => (vV m).getD p ⟨0, 0, 0, 0, 0⟩
def kL (L : List (List Int)) (p : Nat) : Nat := mxK (qP L p) L.length
def kK (n : Nat) (L : List (List Int)) : List (Int × Int) := (List.range n).map fun (p : Nat) => ((p : Int), (kL L p : Int))
def zs6 (D : List (Int × Int)) : AV := .sl (D.map ye)
theorem zko (D : List (Int × Int)) (h : 0 < D.length) : (((D.map ye).take (D.map ye).length).drop (1 : Int).toNat) = (D.drop 1).map ye := by rw [List.take_length, List.map_drop]; rfl
theorem drop_at {D : List (Int × Int)} {k : Nat} (h : k + 1 < D.length) : ((D.drop 1).map ye)[k]? = some (ye (D.getD (k + 1) (0, 0))) := by
 simp [List.getElem?_drop, show 1 + k = k + 1 by omega, h]
theorem zpV {L : List (List Int)} {p q : Nat} (h : q < L.length) : (qP L p).getD q ⟨0, 0, 0, 0, 0⟩ = (vV L[q]).getD p ⟨0, 0, 0, 0, 0⟩ := by simp [qP, h]
theorem zbH (L : List (List Int)) (p : Nat) : (qP L p).length = L.length := by simp [qP]
theorem zsF {l : List G5} {p : Nat} (h : p < l.length) : (l.map eFg)[p]? = some (eFg (l.getD p ⟨0, 0, 0, 0, 0⟩)) := by simp [h]
theorem znd (L : List (List Int)) (k : Nat) : ((kK k L).map fun p => [I p.1, I p.2]) ++ [[I (k : Int), I (kL L k : Int)]] = (kK (k + 1) L).map fun p => [I p.1, I p.2] := by
 simp [kK, List.range_succ]
theorem zbT (n : Nat) (L : List (List Int)) : (kK n L).length = n := by simp [kK]
theorem zn4 (ks : List G5) (k : Nat) (g : G5) (n : Nat) (h1 : g = ks.getD k ⟨0, 0, 0, 0, 0⟩) (h2 : n = (ks.take k).count g) : xN kN (yh g (.int .i64 ((n : Int) + 1)) (esK ks k)) = xN kN (esK ks (k + 1)) := by
 subst h1; subst h2; rfl
theorem f101 (p q : Int × Int) : ACall Tryz.prog G 101 [.agg (ye p), .agg (ye q)] (.v (.bool (decide (p.2 < q.2)))) := by
 refine zS Tryz.func101 rfl (by kernel_rfl) rfl ?_
 refine zl (zh (zg rfl rfl (jf rfl (zY rfl)) (zg rfl rfl (jf rfl (zY rfl)) (zg rfl rfl (zn rfl rfl) (zo (zf (zl (zh (zg rfl rfl (zu rfl rfl zbw) (zg rfl rfl (zA rfl rfl rfl ty3) (zg rfl rfl (zu rfl rfl zbw) ?_)))))))))))
 refine zg rfl rfl (zA rfl rfl rfl ty3) (zg rfl rfl (qi rfl rfl rfl) (zg rfl rfl (zn rfl rfl) (zo (zf (zP ?_)))))
 exact ⟨.inr rfl, AVle.refl _⟩
theorem f100 (D : List (Int × Int)) (h0 : 0 < D.length) (hD : D.length <= 1000) : ACall Tryz.prog G 100 [zs6 D, .fn 101 [] []] (.agg (ye (zbD D))) := by
 have hz := zko D h0
 refine zS Tryz.func100 rfl (by kernel_rfl) rfl ?_
 refine zl (zh (jb rfl (wJ rfl rfl ziB rfl rfl) (zo (zf (zl (zh (zg rfl rfl (zq rfl rfl) ?_)))))))
 refine zg rfl rfl (zG rfl rfl rfl zj8 (by omega) (show (D.map ye)[0]? = some (ye (D.getD 0 (0, 0))) by simp [h0]) x9) ?_
 refine zg rfl rfl (zZ rfl rfl xZ (by exact zLb rfl)) (jb rfl (wJ rfl rfl ziB rfl rfl) ?_)
 refine jb rfl (qG rfl rfl rfl rfl rfl rfl (zY rfl) xZ (by rfl) (by exact zLb rfl)) ?_
 refine zo (zf (zl (zl (zh (zg rfl rfl (zq rfl rfl) ?_)))))
 refine zg rfl rfl (zhU rfl rfl rfl rfl zj8 x9 (by omega) (by simp; omega) (by simp)) ?_
 refine zg rfl rfl (qh rfl rfl rfl Tryz.underlying141) (zg rfl rfl (zi rfl rfl) (zo (zf (zB ?_))))
 refine qy (ι := { k : Nat // k + 1 <= D.length }) (fun k => ⟨Tryz.f100.ntmps, frL [(1, .pub (.fn 101 [] [])), (4, .pp 0 1 0 0), (5, .pp 1 1 0 0), (12, .pub (.sl ((D.drop 1).map ye))), (13, I ((D.length - 1 : Nat) : Int)), (14, I (k.1 : Int))], [.row [[I 0, I 0]], .row [[I (xC D k.1).1, I (xC D k.1).2]]]⟩) (fun k => D.length - k.1) (⟨0, by omega⟩) ?_ ?_
 ·
  exact zt _ ⟨rfl, rfl, rfl, (congrArg (fun z => EV.pub (AV.sl z)) hz), (congrArg (fun z : Nat => I (z : Int)) (by rw [Int.toNat_natCast, hz]; simp)), rfl, trivial⟩ (rfl)
 ·
  rintro ⟨k, hk⟩
  dsimp only
  refine zl (zh (zg rfl rfl (qi rfl rfl rfl) (zo (zf (zl (zx rfl (fun h_0 => ?_) (fun h_0 => ?_)))))))
  ·
   have hlt : k + 1 < D.length := by simp at h_0; omega
   refine zC (zf (zl (zB (zl (zh (zg rfl rfl (zG rfl rfl rfl zj8 (by omega) (drop_at (by omega)) x9) (zg rfl rfl (zZ rfl rfl xZ (by exact zLb rfl)) ?_)))))))
   refine vI  rfl rfl rfl rfl rfl rfl rfl ziB xZ rfl (by rfl) (zY rfl) rfl ?_
   refine zo (zf (zl (zh (zg rfl rfl (zq rfl rfl) (zg rfl rfl (zZ rfl rfl xZ (by exact zLb rfl)) (zg rfl rfl (qN (cs := [_, _]) rfl rfl rfl rfl rfl (by exact zLb rfl) rfl xZ) (zg rfl rfl (zbX (av := [_, _]) rfl rfl ⟨rfl, rfl, trivial⟩ (f101 (D.getD (k + 1) (0, 0)) (xC D k))) (zo (zf (zx rfl (fun h_1 => ?_) (fun h_1 => ?_)))))))))))
   ·
    have hb : xC D (k + 1) = D.getD (k + 1) (0, 0) := by rw [xC, if_pos (by simpa using h_1)]
    refine zh (zg rfl rfl (zZ rfl rfl xZ (by exact zLb rfl)) ?_)
    refine jb rfl (qG rfl rfl rfl rfl rfl rfl (zY rfl) xZ (by rfl) (by exact zLb rfl)) ?_
    refine zo (zD (zf (zh (zg rfl rfl (zV rfl rfl rfl ⟨(by omega), (by omega)⟩) (zg rfl rfl (zi rfl rfl) (zo ?_))))))
    exact ⟨⟨k + 1, by omega⟩, by dsimp only; omega, zt _ ⟨rfl, rfl, rfl, rfl, rfl, rfl, trivial⟩ ((congrArg (fun z : Int × Int => [PO.row [[I 0, I 0]], PO.row [[I z.1, I z.2]]]) hb.symm))⟩
   ·
    have hb : xC D (k + 1) = xC D k := by rw [xC, if_neg (by simpa using h_1)]
    refine zC (zD (zf (zh (zg rfl rfl (zV rfl rfl rfl ⟨(by omega), (by omega)⟩) (zg rfl rfl (zi rfl rfl) (zo ?_))))))
    exact ⟨⟨k + 1, by omega⟩, by dsimp only; omega, zt _ ⟨rfl, rfl, rfl, rfl, rfl, rfl, trivial⟩ ((congrArg (fun z : Int × Int => [PO.row [[I 0, I 0]], PO.row [[I z.1, I z.2]]]) hb.symm))⟩
  ·
   have hge : D.length <= k + 1 := by simp at h_0; omega
   have hk2 : k = D.length - 1 := by omega
   refine qp (zL (zL (qw (zf (zl (zh (zg rfl rfl (qN (cs := [_, _]) rfl rfl rfl rfl rfl (by exact zLb rfl) rfl xZ) ?_)))))))
   refine jb rfl (qG rfl rfl rfl rfl rfl rfl (zY rfl) xZ (by rfl) (by exact zLb rfl)) ?_
   refine zo (zf (zP ?_))
   exact ⟨.inr rfl, zhe rfl (jK rfl rfl rfl rfl xZ rfl ⟨_, _, rfl, AVle.of (by rw [zbD, hk2]), ⟨_, _, rfl, AVle.of (by rw [zbD, hk2]), rfl⟩⟩)⟩
end Go.Av
end
