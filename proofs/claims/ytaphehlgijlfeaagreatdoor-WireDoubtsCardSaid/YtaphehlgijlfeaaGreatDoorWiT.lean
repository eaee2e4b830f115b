
import Derived.Test.YtaphehlgijlfeaaGreatDoorPlatN
import Derived.Test.YtaphehlgijlfeaaGreatDoorWiC
import Derived.ChangeKeysEq
import Derived.Laws.StructEq
import Derived.Test.YtaphehlgijlfeaaGreatDoorWiO
set_option linter.unusedVariables false
set_option linter.unusedSimpArgs false
section
namespace Go.Av
open Go.Proofs
set_option maxRecDepth 100000
def kL (g : G5) : Value := .agg #[.int .i64 g.a, .int .i64 g.b, .int .i64 g.c, .int .i64 g.d, .int .i64 g.e]
instance : DecidableEq G5 := fun x y => decidable_of_iff (x.a = y.a ∧ x.b = y.b ∧ x.c = y.c ∧ x.d = y.d ∧ x.e = y.e) (by cases x; cases y; simp)
theorem pk3 : Tryz.prog.plainKey 3 = true := by kernel_rfl
theorem pt3 {xs : Array Value} {off : Nat} {v : Value} (w : World) (hx : xs[off]? = some v) : (part 3 xs off).run Tryz.prog w = .ok v w := run_part_plain w pk3 hx
theorem zbI {xs ys : Array Value} {j : Nat} {is : List Nat} {p q : Int} (d : Nat) (w : World) (hx : xs[j]? = some (.int .i64 p)) (hy : ys[j]? = some (.int .i64 q)) : (Op.eqItems (d + 1) 3 1 xs ys (j :: is)).run Tryz.prog w = if (p == q) = true then (Op.eqItems (d + 1) 3 1 xs ys is).run Tryz.prog w else .ok false w := by
 have hi : (Op.equalIn (d + 1) 3 (.int .i64 p) (.int .i64 q)).run Tryz.prog w = .ok (p == q) w := run_equalIn_int w d 3 .i64 .i64 p q Tryz.underlying3
 simp only [Op.eqItems, Sem.run_bind, Nat.mul_one, pt3 w hx, pt3 w hy, hi, Result.andThen_ok]
 cases p == q
 · rfl
 · rfl
theorem zpg {xs ys : Array Value} (d : Nat) (w : World) : (Op.eqItems d 3 1 xs ys []).run Tryz.prog w = .ok true w := rfl
theorem eqG (a b : G5) (w : World) : (Op.equal 118 (kL a) (kL b)).run Tryz.prog w = .ok (decide (b = a)) w := by
 unfold Op.equal Op.maxDepth kL
 rw [run_equalIn_array (n := 5) (e := 3) _ 9999 _ _ Tryz.underlying118 (i := Tryz.t3) (by kernel_rfl)]
 have e5 : List.range 5 = [0, 1, 2, 3, 4] := rfl
 have hc : Tryz.prog.cellsOf 3 = 1 := by kernel_rfl
 rw [e5, hc, zbI (p := a.a) (q := b.a) 9998 w rfl rfl, zbI (p := a.b) (q := b.b) 9998 w rfl rfl, zbI (p := a.c) (q := b.c) 9998 w rfl rfl, zbI (p := a.d) (q := b.d) 9998 w rfl rfl, zbI (p := a.e) (q := b.e) 9998 w rfl rfl, zpg]
 have key : decide (b = a) = (a.a == b.a && (a.b == b.b && (a.c == b.c && (a.d == b.d && a.e == b.e)))) := by
  rw [Bool.eq_iff_iff]
  cases a; cases b
  simp only [Bool.and_eq_true, beq_iff_eq, decide_eq_true_eq, G5.mk.injEq]
  constructor
  · rintro ⟨h1, h2, h3, h4, h5⟩; exact ⟨h1.symm, h2.symm, h3.symm, h4.symm, h5.symm⟩
  · rintro ⟨h1, h2, h3, h4, h5⟩; exact ⟨h1.symm, h2.symm, h3.symm, h4.symm, h5.symm⟩
 rw [key]
 cases a.a == b.a <;> cases a.b == b.b <;> cases a.c == b.c <;> cases a.d == b.d <;> cases a.e == b.e <;> rfl
theorem ckI (b : Bool) (d : Nat) (x : Int) (w : World) : (Instr.checkKey b (d + 1) 3 (.int .i64 x)).run Tryz.prog w = .ok () w := by
 simp only [Instr.checkKey, Sem.run_bind, run_underlying Tryz.underlying3, Result.andThen_ok, Sem.run_pure]
theorem zti (b : Bool) (d : Nat) (g : G5) (w : World) : (Instr.checkKey b (d + 2) 118 (kL g)).run Tryz.prog w = .ok () w := by
 have hs : ∀ w : World, (Go.sizeOf 3).run Tryz.prog w = .ok 1 w := fun w => run_sizeOf w (i := Tryz.t3) (by kernel_rfl)
 have e5 : List.range' 0 5 = [0, 1, 2, 3, 4] := rfl
 have p0 : ∀ w : World, (part 3 #[Value.int .i64 g.a, .int .i64 g.b, .int .i64 g.c, .int .i64 g.d, .int .i64 g.e] 0).run Tryz.prog w = .ok (.int .i64 g.a) w := fun w => pt3 w rfl
 have p1 : ∀ w : World, (part 3 #[Value.int .i64 g.a, .int .i64 g.b, .int .i64 g.c, .int .i64 g.d, .int .i64 g.e] 1).run Tryz.prog w = .ok (.int .i64 g.b) w := fun w => pt3 w rfl
 have p2 : ∀ w : World, (part 3 #[Value.int .i64 g.a, .int .i64 g.b, .int .i64 g.c, .int .i64 g.d, .int .i64 g.e] 2).run Tryz.prog w = .ok (.int .i64 g.c) w := fun w => pt3 w rfl
 have p3 : ∀ w : World, (part 3 #[Value.int .i64 g.a, .int .i64 g.b, .int .i64 g.c, .int .i64 g.d, .int .i64 g.e] 3).run Tryz.prog w = .ok (.int .i64 g.d) w := fun w => pt3 w rfl
 have p4 : ∀ w : World, (part 3 #[Value.int .i64 g.a, .int .i64 g.b, .int .i64 g.c, .int .i64 g.d, .int .i64 g.e] 4).run Tryz.prog w = .ok (.int .i64 g.e) w := fun w => pt3 w rfl
 unfold kL
 rw [Instr.checkKey]
 simp only [Sem.run_bind, run_underlying Tryz.underlying118, Result.andThen_ok]
 simp only [Std.Legacy.Range.forIn_eq_forIn_range', Std.Legacy.Range.size, Nat.sub_zero, Nat.add_one_sub_one, Nat.div_one]
 rw [e5]
 simp only [List.forIn_cons, List.forIn_nil, Sem.run_bind, hs, Result.andThen_ok, Nat.mul_one, p0, p1, p2, p3, p4, ckI, Sem.run_pure]
theorem ckG (b : Bool) (g : G5) (w : World) : (Instr.checkKey b 10000 118 (kL g)).run Tryz.prog w = .ok () w := zti b 9998 g w
theorem zrY : KeyT Tryz.prog 118 kL := zoc Tryz.underlying118 (fun _ _ => rfl) eqG ckG (fun a => by simp [kL, Instr.sameBits])
section
variable {G : Glob} {fr : Nat → EV} {mem : List PO} {o : Oper}
theorem zrp : (Tryz.prog.info? 3).bind (·.zero) = some (.int .i64 0) := by kernel_rfl
theorem zl0 {x i : Operand} {l : Nat} {es : List (G5 × Value)} {g : G5} {n : Int} (ho : o.op = .lookup 144 x i false) (hx : evO fr x = .mpv l) (hm : mem[l]? = some (xO kL es)) (hi : evO fr i = .pub (.agg (eFg g))) (hn : wL g (.int .i64 0) es = .int .i64 n) : OpY Tryz.prog G fr mem o (I n) := by
 have := zdX (P := Tryz.prog) (G := G) (fr := fr) (mem := mem) (enc := kL) ho hx hm hi (zfk (l := [.int .i64 g.a, .int .i64 g.b, .int .i64 g.c, .int .i64 g.d, .int .i64 g.e]) rfl) Tryz.underlying144 zrY zrp
 rw [show ofV (.int .i64 0) = .v (.int .i64 0) from rfl, zda, hn] at this
 exact this
theorem zj6 {x i : Operand} {l d : Nat} {es : List (G5 × Value)} {g : G5} {m : List PO} {n : Int} (hm : Agree [d] m mem) (hf : mem[d]? = some (.row [])) (hC : zkH kL l d g (.int .i64 0) es m) (ho : o.op = .lookup 144 x i false) (hx : evO fr x = .mpv l) (hi : evO fr i = .pub (.agg (eFg g))) (hn : wL g (.int .i64 0) es = .int .i64 n) : OpY Tryz.prog G fr m o (I n) := by
 have := zmh (P := Tryz.prog) (G := G) hm hf hC ho hx hi (zfk (l := [.int .i64 g.a, .int .i64 g.b, .int .i64 g.c, .int .i64 g.d, .int .i64 g.e]) rfl) Tryz.underlying144 zrY zrp rfl
 rw [hn] at this
 exact this
theorem zmz {x i : Operand} {l d : Nat} {es : List (G5 × Value)} {g : G5} {m : List PO} (hm : Agree [l] m mem) (hml : mem[l]? = some (xO kL es)) (hld : l ≠ d) (hC : zkH kL l d g (.int .i64 0) es m) (ho : o.op = .mapEntry 144 x i) (hx : evO fr x = .mpv l) (hi : evO fr i = .pub (.agg (eFg g))) (h1c : ∀ p ∈ es, p.2.oneCell' = true) :
  OpB Tryz.prog G fr m o (.pub (.tup [.v (wL g (.int .i64 0) es), .v (goInt (ixV g es))])) (m.set l (xO kL (yg g (wL g (.int .i64 0) es) es))) ∧ zkH kL l d g (.int .i64 0) es (m.set l (xO kL (yg g (wL g (.int .i64 0) es) es))) :=
 znE (P := Tryz.prog) (G := G) hm hml hld hC ho hx hi (zfk (l := [.int .i64 g.a, .int .i64 g.b, .int .i64 g.c, .int .i64 g.d, .int .i64 g.e]) rfl) Tryz.underlying144 zrY zrp rfl h1c
end
def esK (ks : List G5) : Nat → List (G5 × Value)
 | 0 => []
 | k + 1 => yg (ks.getD k ⟨0, 0, 0, 0, 0⟩) (.int .i64 (((ks.take k).count (ks.getD k ⟨0, 0, 0, 0, 0⟩) : Nat) + 1)) (esK ks k)
def mxK (ks : List G5) : Nat → Nat
 | 0 => 0
 | k + 1 => max (mxK ks k) ((ks.take k).count (ks.getD k ⟨0, 0, 0, 0, 0⟩) + 1)
theorem zc5 {a b : G5} (h : a ≠ b) (d x : Value) : ∀ es : List (G5 × Value), wL b d (yg a x es) = wL b d es
 | [] => by simp [yg, wL, h]
 | (c, y) :: t => by
  unfold yg
  by_cases hc : c = a
  · rw [if_pos hc]; unfold wL; rw [if_neg h, if_neg (by rw [hc]; exact h)]
  · rw [if_neg hc]; unfold wL; by_cases hcb : c = b
   · rw [if_pos hcb, if_pos hcb]
   · rw [if_neg hcb, if_neg hcb]; exact zc5 h d x t
theorem zlf {ks : List G5} {g : G5} : ∀ {k : Nat}, k ≤ ks.length → wL g (.int .i64 0) (esK ks k) = .int .i64 (((ks.take k).count g : Nat) : Int) := by
 intro k
 induction k with
 | zero => intro _; simp [esK, wL]
 | succ k ih =>
  intro hk
  have hg : ks.getD k ⟨0, 0, 0, 0, 0⟩ = ks[k] := by simp [show k < ks.length by omega]
  rw [esK, hg, List.take_succ_eq_append_getElem (by omega), List.count_append]
  by_cases h : ks[k] = g
  · subst h; rw [zdM]; simp
  · rw [zc5 h, ih (by omega)]; simp [h]
theorem ziQ {a : G5} {x : Value} : ∀ {es : List (G5 × Value)} {p : G5 × Value}, p ∈ yg a x es → p ∈ es ∨ p = (a, x)
 | [], p, h => by simp [yg] at h; exact .inr h
 | (c, y) :: t, p, h => by
  unfold yg at h
  by_cases hc : c = a
  · rw [if_pos hc] at h
   rcases List.mem_cons.1 h with h | h
   · exact .inr h
   · exact .inl (List.mem_cons_of_mem _ h)
  · rw [if_neg hc] at h
   rcases List.mem_cons.1 h with h | h
   · exact .inl (h ▸ List.mem_cons_self ..)
   · rcases ziQ h with h | h
    · exact .inl (List.mem_cons_of_mem _ h)
    · exact .inr h
theorem zqr {ks : List G5} : ∀ {k : Nat}, ∀ p ∈ esK ks k, p.2.oneCell' = true := by
 intro k
 induction k with
 | zero => intro p h; cases h
 | succ k ih =>
  intro p h
  rcases ziQ h with h | h
  · exact ih p h
  · rw [h]; rfl
theorem zaY {ks : List G5} {k : Nat} (hk : k < ks.length) (g : G5) : (ks.take (k + 1)).count g = (ks.take k).count g + if ks[k] = g then 1 else 0 := by
 rw [List.take_succ_eq_append_getElem hk, List.count_append]
 by_cases h : ks[k] = g <;> simp [h]
theorem zm3 {ks : List G5} (g : G5) : ∀ {k : Nat}, k ≤ ks.length → (ks.take k).count g ≤ mxK ks k := by
 intro k
 induction k with
 | zero => intro _; simp
 | succ k ih =>
  intro hk
  have hg : ks.getD k ⟨0, 0, 0, 0, 0⟩ = ks[k] := by simp [show k < ks.length by omega]
  have h1 := ih (by omega)
  rw [zaY (by omega), mxK, hg]
  by_cases h : ks[k] = g
  · rw [if_pos h, h]; omega
  · rw [if_neg h]; omega
theorem zrU {ks : List G5} : ∀ {k : Nat}, k ≤ ks.length → 0 < k → ∃ g ∈ ks, mxK ks k = (ks.take k).count g := by
 intro k
 induction k with
 | zero => intro _ h; omega
 | succ k ih =>
  intro hk _
  have hg : ks.getD k ⟨0, 0, 0, 0, 0⟩ = ks[k] := by simp [show k < ks.length by omega]
  by_cases hc : mxK ks k ≤ (ks.take k).count ks[k] + 1
  · refine ⟨ks[k], List.getElem_mem _, ?_⟩
   rw [mxK, hg, zaY (by omega), if_pos rfl]; omega
  · have hk0 : 0 < k := by
    rcases Nat.eq_zero_or_pos k with h | h
    · subst h; simp [mxK] at hc
    · exact h
   obtain ⟨g, hgm, hge⟩ := ih (by omega) hk0
   refine ⟨g, hgm, ?_⟩
   rw [mxK, hg, zaY (by omega)]
   by_cases h : ks[k] = g
   · exfalso; rw [h] at hc; omega
   · rw [if_neg h]; omega
theorem zrI {ks : List G5} : ∀ {k : Nat}, mxK ks k ≤ k := by
 intro k
 induction k with
 | zero => exact Nat.le_refl _
 | succ k ih =>
  rw [mxK]
  have h1 : (ks.take k).count (ks.getD k ⟨0, 0, 0, 0, 0⟩) ≤ (ks.take k).length := List.count_le_length
  have h2 : (ks.take k).length ≤ k := by rw [List.length_take]; omega
  omega
end Go.Av
end
section
namespace Go.Av
open Go.Proofs
set_option maxRecDepth 100000
set_option maxHeartbeats 1000000
variable {G : Glob}
theorem zac : tyIs Tryz.prog 143 true 2 = true := by kernel_rfl
theorem zny : fldIs Tryz.prog 143 0 0 = true := by kernel_rfl
theorem zbJ : fldIs Tryz.prog 143 1 1 = true := by kernel_rfl
theorem zsN : elemIs Tryz.prog 141 143 2 16 := ⟨Tryz.underlying141, Tryz.t143, _, by kernel_rfl, rfl, rfl, rfl, rfl, by decide⟩
theorem zjX : zaF Tryz.prog 141 2 = true := by kernel_rfl
theorem ziY : (Tryz.prog.info? 143).bind (·.zero) = some (.agg #[.int .i64 0, .int .i64 0]) := by kernel_rfl
def xI (D : List (Int × Int)) : Nat → Int × Int
 | 0 => D.getD 0 (0, 0)
 | k + 1 => if (D.getD (k + 1) (0, 0)).2 < (xI D k).2 then D.getD (k + 1) (0, 0) else xI D k
def zbm (D : List (Int × Int)) : Int × Int := xI D (D.length - 1)
def qP (L : List (List Int)) (p : Nat) : List G5 := L.map fun m => (vW m).getD p ⟨0, 0, 0, 0, 0⟩
def kP (L : List (List Int)) (p : Nat) : Nat := mxK (qP L p) L.length
def kN (n : Nat) (L : List (List Int)) : List (Int × Int) := (List.range n).map fun (p : Nat) => ((p : Int), (kP L p : Int))
def zs5 (D : List (Int × Int)) : AV := .sl (D.map ye)
theorem zjU (D : List (Int × Int)) (h : 0 < D.length) : (((D.map ye).take (D.map ye).length).drop (1 : Int).toNat) = (D.drop 1).map ye := by rw [List.take_length, List.map_drop]; rfl
theorem drop_at {D : List (Int × Int)} {k : Nat} (h : k + 1 < D.length) : ((D.drop 1).map ye)[k]? = some (ye (D.getD (k + 1) (0, 0))) := by
 simp [List.getElem?_drop, show 1 + k = k + 1 by omega, h]
theorem zo9 {L : List (List Int)} {p q : Nat} (h : q < L.length) : (qP L p).getD q ⟨0, 0, 0, 0, 0⟩ = (vW L[q]).getD p ⟨0, 0, 0, 0, 0⟩ := by simp [qP, h]
theorem zbF (L : List (List Int)) (p : Nat) : (qP L p).length = L.length := by simp [qP]
theorem zsl {l : List G5} {p : Nat} (h : p < l.length) : (l.map eFg)[p]? = some (eFg (l.getD p ⟨0, 0, 0, 0, 0⟩)) := by simp [h]
theorem zo5 (L : List (List Int)) (k : Nat) : ((kN k L).map fun p => [I p.1, I p.2]) ++ [[I (k : Int), I (kP L k : Int)]] = (kN (k + 1) L).map fun p => [I p.1, I p.2] := by
 simp [kN, List.range_succ]
theorem zbN (n : Nat) (L : List (List Int)) : (kN n L).length = n := by simp [kN]
theorem zow (ks : List G5) (k : Nat) (g : G5) (n : Nat) (h1 : g = ks.getD k ⟨0, 0, 0, 0, 0⟩) (h2 : n = (ks.take k).count g) : xO kL (yg g (.int .i64 ((n : Int) + 1)) (esK ks k)) = xO kL (esK ks (k + 1)) := by
 subst h1; subst h2; rfl
theorem f101 (p q : Int × Int) : ACall Tryz.prog G 101 [.agg (ye p), .agg (ye q)] (.v (.bool (decide (p.2 < q.2)))) := by
 refine zS Tryz.func101 rfl (by kernel_rfl) rfl ?_
 refine zl (zh (zg rfl rfl (jf rfl (zY rfl)) (zg rfl rfl (jf rfl (zY rfl)) (zg rfl rfl (zn rfl rfl) (zo (zf (zl (zh (zg rfl rfl (zu rfl rfl zbJ) (zg rfl rfl (zA rfl rfl rfl ty3) (zg rfl rfl (zu rfl rfl zbJ) ?_)))))))))))
 refine zg rfl rfl (zA rfl rfl rfl ty3) (zg rfl rfl (qi rfl rfl rfl) (zg rfl rfl (zn rfl rfl) (zo (zf (zP ?_)))))
 exact ⟨.inr rfl, AVle.refl _⟩
theorem f100 (D : List (Int × Int)) (h0 : 0 < D.length) (hD : D.length ≤ 1000) : ACall Tryz.prog G 100 [zs5 D, .fn 101 [] []] (.agg (ye (zbm D))) := by
 have hz := zjU D h0
 refine zS Tryz.func100 rfl (by kernel_rfl) rfl ?_
 refine zl (zh (jb rfl (wO rfl rfl ziY rfl rfl) (zo (zf (zl (zh (zg rfl rfl (zq rfl rfl) (zg rfl rfl (zG rfl rfl rfl zjX (by omega) (show (D.map ye)[0]? = some (ye (D.getD 0 (0, 0))) by simp [h0]) x9) (zg rfl rfl (zZ rfl rfl zac (by exact Nat.le_of_ble_eq_true rfl)) (jb rfl (wO rfl rfl ziY rfl rfl) (jb rfl (qG rfl rfl rfl rfl rfl rfl (zY rfl) zac (by rfl) (by exact Nat.le_of_ble_eq_true rfl)) ?_)))))))))))
 refine zo (zf (zl (zl (zh (zg rfl rfl (zq rfl rfl) (zg rfl rfl (zhO rfl rfl rfl rfl zjX x9 (by omega) (by simp; omega) (by simp)) (zg rfl rfl (qh rfl rfl rfl Tryz.underlying141) (zg rfl rfl (zi rfl rfl) (zo (zf (zB ?_)))))))))))
 refine qx (ι := { k : Nat // k + 1 ≤ D.length }) (fun k => ⟨Tryz.f100.ntmps, frL [(1, .pub (.fn 101 [] [])), (4, .pp 0 1 0 0), (5, .pp 1 1 0 0), (12, .pub (.sl ((D.drop 1).map ye))), (13, I ((D.length - 1 : Nat) : Int)), (14, I (k.1 : Int))], [.row [[I 0, I 0]], .row [[I (xI D k.1).1, I (xI D k.1).2]]]⟩) (fun k => D.length - k.1) (⟨0, by omega⟩) ?_ ?_
 ·
  exact zt _ ⟨rfl, rfl, rfl, (congrArg (fun z => EV.pub (AV.sl z)) hz), (congrArg (fun z : Nat => I (z : Int)) (by rw [Int.toNat_natCast, hz]; simp)), rfl, trivial⟩ (rfl)
 ·
  rintro ⟨k, hk⟩
  dsimp only
  refine zl (zh (zg rfl rfl (qi rfl rfl rfl) (zo (zf (zl (zx rfl (fun h_0 => ?_) (fun h_0 => ?_)))))))
  ·
   have hlt : k + 1 < D.length := by simp at h_0; omega
   refine zC (zf (zl (zB (zl (zh (zg rfl rfl (zG rfl rfl rfl zjX (by omega) (drop_at (by omega)) x9) (zg rfl rfl (zZ rfl rfl zac (by exact Nat.le_of_ble_eq_true rfl)) ?_)))))))
   refine vG  rfl rfl rfl rfl rfl rfl rfl ziY zac rfl (by rfl) (zY rfl) rfl ?_
   refine zo (zf (zl (zh (zg rfl rfl (zq rfl rfl) (zg rfl rfl (zZ rfl rfl zac (by exact Nat.le_of_ble_eq_true rfl)) (zg rfl rfl (qO (cs := [_, _]) rfl rfl rfl rfl rfl (by exact Nat.le_of_ble_eq_true rfl) rfl zac) (zg rfl rfl (zb3 (av := [_, _]) rfl rfl ⟨rfl, rfl, trivial⟩ (f101 (D.getD (k + 1) (0, 0)) (xI D k))) (zo (zf (zx rfl (fun h_1 => ?_) (fun h_1 => ?_)))))))))))
   ·
    have hb : xI D (k + 1) = D.getD (k + 1) (0, 0) := by rw [xI, if_pos (by simpa using h_1)]
    refine zh (zg rfl rfl (zZ rfl rfl zac (by exact Nat.le_of_ble_eq_true rfl)) (jb rfl (qG rfl rfl rfl rfl rfl rfl (zY rfl) zac (by rfl) (by exact Nat.le_of_ble_eq_true rfl)) (zo (zD (zf (zh (zg rfl rfl (zV rfl rfl rfl ⟨(by omega), (by omega)⟩) (zg rfl rfl (zi rfl rfl) (zo ?_)))))))))
    exact ⟨⟨k + 1, by omega⟩, by dsimp only; omega, zt _ ⟨rfl, rfl, rfl, rfl, rfl, rfl, trivial⟩ ((congrArg (fun z : Int × Int => [PO.row [[I 0, I 0]], PO.row [[I z.1, I z.2]]]) hb.symm))⟩
   ·
    have hb : xI D (k + 1) = xI D k := by rw [xI, if_neg (by simpa using h_1)]
    refine zC (zD (zf (zh (zg rfl rfl (zV rfl rfl rfl ⟨(by omega), (by omega)⟩) (zg rfl rfl (zi rfl rfl) (zo ?_))))))
    exact ⟨⟨k + 1, by omega⟩, by dsimp only; omega, zt _ ⟨rfl, rfl, rfl, rfl, rfl, rfl, trivial⟩ ((congrArg (fun z : Int × Int => [PO.row [[I 0, I 0]], PO.row [[I z.1, I z.2]]]) hb.symm))⟩
  ·
   have hge : D.length ≤ k + 1 := by simp at h_0; omega
   have hk2 : k = D.length - 1 := by omega
   refine qp (zL (zL (qw (zf (zl (zh (zg rfl rfl (qO (cs := [_, _]) rfl rfl rfl rfl rfl (by exact Nat.le_of_ble_eq_true rfl) rfl zac) (jb rfl (qG rfl rfl rfl rfl rfl rfl (zY rfl) zac (by rfl) (by exact Nat.le_of_ble_eq_true rfl)) (zo (zf (zP ?_)))))))))))
   exact ⟨.inr rfl, zie rfl (jJ rfl rfl rfl rfl zac rfl ⟨_, _, rfl, AVle.of (by rw [zbm, hk2]), ⟨_, _, rfl, AVle.of (by rw [zbm, hk2]), rfl⟩⟩)⟩
end Go.Av
end
