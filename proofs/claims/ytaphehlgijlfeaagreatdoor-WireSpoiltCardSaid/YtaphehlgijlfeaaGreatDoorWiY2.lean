
import Derived.Test.YtaphehlgijlfeaaGreatDoorWiY1
import Derived.Test.YtaphehlgijlfeaaGreatDoorPlatR
import Derived.Test.YtaphehlgijlfeaaGreatDoorWiQ2
import Derived.Test.YtaphehlgijlfeaaGreatDoorPlatH
import Derived.Test.YtaphehlgijlfeaaGreatDoorWiM
import Derived.Test.YtaphehlgijlfeaaGreatDoorPlatQ
import Derived.Test.YtaphehlgijlfeaaGreatDoorWiN
import Derived.Test.YtaphehlgijlfeaaGreatDoorWiF
import Derived.Test.YtaphehlgijlfeaaGreatDoorWiH
import Derived.Test.YtaphehlgijlfeaaGreatDoorWiJ
import Derived.Test.YtaphehlgijlfeaaGreatDoorWiD
import Derived.Test.YtaphehlgijlfeaaGreatDoorPlatE
set_option linter.unusedVariables false
set_option linter.unusedSimpArgs false
section
namespace Go.Av
open Go.Proofs
set_option maxRecDepth 100000
set_option maxHeartbeats 1000000
variable {G : Glob}
theorem zD8 : ∀ r : Int, 128 <= r -> tkR r = false := fun r h => by simp [tkR, zqJ r h, zDR r h, zpA r h]
theorem zAD {l : List (List UInt8)} {k : Nat} (h : k < l.length) : (l.map fun s => [eS s])[k]? = some [eS l[k]] := by simp [h]
theorem f174 (r : Int) : ACall Tryz.prog G 174 [.v (.int .i32 r)] (.v (.bool (tkR r))) := by
 refine zS Tryz.func174 rfl (by kernel_rfl) rfl ?_
 refine zl (zh (zg rfl rfl (zn rfl rfl) (zo (zf (zl (zh (zg rfl rfl (zi rfl rfl) (zg rfl rfl (zy (av := [_]) rfl ⟨rfl, trivial⟩ (f124 _)) (zg rfl rfl (zi rfl rfl) (zk rfl rfl rfl (fun hg => zi rfl rfl) (zk rfl rfl rfl (fun hg => zy (av := [_]) rfl ⟨((if_pos hg)), trivial⟩ (f105 _)) ?_)))))))))))
 refine zg rfl rfl (qU rfl rfl rfl rfl) (zg rfl rfl (zi rfl rfl) (zk rfl rfl rfl (fun hg => zi rfl rfl) (zk rfl rfl rfl (fun hg => zy (av := [_]) rfl ⟨((if_pos hg)), trivial⟩ (f106 _)) (zg rfl rfl (qU rfl rfl rfl rfl) (zg rfl rfl (zn rfl rfl) (zo (zf (zP ?_))))))))
 exact ⟨.inr rfl, AVle.refl _⟩
theorem f159 (w : List UInt8) : ACall Tryz.prog G 159 [eS w] (.v (.bool (ofB tkR w))) := by
 refine zS Tryz.func159 rfl (by kernel_rfl) rfl ?_
 refine zl (zh (zg rfl rfl (zn rfl rfl) (zo (zf (zl (zh (zg rfl rfl (zi rfl rfl) (zg rfl rfl (zy (av := [_, _]) rfl ⟨rfl, rfl, trivial⟩ (f103 w tkR 174 [] [] zD8 (fun r => f174 r))) (zg rfl rfl (zn rfl rfl) (zo (zf ?_)))))))))))
 refine zP ?_
 exact ⟨.inr rfl, AVle.refl _⟩
theorem f158 (w : List UInt8) : ACall Tryz.prog G 158 [eS w] (.v (.bool (!ofB tkR w))) := by
 refine zS Tryz.func158 rfl (by kernel_rfl) rfl ?_
 refine zl (zh (zg rfl rfl (zn rfl rfl) (zo (zf (zl (zh (zg rfl rfl (zi rfl rfl) (zg rfl rfl (zy (av := [_]) rfl ⟨rfl, trivial⟩ (f159 w)) (zg rfl rfl (je rfl rfl) (zg rfl rfl (zn rfl rfl) (zo ?_)))))))))))
 refine zf (zP ?_)
 exact ⟨.inr rfl, AVle.refl _⟩
theorem f173 (l : List (List UInt8)) (h : (List UInt8) -> Bool) (f : FuncId) (fs cs : List AV) (hl : l.length <= 1000) (hf : ∀ n ∈ l, ACall Tryz.prog G f (fs ++ [eS n] ++ cs) (.v (.bool (h n)))) : ACall Tryz.prog G 173 [.sl (l.map fun s => [eS s]), .fn f fs cs] (.v (.int .i64 (ixF h l))) := by
 have hF := Lib.hid hf
 clear hf
 refine zS Tryz.func173 rfl (by kernel_rfl) rfl ?_
 refine zl (zh (zg rfl rfl (zn rfl rfl) (zo (zf (zl (zl (zh (zg rfl rfl (zq rfl rfl) (zg rfl rfl (qh rfl rfl rfl Tryz.underlying34) (zg rfl rfl (zi rfl rfl) (zo ?_)))))))))))
 refine zf (zB ?_)
 refine qy (ι := { k : Nat // k <= l.length /\ (l.take k).any h = false }) (fun k => ⟨Tryz.f173.ntmps, frL [(0, .pub (.sl (l.map fun s => [eS s]))), (1, .pub (.fn f fs cs)), (7, I (l.length : Int)), (8, I (k.1 : Int))], []⟩) (fun k => l.length - k.1) (⟨0, by simp⟩) ?_ ?_
 ·
  exact zt _ ⟨rfl, rfl, (congrArg (fun x : Nat => I (x : Int)) (List.length_map _)), rfl, trivial⟩ (rfl)
 ·
  rintro ⟨k, hk⟩
  dsimp only
  refine zl (zh (zg rfl rfl (qi rfl rfl rfl) (zo (zf (zl (zx rfl (fun h0 => ?_) (fun h0 => ?_)))))))
  ·
   have hlt : k < l.length := by simpa using h0
   refine zC (zf (zl (zB (zl (zh (zg rfl rfl (zi rfl rfl) (zg rfl rfl (zn rfl rfl) (zo (zf (zl (zh ?_)))))))))))
   refine zg rfl rfl (zq rfl rfl) (zg rfl rfl (zq rfl rfl) (zg rfl rfl (zi rfl rfl) (zg rfl rfl (zG rfl rfl rfl yJ (by omega) (zAD hlt) vZ) (zg rfl rfl (zA rfl rfl rfl ty9) (zg rfl rfl (zbX (av := [_]) rfl rfl ⟨rfl, trivial⟩ (hF.out _ (List.getElem_mem hlt))) (zo (zf (zx rfl (fun h1 => ?_) (fun h1 => ?_)))))))))
   ·
    refine zl (zh (zg rfl rfl (zi rfl rfl) (zg rfl rfl (zn rfl rfl) (zo (zf (zP (qF (zQ (zQ (qF (zQ ?_)))))))))))
    exact ⟨.inr rfl, AVle.of (by rw [zkQ hlt hk.2 h1])⟩
   ·
    refine zC (zD (zf (zh (zg rfl rfl (zV rfl rfl rfl ⟨(by omega), (by omega)⟩) (zg rfl rfl (zi rfl rfl) (zo ?_))))))
    exact ⟨⟨k + 1, by omega, zaE hk.2 hlt h1⟩, by dsimp only; omega, zt _ ⟨rfl, rfl, rfl, rfl, trivial⟩ (rfl)⟩
  ·
   have hge : l.length <= k := by simpa using h0
   refine qp (zL (zL (qw (zf (zl (zh (zg rfl rfl (zn rfl rfl) (zo (zf (zP ?_))))))))))
   exact ⟨.inr rfl, AVle.of (by rw [List.take_of_length_le hge] at hk; rw [zhC hk.2])⟩
theorem f157 (l : List (List UInt8)) (h : (List UInt8) -> Bool) (f : FuncId) (fs cs : List AV) (hl : l.length <= 1000) (hf : ∀ n ∈ l, ACall Tryz.prog G f (fs ++ [eS n] ++ cs) (.v (.bool (h n)))) : ACall Tryz.prog G 157 [.sl (l.map fun s => [eS s]), .fn f fs cs] (.v (.bool (l.any h))) := by
 refine zS Tryz.func157 rfl (by kernel_rfl) rfl ?_
 refine zl (zh (zg rfl rfl (zn rfl rfl) (zo (zf (zl (zh (zg rfl rfl (zq rfl rfl) (zg rfl rfl (zq rfl rfl) (zg rfl rfl (zy (av := [_, _]) rfl ⟨rfl, rfl, trivial⟩ (f173 l h f fs cs hl hf)) (zg rfl rfl (zbe rfl rfl rfl) (zg rfl rfl (zn rfl rfl) ?_)))))))))))
 refine zo (zf (zP ?_))
 exact ⟨.inr rfl, AVle.of (by rw [← zhj h l])⟩
theorem zBb (a b : Prop) [Decidable a] [Decidable b] : decide (a /\ b) = (decide a && decide b) := by by_cases h1 : a <;> by_cases h2 : b <;> simp [h1, h2]
def zAI (n : Int) (ts : List (List UInt8)) : Int := if 8 < ts.length then 3 else if zAq n ts then 0 else 2
theorem zCP (n : Int) (ts : List (List UInt8)) : (!inB n 0 9999 || ts.any fun w => !ofB tkR w) = !zAq n ts := by
 have e : (ts.any fun w => !ofB tkR w) = !(ts.all (ofB tkR)) := by rw [List.not_all_eq_any_not]
 unfold zAq inB
 rw [e, zBb]
 cases decide (0 <= n) <;> cases decide (n <= 9999) <;> cases ts.all (ofB tkR) <;> rfl
theorem f126 (n : Int) (ts : List (List UInt8)) (hl : ts.length <= 1000) : ACall Tryz.prog G 126 [ei n, jD ts] (ei (zAI n ts)) := by
 refine zS Tryz.func126 rfl (by kernel_rfl) rfl ?_
 refine zl (zh (zg rfl rfl (zn rfl rfl) (zo (zf (zl (zl (zh (zg rfl rfl (zq rfl rfl) (zg rfl rfl (qh rfl rfl rfl Tryz.underlying34) (zg rfl rfl (qR rfl rfl rfl) (zo ?_)))))))))))
 refine zf (zx rfl (fun h0 => ?_) (fun h0 => ?_))
 ·
  have h8 : 8 < ts.length := by simp [jD] at h0; omega
  refine zl (zh (zg rfl rfl (zn rfl rfl) (zo (zf (zP (zQ ?_))))))
  exact ⟨.inr rfl, AVle.of (by rw [zAI, if_pos h8]; rfl)⟩
 ·
  have h8 : ¬ 8 < ts.length := by simp [jD] at h0; omega
  refine zC (zf (zl (zl (zh (zg rfl rfl (zi rfl rfl) (zg rfl rfl (zy (av := [_, _, _]) rfl ⟨rfl, rfl, rfl, trivial⟩ (f107 _ _ _)) (zg rfl rfl (je rfl rfl) (zg rfl rfl (zi rfl rfl) (zk rfl rfl rfl (fun hg => zq rfl rfl) (zk rfl rfl rfl (fun hg => zy (av := [_, _]) rfl ⟨((if_pos hg)), rfl, trivial⟩ (f157 ts (fun w => !ofB tkR w) 158 [] [] hl (fun w _ => f158 w))) (zg rfl rfl (qU rfl rfl rfl rfl) ?_)))))))))))
  refine zo (zf (zx rfl (fun h1 => ?_) (fun h1 => ?_)))
  ·
   have hb : zAq n ts = false := by rw [zCP] at h1; simpa using h1
   refine zl (zh (zg rfl rfl (zn rfl rfl) (zo (zf (zP (zQ ?_))))))
   exact ⟨.inr rfl, AVle.of (by rw [zAI, if_neg h8, hb]; rfl)⟩
  ·
   have hb : zAq n ts = true := by rw [zCP] at h1; simpa using h1
   refine zC (zf (zl (zh (zg rfl rfl (zn rfl rfl) (zo (zf (zP ?_)))))))
   exact ⟨.inr rfl, AVle.of (by rw [zAI, if_neg h8, hb]; rfl)⟩
theorem f160 (ws : List (List UInt8)) (hn : ws.length <= 1000000) (hl : (Lib.join ws [32]).length <= 1000000000) : ACall Tryz.prog GT 160 [jD ws] (eS (zAA ws)) := by
 refine zS Tryz.func160 rfl (by kernel_rfl) rfl ?_
 refine zl (zh (zg rfl rfl (zn rfl rfl) (zo (zf (zl (zh (zg rfl rfl (zq rfl rfl) (zg rfl rfl (zy (av := [_, _]) rfl ⟨rfl, rfl, trivial⟩ (f175 ws [32] (by omega) (by omega))) ?_))))))))
 refine zg rfl rfl (zcI rfl rfl rfl (by simp; omega)) ?_
 refine zg rfl rfl (zn rfl rfl) (zo (zf (zP ?_)))
 exact ⟨.inr rfl, AVle.refl _⟩
def zAs (ts : List (List UInt8)) (k : Nat) : List (List UInt8) := (ts.drop (5 * k)).take 5
def nCh (ts : List (List UInt8)) : Nat := (ts.length + 4) / 5
def zA6 (ts : List (List UInt8)) : List (List AV) := (List.range (nCh ts)).map fun k => [jD (zAs ts k)]
theorem zCr {ts : List (List UInt8)} : (zA6 ts).length = nCh ts := by simp [zA6]
theorem zCX {ts : List (List UInt8)} {k : Nat} (h : k < nCh ts) : (zA6 ts)[k]? = some [jD (zAs ts k)] := by simp [zA6, h]
theorem zDw {ts : List (List UInt8)} {k : Nat} (h : 5 * k < ts.length) : AV.sl (((ts.map fun s => [eS s]).take (((5 * k : Nat) : Int) + min 5 ((ts.length : Int) - ((5 * k : Nat) : Int))).toNat).drop ((5 * k : Nat) : Int).toNat) = jD (zAs ts k) := by
 unfold jD zAs
 congr 1
 rw [← List.map_take, ← List.map_drop]
 congr 1
 have e1 : (((5 * k : Nat) : Int) + min 5 ((ts.length : Int) - ((5 * k : Nat) : Int))).toNat = 5 * k + min 5 (ts.length - 5 * k) := by omega
 have e2 : ((5 * k : Nat) : Int).toNat = 5 * k := by omega
 rw [e1, e2, List.take_drop]
 by_cases hc : 5 <= ts.length - 5 * k
 ·
  rw [Nat.min_eq_left hc]
 ·
  rw [Nat.min_eq_right (by omega), List.take_of_length_le (by omega), List.take_of_length_le (by omega)]
theorem zAW {P : Program} {fr : Nat -> EV} {mem : List PO} {o : Oper} {x y : AV} (h : x = y) (ho : OpY P G fr mem o (.pub x)) : OpY P G fr mem o (.pub y) := h ▸ ho
theorem zEw (ts : List (List UInt8)) (hl : ts.length <= 1000) : zlr Tryz.prog G 177 [] [.ptr [jD ts], .ptr [ei 5]] (zA6 ts) := by
 refine zp5 (qs := (zA6 ts)) Tryz.func177 rfl (by kernel_rfl) rfl rfl (fun C hC => ?_)
 refine zcv ?_
 refine zgy ?_
 refine zh (zg rfl rfl (zn rfl rfl) (zo ?_))
 refine vT ?_
 refine ziI ?_
 refine zp1 (ι := { k : Nat // k <= nCh ts }) (fun k => ⟨Tryz.f177.ntmps, frL [(0, .pub (.v (.func (.yield C.l) #[] #[]))), (1, .pub (.ptr [jD ts])), (2, .pub (.ptr [ei 5])), (4, I ((5 * k.1 : Nat) : Int))], []⟩) (fun k => .on k.1) (fun k => nCh ts - k.1) (⟨0, by omega⟩) rfl ?_ ?_
 ·
  exact zt _ ⟨rfl, rfl, rfl, rfl, trivial⟩ (rfl)
 ·
  rintro ⟨k, hk⟩
  dsimp only
  refine zcv ?_
  refine zcv ?_
  refine zgy ?_
  refine zh (zg rfl rfl (zi rfl rfl) (zg rfl rfl (zA rfl rfl rfl zfC) (zg rfl rfl (qh rfl rfl rfl Tryz.underlying34) (zg rfl rfl (qi rfl rfl rfl) (zo ?_)))))
  refine vT ?_
  refine zes rfl (fun h0 => ?_) (fun h0 => ?_)
  ·
   have hlt : 5 * k < ts.length := by have h9 := h0; simp [jD] at h9; omega
   have hkn : k < nCh ts := by unfold nCh; omega
   refine zhp ?_
   refine vT ?_
   refine zcv ?_
   refine ziI ?_
   refine zcv ?_
   refine zgy ?_
   refine qY mixed (by kernel_rfl) rfl ?_
   refine zH rfl (zA rfl rfl rfl ty3) (zH rfl (zA rfl rfl rfl zfC) (zH rfl (zi rfl rfl) ?_))
   refine zH rfl (zhU rfl rfl rfl rfl yJ vZ (by omega) (by simp; omega) (by simp)) ?_
   refine zH rfl (qh rfl rfl rfl Tryz.underlying34) (zH rfl (zEs rfl rfl rfl) (zH rfl (zn rfl rfl) (jw ?_)))
   refine vT ?_
   refine zcv ?_
   refine zla (zt (mem' := []) [(0, .pub (.v (.func (.yield C.l) #[] #[]))), (1, .pub (.ptr [jD ts])), (2, .pub (.ptr [ei 5])), (4, I ((5 * k : Nat) : Int)), (5, I (min 5 ((ts.length : Int) - ((5 * k : Nat) : Int))))] ⟨rfl, rfl, rfl, rfl, (congrArg I (by simp; omega)), trivial⟩ rfl) ?_
   refine zgf ?_
   refine zjW rfl rfl (zi rfl rfl) ?_
   refine zjW rfl rfl (zA rfl rfl rfl zfC) ?_
   refine zjW rfl rfl (zi rfl rfl) ?_
   refine zjW rfl rfl (zi rfl rfl) ?_
   refine zjW rfl rfl (zi rfl rfl) ?_
   refine zjW rfl rfl (zV rfl rfl rfl ⟨(by omega), (by omega)⟩) ?_
   refine zjW rfl rfl (zi rfl rfl) ?_
   refine zjW rfl rfl (zi rfl rfl) ?_
   refine zjW rfl rfl (zV rfl rfl rfl ⟨(by omega), (by omega)⟩) ?_
   refine zjW rfl rfl (zAW (zDw hlt) (zDy rfl rfl rfl rfl rfl yJ vZ (by omega) (by omega) (by simp; omega))) ?_
   refine zi6 (q := [jD (zAs ts k)]) (c := true) rfl rfl rfl rfl (fun _ => rfl) (fun _ => rfl) (fun _ => by rw [hC]; exact zCX hkn) rfl rfl rfl rfl rfl (fun h => absurd h (by decide)) (fun _ => ?_) (fun _ => ?_)
   ·
    refine zjW rfl rfl (je rfl rfl) ?_
    refine zkH ?_
    refine vT ?_
    refine zes (b := false) rfl (fun h => absurd h (by decide)) (fun _ => ?_)
    refine zhp ?_
    refine zgg ?_
    refine vT ?_
    refine zgy ?_
    refine zh (zg rfl rfl (zi rfl rfl) (zg rfl rfl (zA rfl rfl rfl ty3) (zg rfl rfl (zV rfl rfl rfl ⟨(by omega), (by omega)⟩) (zg rfl rfl (zn rfl rfl) (zo ?_)))))
    exact ⟨⟨k + 1, by omega⟩, by dsimp only; omega, rfl, zt _ ⟨rfl, rfl, rfl, (congrArg I (by show ((5 * k : Nat) : Int) + 5 = ((5 * (k + 1) : Nat) : Int); omega)), trivial⟩ rfl⟩
   ·
    refine zjW rfl rfl (je rfl rfl) ?_
    refine zkH ?_
    refine vT ?_
    refine zes (b := true) rfl (fun _ => ?_) (fun h => absurd h (by decide))
    refine zrT ?_
    refine zo1 ?_
    refine zoe ?_
    refine zoe ?_
    refine zo1 ?_
    exact ⟨.inr rfl, rfl, .inr ⟨_, rfl⟩⟩
  ·
   have hge : ts.length <= 5 * k := by have h9 := h0; simp [jD] at h9; omega
   have hkn : k = nCh ts := by unfold nCh at hk ⊢; omega
   refine zpr ?_
   refine zlv ?_
   refine zlv ?_
   refine zqj ?_
   exact ⟨.inl rfl, rfl, .inl (by rw [zCr, hkn])⟩
theorem f162 (ts : List (List UInt8)) : ACall Tryz.prog G 162 [jD ts, ei 5] (.fn 177 [] [.ptr [jD ts], .ptr [ei 5]]) := by
 refine zS Tryz.func162 rfl (by kernel_rfl) rfl ?_
 refine zl (zh (zg rfl rfl (jf (cs := [_]) rfl (kQ rfl)) (zg rfl rfl (jf (cs := [_]) rfl (jF rfl)) (zg rfl rfl (zn rfl rfl) (zo (zf (zl (zl (zh (zg rfl rfl (zA rfl rfl rfl ty3) (zg rfl rfl (qi rfl rfl rfl) ?_)))))))))))
 refine zo (zf (zx rfl (fun h0 => ?_) (fun h0 => ?_)))
 ·
  exfalso; simp at h0
 ·
  refine zC (zf (zl (zh (zg rfl rfl (zcA (fs := []) (cs := [_, _]) rfl rfl rfl) (zg rfl rfl (zW rfl rfl) (zo (zf (zP ?_))))))))
  exact ⟨.inr rfl, AVle.refl _⟩
end Go.Av
end
