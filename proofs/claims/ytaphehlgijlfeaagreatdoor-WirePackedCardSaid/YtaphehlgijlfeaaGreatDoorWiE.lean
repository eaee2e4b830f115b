
import Derived.Test.YtaphehlgijlfeaaGreatDoorWiD
import Derived.Test.YtaphehlgijlfeaaGreatDoorPlatF
import Derived.Test.YtaphehlgijlfeaaGreatDoorPlatI
set_option linter.unusedVariables false
set_option linter.unusedSimpArgs false
section
namespace Go.Av
open Go.Proofs
set_option maxRecDepth 100000
set_option maxHeartbeats 1000000
variable {G : Glob}
theorem zgI {s : ByteArray} {k : Nat} (h : (s.get! k).toNat < 128) : Utf8.decode s k = ((s.get! k).toNat, 1) := by
 unfold Utf8.decode
 simp only [Nat.add_zero]
 rw [if_pos h]
theorem zqm {s : ByteArray} {k : Nat} (h : ¬ (s.get! k).toNat < 128) : 128 <= (Utf8.decode s k).1 := by
 unfold Utf8.decode
 simp only [Nat.add_zero]
 rw [if_neg h]
 split
 ·
  split
  ·
   assumption
  ·
   decide
 ·
  split
  ·
   split
   ·
    rename_i hh; simp only [Bool.and_eq_true, decide_eq_true_eq] at hh; omega
   ·
    decide
  ·
   split
   ·
    split
    ·
     rename_i hh; simp only [Bool.and_eq_true, decide_eq_true_eq] at hh; omega
    ·
     decide
   ·
    decide
theorem get_at {w : List UInt8} {k : Nat} (h : k < w.length) : (⟨w.toArray⟩ : ByteArray).get! k = w[k] := by
 show (w.toArray)[k]! = w[k]
 simp [h]
theorem zm1 {a : Nat} {b : List Tmp} {c : List (EV × Value)} {d : Bool} {p : Nat × Obj} {hs : List (Nat × Obj)} {fr : Nat -> EV} {mem : List PO} : Weak ⟨⟨a, b, c, d, p :: hs⟩, fr, mem⟩ ⟨⟨a, b, c, d, hs⟩, fr, mem⟩ := by
 intro w0 ok0 a w ⟨h0, h1, h2, ok, bs, h3, h4, h5, h6⟩
 exact ⟨h0, ⟨h1.1, fun p hp => h1.2 p (List.mem_cons_of_mem _ hp)⟩, h2, ok, bs, h3, h4, h5, h6⟩
theorem znA {h : Int -> Bool} (hb : ∀ r : Int, 128 <= r -> h r = false) {w : List UInt8} {k : Nat} (hk : k < w.length) : h ((Utf8.decode ⟨w.toArray⟩ k).1 : Int) = h (w[k].toNat : Int) := by
 by_cases hs : w[k].toNat < 128
 ·
  rw [zgI (by rw [get_at hk]; exact hs), get_at hk]
 ·
  have := zqm (s := ⟨w.toArray⟩) (k := k) (by rw [get_at hk]; exact hs)
  rw [hb _ (by omega), hb _ (by omega)]
theorem zln {w : List UInt8} {k : Nat} (hk : k < w.length) (h : w[k].toNat < 128) : Utf8.decode ⟨w.toArray⟩ k = (w[k].toNat, 1) := by
 rw [zgI (by rw [get_at hk]; exact h), get_at hk]
theorem zls {w : List UInt8} {k : Nat} (hk : k < w.length) (h : w[k].toNat < 128) : nxK ⟨w.toArray⟩ k = k + 1 := by
 unfold nxK; rw [if_pos (by simpa [ByteArray.size] using hk), zln hk h]
theorem zjg {h : Int -> Bool} (hb : ∀ r : Int, 128 <= r -> h r = false) {b : UInt8} (hh : h (b.toNat : Int) = true) : b.toNat < 128 := by
 by_cases hs : b.toNat < 128
 ·
  exact hs
 ·
  rw [hb _ (by omega)] at hh; cases hh
def ofB (h : Int -> Bool) (w : List UInt8) : Bool := (w.all fun b => h (b.toNat : Int)) && decide (w.length = 5)
def zl8 (r : Int) : Bool := decide (48 <= r) && decide (r <= 57)
def zwt (r : Int) : Bool := decide (97 <= r) && decide (r <= 122)
theorem zqJ : ∀ r : Int, 128 <= r -> zl8 r = false := fun r h => by simp [zl8]; omega
theorem zAM : ∀ r : Int, 128 <= r -> zwt r = false := fun r h => by simp [zwt]; omega
theorem zd3 {w : List UInt8} {p : UInt8 -> Bool} {k : Nat} (h : (w.take k).all p = true) (hk : k < w.length) (hp : p w[k] = true) : (w.take (k + 1)).all p = true := xQ h hk hp
theorem f124 (r : Int) : ACall Tryz.prog G 124 [.v (.int .i32 r)] (.v (.bool (zl8 r))) := by
 refine zS Tryz.func124 rfl (by kernel_rfl) rfl ?_
 refine zl (zh (zg rfl rfl (zn rfl rfl) (zo (zf (zl (zh (zg rfl rfl (zi rfl rfl) (zg rfl rfl (zbe rfl rfl rfl) (zg rfl rfl (zi rfl rfl) (zk rfl rfl rfl (fun hg => zi rfl rfl) (zk rfl rfl rfl (fun hg => zaq rfl (if_pos hg) rfl) ?_)))))))))))
 refine zg rfl rfl (qI rfl rfl rfl rfl) (zg rfl rfl (zn rfl rfl) (zo (zf (zP ?_))))
 exact ⟨.inr rfl, AVle.refl _⟩
theorem f105 (r : Int) : ACall Tryz.prog G 105 [.v (.int .i32 r)] (.v (.bool (zwt r))) := by
 refine zS Tryz.func105 rfl (by kernel_rfl) rfl ?_
 refine zl (zh (zg rfl rfl (zn rfl rfl) (zo (zf (zl (zh (zg rfl rfl (zi rfl rfl) (zg rfl rfl (zbe rfl rfl rfl) (zg rfl rfl (zi rfl rfl) (zk rfl rfl rfl (fun hg => zi rfl rfl) (zk rfl rfl rfl (fun hg => zaq rfl (if_pos hg) rfl) ?_)))))))))))
 refine zg rfl rfl (qI rfl rfl rfl rfl) (zg rfl rfl (zn rfl rfl) (zo (zf (zP ?_))))
 exact ⟨.inr rfl, AVle.refl _⟩
theorem f103 (w : List UInt8) (h : Int -> Bool) (f : FuncId) (fs cs : List AV) (hb : ∀ r : Int, 128 <= r -> h r = false) (hf : ∀ r : Int, ACall Tryz.prog G f (fs ++ [.v (.int .i32 r)] ++ cs) (.v (.bool (h r)))) : ACall Tryz.prog G 103 [eS w, .fn f fs cs] (.v (.bool (ofB h w))) := by
 have hF := Lib.hid hf
 clear hf
 refine zS Tryz.func103 rfl (by kernel_rfl) rfl ?_
 refine zl (zh (zg rfl rfl (zn rfl rfl) (zo (zf (zl (zl (zh (zg rfl rfl (zi rfl rfl) ?_))))))))
 refine zjE rfl rfl rfl rfl Tryz.underlying9 (fun itb => ?_)
 refine zo (zf (zB ?_))
 refine qy (ι := { k : Nat // k <= w.length /\ (w.take k).all (fun b => h (b.toNat : Int)) = true }) (fun k => ⟨⟨Tryz.f103.ntmps, [], [], false, [(itb, .stringIter ⟨w.toArray⟩ k.1)]⟩, frL [(0, SL w), (1, .pub (.fn f fs cs)), (8, itP itb)], []⟩) (fun k => w.length - k.1) (⟨0, by simp⟩) ?_ ?_
 ·
  exact zt _ ⟨rfl, rfl, rfl, trivial⟩ (rfl)
 ·
  rintro ⟨k, hk⟩
  dsimp only
  refine zl (zh ?_)
  refine zlD rfl rfl rfl rfl rfl rfl ?_
  refine zg rfl rfl (zN rfl rfl (zsE _ _)) (zo (zf (zl (zx rfl (fun h0 => ?_) (fun h0 => ?_)))))
  ·
   have hlt0 : k < (⟨w.toArray⟩ : ByteArray).size := by simpa using h0
   have hlt : k < w.length := by simpa [ByteArray.size] using hlt0
   have hdk := znA hb hlt
   refine zC (zf (zB (zl (zh (zg rfl rfl (zN rfl rfl (zsM hlt0)) (zg rfl rfl (zn rfl rfl) (zo (zf (zl (zh (zg rfl rfl (zq rfl rfl) ?_)))))))))))
   refine zg rfl rfl (zi rfl rfl) (zg rfl rfl (zbX (av := [_]) rfl rfl ⟨rfl, trivial⟩ (hF.out _)) (zg rfl rfl (je rfl rfl) (zo (zf (zx rfl (fun h1 => ?_) (fun h1 => ?_))))))
   ·
    have hno : h (w[k].toNat : Int) = false := by rw [← hdk]; simpa using h1
    refine zl (zh (zg rfl rfl (zn rfl rfl) (zo (zf (zP (qF (zQ (qF (zQ ?_)))))))))
    exact ⟨.inr rfl, AVle.of (by rw [ofB, zaW (p := fun b : UInt8 => h (b.toNat : Int)) hlt hno]; rfl)⟩
   ·
    have hyes : h (w[k].toNat : Int) = true := by rw [← hdk]; simpa using h1
    have hlow := zjg hb hyes
    have hnx := zls hlt hlow
    refine zC (zD ?_)
    exact ⟨⟨k + 1, by omega, zd3 hk.2 hlt hyes⟩, by dsimp only; omega, zeI (congrArg (fun z => (⟨Tryz.f103.ntmps, [], [], false, [(itb, Obj.stringIter ⟨w.toArray⟩ z)]⟩ : NS)) hnx) _ ⟨rfl, rfl, rfl, trivial⟩ rfl⟩
  ·
   have hge : w.length <= k := by simpa [ByteArray.size] using h0
   refine qp (zL (zL (qw (zf (zl (zh (zg rfl rfl (zi rfl rfl) (zg rfl rfl (wE rfl rfl Tryz.underlying9) (zg rfl rfl (qJ rfl rfl rfl) (zg rfl rfl (zn rfl rfl) (zo ?_)))))))))))
   refine zf (zP ?_)
   exact ⟨.inr rfl, AVle.of (by rw [List.take_of_length_le hge] at hk; rw [ofB, hk.2, Bool.true_and]; exact congrArg (fun x : Bool => AV.v (Value.bool x)) (by rw [Bool.eq_iff_iff]; simp; omega))⟩
end Go.Av
end
section
namespace Go.Av
open Go.Proofs
set_option maxRecDepth 100000
set_option maxHeartbeats 1000000
variable {G : Glob}
def hl1 (w : List UInt8) : Int := w.foldl (fun s b => s + if b.toNat = 63 then 1 else 0) 0
end Go.Av
end
section
namespace Go.Av
open Go.Proofs
set_option maxRecDepth 100000
set_option maxHeartbeats 1000000
variable {G : Glob}
theorem zqo {h : Int -> Bool} {w : List UInt8} {k : Nat} (hk : k < w.length) (hc : h (w[k].toNat : Int) = false) : ofB h w = false := by
 rw [ofB, zaW (p := fun b : UInt8 => h (b.toNat : Int)) hk hc]; rfl
end Go.Av
end
