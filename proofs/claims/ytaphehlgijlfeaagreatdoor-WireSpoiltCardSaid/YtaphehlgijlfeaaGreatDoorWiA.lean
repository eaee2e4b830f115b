
import Derived.Test.YtaphehlgijlfeaaGreatDoorPlatF
import Derived.Test.YtaphehlgijlfeaaGreatDoorPlatE
import Derived.Lib.Hide
import Derived.Test.YtaphehlgijlfeaaGreatDoorChecked
set_option linter.unusedVariables false
set_option linter.unusedSimpArgs false
section
namespace Go.Av
structure Cod where
 fields : List (Int × Int)
 turns : List Int
 most : Int
structure Ent where
 word : List UInt8
 first : Int
 second : Int
structure Lin where
 src : Int
 dst : Int
 price : Int
 wrong : Int
structure Nt where
 offices : Int
 lines : List Lin
structure Trf where
 opn : Int
 free : Int
 more : Int
def ei (n : Int) : AV := .v (.int .i64 n)
def ye (p : Int × Int) : List AV := [.v (.int .i64 p.1), .v (.int .i64 p.2)]
def zO (l : List Int) : AV := .sl (l.map fun n => [.v (.int .i64 n)])
def jc (l : List (List Int)) : AV := .sl (l.map fun m => [zO m])
def jD (l : List (List UInt8)) : AV := .sl (l.map fun s => [eS s])
def qO (l : List (List (List UInt8))) : AV := .sl (l.map fun g => [jD g])
def qK (c : Cod) : List AV := [.sl (c.fields.map ye), zO c.turns, .v (.int .i64 c.most)]
def zs8 (e : Ent) : List AV := [eS e.word, .v (.int .i64 e.first), .v (.int .i64 e.second)]
def eBk (l : List Ent) : AV := .sl (l.map zs8)
def zs3 (x : Lin) : List AV := [.v (.int .i64 x.src), .v (.int .i64 x.dst), .v (.int .i64 x.price), .v (.int .i64 x.wrong)]
def eNt (n : Nt) : List AV := [.v (.int .i64 n.offices), .sl (n.lines.map zs3)]
def ztk (t : Trf) : List AV := [.v (.int .i64 t.opn), .v (.int .i64 t.free), .v (.int .i64 t.more)]
end Go.Av
end
section
namespace Go.Av
open Go.Proofs
set_option maxRecDepth 100000
set_option maxHeartbeats 1000000
variable {G : Glob}
theorem mixed : Tryz.prog.follows .mixedOrders = true := by kernel_rfl
theorem ty3 : tyIs Tryz.prog 3 false 1 = true := by kernel_rfl
def inB (x lo hi : Int) : Bool := decide (lo <= x) && decide (x <= hi)
def ixF {α : Type} (h : α -> Bool) (l : List α) : Int := match l.findIdx? h with
 | some k => (k : Int)
 | none => -1
theorem zkQ {α : Type} {h : α -> Bool} {l : List α} {k : Nat} (hk : k < l.length) (h0 : (l.take k).any h = false) (h1 : h l[k] = true) : ixF h l = (k : Int) := by
 have : l.findIdx? h = some k := by
  rw [List.findIdx?_eq_some_iff_getElem]
  refine ⟨hk, h1, fun j hj => ?_⟩
  rw [List.any_eq_false] at h0
  have := h0 l[j] (by rw [List.mem_take_iff_getElem]; exact ⟨j, by omega, rfl⟩)
  simpa using this
 simp [ixF, this]
theorem zhC {α : Type} {h : α -> Bool} {l : List α} (h0 : l.any h = false) : ixF h l = -1 := by
 have : l.findIdx? h = none := by
  rw [List.findIdx?_eq_none_iff]
  intro x hx
  rw [List.any_eq_false] at h0
  simpa using h0 x hx
 simp [ixF, this]
theorem zhj {α : Type} (h : α -> Bool) (l : List α) : decide (0 <= ixF h l) = l.any h := by
 cases ha : l.any h with
 | false => rw [zhC ha]; rfl
 | true =>
  cases hf : l.findIdx? h with
  | some k => simp only [ixF, hf]; simp
  | none =>
   rw [List.findIdx?_eq_none_iff] at hf
   rw [List.any_eq_true] at ha
   obtain ⟨x, hx, hh⟩ := ha
   rw [hf x hx] at hh; cases hh
theorem zaE {α : Type} {l : List α} {h : α -> Bool} {k : Nat} (h0 : (l.take k).any h = false) (hk : k < l.length) (h1 : h l[k] = false) : (l.take (k + 1)).any h = false := by
 rw [List.take_succ_eq_append_getElem hk, List.any_append, h0]; simp [h1]
theorem xQ {α : Type} {p : α -> Bool} {l : List α} {k : Nat} (h : (l.take k).all p = true) (hk : k < l.length) (hp : p l[k] = true) : (l.take (k + 1)).all p = true := by
 rw [List.take_succ_eq_append_getElem hk, List.all_append, h]; simp [hp]
theorem zaW {α : Type} {p : α -> Bool} {l : List α} {k : Nat} (hk : k < l.length) (hp : p l[k] = false) : l.all p = false := by
 rw [List.all_eq_false]; exact ⟨l[k], List.getElem_mem hk, by simp [hp]⟩
def eqF {α β : Type} (h : α -> β -> Bool) (l : List α) (s : List β) : Bool := decide (l.length = s.length) && (l.zip s).all fun p => h p.1 p.2
def wS (c : Cod) (m : List Int) : Bool := eqF (fun n p => inB n p.1 p.2) m c.fields
theorem f107 (x lo hi : Int) : ACall Tryz.prog G 107 [.v (.int .i64 x), .v (.int .i64 lo), .v (.int .i64 hi)] (.v (.bool (inB x lo hi))) := by
 refine zS Tryz.func107 rfl (by kernel_rfl) rfl ?_
 refine zl (zh (zg rfl rfl (zn rfl rfl) (zo (zf (zl (zh (zg rfl rfl (zi rfl rfl) (zg rfl rfl (zi rfl rfl) (zg rfl rfl (zbe rfl rfl rfl) (zg rfl rfl (zi rfl rfl) (zk rfl rfl rfl (fun hg => zi rfl rfl) ?_)))))))))))
 refine zk rfl rfl rfl (fun hg => zi rfl rfl) (zk rfl rfl rfl (fun hg => zaq rfl (if_pos hg) (if_pos hg)) (zg rfl rfl (qI rfl rfl rfl rfl) (zg rfl rfl (zn rfl rfl) (zo (zf (zP ?_))))))
 exact ⟨.inr rfl, AVle.refl _⟩
theorem f93 (x lo hi : Int) : ACall Tryz.prog G 93 [.v (.int .i64 x), .v (.int .i64 lo), .v (.int .i64 hi)] (.v (.bool (inB x lo hi))) := by
 refine zS Tryz.func93 rfl (by kernel_rfl) rfl ?_
 refine zl (zh (zg rfl rfl (zn rfl rfl) (zo (zf (zl (zh (zg rfl rfl (zi rfl rfl) (zg rfl rfl (zi rfl rfl) (zg rfl rfl (zbe rfl rfl rfl) (zg rfl rfl (zi rfl rfl) (zk rfl rfl rfl (fun hg => zi rfl rfl) ?_)))))))))))
 refine zk rfl rfl rfl (fun hg => zi rfl rfl) (zk rfl rfl rfl (fun hg => zaq rfl (if_pos hg) (if_pos hg)) (zg rfl rfl (qI rfl rfl rfl rfl) (zg rfl rfl (zn rfl rfl) (zo (zf (zP ?_))))))
 exact ⟨.inr rfl, AVle.refl _⟩
end Go.Av
end
