import Derived.Test.YtdjncbjfejdamaaGreatDoorChM
set_option linter.unusedVariables false
set_option linter.unusedSimpArgs false
section
namespace Go.Av
open Go.Proofs
set_option maxRecDepth 100000
set_option maxHeartbeats 1000000
variable {G:Glob}
end Go.Av
end
section
namespace Go.Av
open Go.Proofs
set_option maxRecDepth 100000
set_option maxHeartbeats 1000000
variable {G:Glob}
def zR1 (w p:Int) (c:Bool) (q:Nat):Bool:=(dist w p (q:Int) == 1) || (((c && (dist w p (q:Int) == 2)) && (p / w != (q:Int) / w)) && (p % w != (q:Int) % w))
def nbs (w r p:Int) (c:Bool):List Nat:=(List.range (w * r).toNat).filter (zR1 w p c)
def nbQ (w r p:Int) (c:Bool):List (List AV):=(nbs w r p c).map fun (q:Nat)=>[ei (q:Int)]
def zfo (f:Nat -> Bool) (k:Nat):Nat:=((List.range k).filter f).length
theorem zgP (f:Nat -> Bool) (k:Nat):zfo f (k + 1) = if f k then zfo f k + 1 else zfo f k:=by
 unfold zfo
 rw [List.range_succ, List.filter_append]
 cases h:f k <;> simp [h]
theorem zmZ {f:Nat -> Bool}:∀ {n k:Nat}, k < n -> f k = true -> ((List.range n).filter f)[zfo f k]? = some k:=by
 intro n
 induction n with
 | zero=>intro k h; omega
 | succ n ih=>
  intro k hk hf
  rw [List.range_succ, List.filter_append]
  by_cases h:k < n
  ·
   rw [List.getElem?_append_left]
   ·
    exact ih h hf
   ·
    have:=ih h hf
    exact (zLg this).1
  ·
   have:k = n:=by omega
   subst this
   rw [List.getElem?_append_right (by unfold zfo; omega)]
   simp [zfo, hf]
theorem zQd {w r p:Int} {c:Bool} {k:Nat} (hk:k < (w * r).toNat) (hb:zR1 w p c k = true):(nbQ w r p c)[zfo (zR1 w p c) k]? = some [ei (k:Int)]:=by
 unfold nbQ nbs
 rw [List.getElem?_map, zmZ hk hb]
 rfl
theorem zPv {w r p:Int} {c:Bool}:(nbQ w r p c).length = zfo (zR1 w p c) (w * r).toNat:=by simp [nbQ, nbs, zfo]
theorem zPD {w r p:Int} {c:Bool} {q:Nat}:q ∈ nbs w r p c ↔ q < (w * r).toNat /\ zR1 w p c q = true:=by simp [nbs]
theorem zla {P:Program} {C:Cx P G} {ph:Ph} {st st':ASt} {Q:Exit -> Ph -> ASt -> Prop} (hw:Weak st st') {c:Code} (h:vY C c ph st' Q):vY C c ph st Q:=fun w0 ok0 a w hc hs=>h w0 ok0 a w hc (hw w0 ok0 a w hs)
theorem f69 (w r p:Int) (c:Bool):ACall Tryz.prog G 69 [.agg (zId w r), .v (.int .i64 p), .v (.bool c)] (.fn 118 [] [.ptr (zId w r), .ptr [ei p], .ptr [.v (.bool c)]]):=by
 refine zS Tryz.func69 rfl (by kernel_rfl) rfl ?_
 refine zuy (zh (zg rfl rfl (jf rfl (zY rfl)) (zg rfl rfl (jf (cs:=[_]) rfl (jF rfl)) (zg rfl rfl (jf (cs:=[_]) rfl (jF rfl)) (zg rfl rfl (zn rfl rfl) (zo (zf (zuy (zh (zg rfl rfl (zcA (fs:=[]) (cs:=[_, _, _]) rfl rfl rfl) (zg rfl rfl (zW rfl rfl) ?_)))))))))))
 refine zo (zf (zP ?_))
 exact ⟨.inr rfl, AVle.refl _⟩
end Go.Av
end
section
namespace Go.Av
open Go.Proofs
set_option maxRecDepth 100000
set_option maxHeartbeats 1000000
variable {G:Glob}
theorem zKT {f:Fld} (hs:zH2 f = true):1 <= f.wide /\ f.wide <= 6 /\ 1 <= rowsOf f /\ rowsOf f <= 5 /\ (f.vals.length:Int) = f.wide * rowsOf f:=by
 unfold zH2 at hs
 simp only[zLa, beq_iff_eq] at hs
 obtain ⟨h1, h2, h3⟩:=hs
 have h1:=zdh.1 h1
 have h3:=zdh.1 h3
 have:=Int.mul_ediv_add_emod (f.vals.length:Int) f.wide
 unfold rowsOf
 exact ⟨h1.1, h1.2, h3.1, h3.2, by omega⟩
theorem zUU {a b:Int}:zSx a b = zSx b a:=by unfold zSx; omega
end Go.Av
end
section
namespace Go.Av
open Go.Proofs
set_option maxRecDepth 100000
set_option maxHeartbeats 1000000
variable {G:Glob}
theorem zUD (w a b:Int):dist w a b = dist w b a:=by unfold dist; rw [zUU, @zUU (a % w)]
theorem zUG (w a:Int):dist w a a = 0:=by unfold dist zSx; simp
end Go.Av
end
