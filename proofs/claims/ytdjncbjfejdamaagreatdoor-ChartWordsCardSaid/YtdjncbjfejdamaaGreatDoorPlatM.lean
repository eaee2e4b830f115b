import Derived.Test.YtdjncbjfejdamaaGreatDoorPlatH
import Derived.Test.YtdjncbjfejdamaaGreatDoorPlatJ
import Derived.Shelf.SlSortCmp.Whole1
import Derived.Laws.AppendOwn
set_option linter.unusedVariables false
set_option linter.unusedSimpArgs false
section
namespace Go.Av
open Go.RowKit Go.Proofs
def HoldsI (w:World) (a:Option Addr) (m:List Int):Prop:=m.length <= maxLen /\ (0 < m.length -> ∃ b off, a = some ⟨b, off, none⟩ /\ ∀ j (h:j < m.length), w.cell? ⟨b, off + j, none⟩ = some (.int .i64 m[j]))
section
variable {P:Program} {G:Glob} {st:ASt} {o:Oper}
theorem HoldsI.same {w w':World} {ok:Nat -> Prop} {a:Option Addr} {m:List Int} (h:HoldsI w a m) (hok:0 < m.length -> ∃ b off, a = some ⟨b, off, none⟩ /\ ok b) (hw:∀ b, ok b -> w'.heap[b]? = w.heap[b]?):HoldsI w' a m:=by
 refine ⟨h.1, fun hn=>?_⟩
 obtain ⟨b, off, e, hc⟩:=h.2 hn
 obtain ⟨b', off', e', hb⟩:=hok hn
 rw [e] at e'
 injection e' with e'
 injection e' with e1 e2 e3
 subst e1
 exact ⟨b, off, e, fun j hj=>by rw [World.cell?_of_block (w:=w) (hw b hb)]; exact hc j hj⟩
end
end Go.Av
end
section
namespace Go.Av
open Go.RowKit Go.Proofs
def NCall (P:Program) (f:FuncId) (args:List AV) (r:AV):Prop:=
 Enters P f /\ ∀ (w:World) (vs:List Value), FitsL (fun b=>b < w.heap.size) w args vs -> Calls P f vs.toArray w fun e w'=>∃ u, e = .returned u /\ Below w.heap.size w w' /\ Fits (fun b=>w.heap.size <= b /\ b < w'.heap.size) w' r u
section
variable {P:Program} {G:Glob} {fr:Nat -> EV} {mem:List PO} {o:Oper}
theorem NCall.call {f:FuncId} {args:List AV} {r:AV} (h:NCall P f args r):ACall P G f args r:=
 ⟨h.1, fun ok w vs _ hok hf=>(h.2 w vs (hf.mono (fun b hb=>hok b hb) (fun _ _=>rfl))).mono fun _ _ ⟨u, h1, h2, h3⟩=>⟨u, h1, h2, h3.mono (fun b hb=>.inr hb) (fun _ _=>rfl)⟩⟩
end
end Go.Av
end
