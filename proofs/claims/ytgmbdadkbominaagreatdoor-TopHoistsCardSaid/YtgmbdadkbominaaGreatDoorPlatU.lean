import Derived.Test.YtgmbdadkbominaaGreatDoorPlatN
set_option linter.unusedVariables false
set_option linter.unusedSimpArgs false
section
namespace Go.Av
open Go.RowKit
section
variable {P:Program} {G:Glob} {α:Type} {enc:α -> Value} {o:Oper}
theorem zvs {fr:Nat -> EV} {mem:List PO} {x:Operand} {l:List EV} {i:Nat} {c:EV} (ho:o.op = .extract x i) (hx:evO fr x = .tpl l) (hc:l[i]? = some c):OpY P G fr mem o c:=
 jb fun ok bs w a _ _ hfit=>by
  have h:=hfit x (by simp [ho, Op.operands])
  rw [hx] at h
  simp only[FitsE] at h
  obtain ⟨vs, e, h2⟩:=h
  obtain ⟨u, h3, h4⟩:=h2.get hc
  have h5:i < vs.length:=(zLg h3).1
  have h6:vs[i] = u:=(zLg h3).2
  exact ⟨u, by simp [execOp, ho, e, Instr.extract, h5, h6], h4⟩
variable [DecidableEq α]
end
end Go.Av
end
