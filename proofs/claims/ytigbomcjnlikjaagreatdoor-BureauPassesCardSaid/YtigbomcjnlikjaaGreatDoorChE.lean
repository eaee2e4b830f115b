import Derived.Test.YtigbomcjnlikjaaGreatDoorInsA
set_option linter.unusedVariables false
set_option linter.unusedSimpArgs false
set_option maxRecDepth 100000
set_option maxHeartbeats 9000000
section
namespace Go.Gr
variable{C:Type}[DecidableEq C](nb:C->List C)
def goW(met:List C):Nat->List C->C->List C
 |0,out,x=>out++[x]
 |n+1,out,x=>match(nb x).find? fun y=>!decide (y∈met)&& !decide (y∈out++[x])with
  |none=>out++[x]
  |some y=>goW met n (out++[x]) y
structure Pth(r:List C):Prop where
 nd:r.Nodup
 st:∀i(h:i+1<r.length),r[i+1]∈nb r[i]
variable{nb}
structure Gph(nb:C->List C)(all:List C):Prop where
 cl:∀x∈all,∀y∈nb x,y∈all
 sym:∀x∈all,∀y∈nb x,x∈nb y
 irr:∀x∈all,x∉nb x
 nd:∀x∈all,(nb x).Nodup
 two:∀x∈all,(nb x).length<=2
section
variable{all:List C}(G:Gph nb all){r:List C}(hp:Pth nb r)(ha:∀y∈r,y∈all)
include G hp ha
end
end Go.Gr
namespace Go.Gr
variable{C:Type}[DecidableEq C](nb:C->List C)
def ph(N most:Nat):List C->List C × List (List C)->List C × List (List C)
 |[],s=>s
 |c::cs,s=>ph N most cs (if c∈s.1∨most<(nb c).length then s else(s.1++goW nb s.1 N [] c,s.2++[goW nb s.1 N [] c]))
variable{nb}{all:List C}
structure LOK(nb:C->List C)(all:List C)(r:List C):Prop where
 pth:Pth nb r
 pos:0<r.length
 sub:∀y∈r,y∈all
 cl:∀x∈r,∀y∈nb x,y∈r
 ends:(nb r[0]).length<2↔(nb r[r.length-1]).length<2
structure SI(nb:C->List C)(all:List C)(s:List C × List (List C)):Prop where
 flat:s.2.flatten=s.1
 nd:s.1.Nodup
 lines:∀r∈s.2,LOK nb all r
variable{s:List C × List (List C)}
theorem SI.cl(h:SI nb all s):∀x∈all,x∈s.1->∀y∈nb x,y∈s.1:=fun x _ hx y hy=>by
 have _:=(inferInstance:DecidableEq C);rw[←h.flat]at hx⊢;obtain⟨r,hr,hxr⟩:=List.mem_flatten.1 hx;exact List.mem_flatten.2 ⟨r,hr,(h.lines r hr).cl x hxr y hy⟩
theorem SI.sub(h:SI nb all s):∀x∈s.1,x∈all:=fun x hx=>by
 have _:=(inferInstance:DecidableEq C);rw[←h.flat]at hx;obtain⟨r,hr,hxr⟩:=List.mem_flatten.1 hx;exact(h.lines r hr).sub x hxr
end Go.Gr
namespace Go.Av
namespace Ct
open Go.Gr
def two{α:Type}:List α->List (α × α)
 |[a,b]=>[(a,b)]
 |[a,b,c,d]=>[(a,b),(c,d)]
 |_=>[]
section
variable{h:Nat->Bool}{w r:Nat}
end
end Ct
end Go.Av
end
