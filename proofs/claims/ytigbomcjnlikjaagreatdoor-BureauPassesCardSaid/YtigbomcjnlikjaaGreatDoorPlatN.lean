import Derived.Test.YtigbomcjnlikjaaGreatDoorPlatE
set_option linter.unusedVariables false
set_option linter.unusedSimpArgs false
set_option maxRecDepth 100000
set_option maxHeartbeats 9000000
section
namespace Go.Av
open Go.RowKit
def PP(mem:TP):List (Nat × EV)->List (Nat × AV)->Prop
 |[],[]=>True
 |p::l,q::l'=>p.1=q.1/\DV mem p.2 q.2/\PP mem l l'
 |_,_=>False
def Jc(l:List (Nat × AV)):List (Nat × EV):=l.map fun p=>(p.1,.pub p.2)
theorem su{n:Nat}{ok ok':Nat->Prop}{w:World}{bs:List PB}{mem:TP}(hmo:MemOK n ok w bs mem)(hk:∀b,ok b->ok' b)(hp:∀b,n<=b->b<w.heap.size->ok' b):
  ∀{l:List (Nat × EV)}{l':List (Nat × AV)},PP mem l l'->∀(t:Nat)(u:Value),FitsE ok w bs mem (frL l t) u->FitsE ok' w [] [] (frL (Jc l') t) u
 |[],[],_,t,u,_=>by simp only[Jc,List.map_nil,frL,FitsE,Fits]
 |p::l,q::l',h,t,u,hf=>by
  obtain⟨h1,h2,h3⟩:=h;obtain⟨k,e⟩:=p;obtain⟨k',x⟩:=q;simp only at h1 h2;subst h1;simp only[Jc,List.map_cons,frL]at hf⊢;cases hb:Nat.beq t k with
  |true=>rw[hb]at hf;simp only[cond_true,FitsE]at hf⊢;exact mU hmo hk hp h2 u hf
  |false=>rw[hb]at hf;simp only[cond_false]at hf⊢;exact su hmo hk hp h3 t u hf
 |[],_::_,h,_,_,_=>h.elim
 |_::_,[],h,_,_,_=>h.elim
theorem yH{n:NS}{l:List (Nat × EV)}{l':List (Nat × AV)}{mem:TP}(h:PP mem l l')(hgh:n.gh=[]:=by rfl):Weak ⟨n,frL l,mem⟩ ⟨n,frL (Jc l'),[]⟩:=by
 intro w0 ok0 a w ⟨h0,h1,h2,ok,bs,h3,h4,h5,h6⟩;refine⟨h0,h1,h2,fun b=>ok b∨(w0.heap.size<=b/\b<w.heap.size),[],fun b hb=>.inl (h3 b hb),fun b hb=>?_,⟨Y,fun b hb=>?_,fun l b rows hb _=>by simp at hb,fun l b es hb _=>by simp at hb,fun l b o g hb _ _ _=>by simp at hb,fun l l' b b' o o' g hb _ _ _ _ _ _ _=>by simp at hb⟩,fun t=>?_,fun p hp=>?_⟩
 ·rcases hb with hb|hb
  ·exact h4 b hb
  ·exact .inr hb.1
 ·rcases hb with hb|hb
  ·exact h5.lt b hb
  ·exact hb.2
 ·exact su h5 (fun b hb=>.inl hb) (fun b h7 h8=>.inr ⟨h7,h8⟩) h t _ (h6.1 t)
 ·rw[hgh]at hp;cases hp
end Go.Av
end
