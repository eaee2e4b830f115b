import Derived.Test.YtigbomcjnlikjaaGreatDoorPlatJ
import Derived.Sort.Row
import Derived.Sort.Grow
set_option linter.unusedVariables false
set_option linter.unusedSimpArgs false
set_option maxRecDepth 100000
set_option maxHeartbeats 9000000
section
namespace Go.Av
open Go.RowKit Go.Proofs
section
variable{P:Program}{G:Glob}{fr:Nat->EV}{mem:TP}{o:Oper}
theorem Kr{f:FuncId}{x:Operand}{tys:Array TypeId}{k:Nat}{n:Int}(ho:o.op=.call {callee:=.value (.func f),args:=#[x],argTypes:=tys})(hx:evO fr x=.psl k 1)(hm:mem[k]?=some (.row [[I n]]))(hef:Enters P f)
  (hS:∀(blk off cap:Nat)(w:World),Sort.Holds (Value.int .i64) w blk off #[n]->blk<w.heap.size->Calls P f #[.slice (some ⟨blk,off,none⟩) 1 cap] w fun e w'=>e=.returned (.tuple #[])/\∃m os,w'=Sort.grow (Sort.putRow (Value.int .i64) (Sort.ahead w m) blk off #[n]) os):OpY P G fr mem o (.pub (.tup [])):=by
 intro B ok bs w a hG hB hmo hf K Q hK;have h:=hf x (by simp[ho,Op.operands,Call.operands]);rw[hx]at h;simp only[FitsE]at h;obtain⟨b,hb,h⟩:=h;have hv:=(h _ hm).2 rfl;have hrow:=hmo.row k b _ hb hm;cases hbk:b.blk with
 |none=>have:=hrow.nil hbk;cases this
 |some bg=>
  obtain⟨cur,hc,hcs,hcl,hcm,hcell⟩:=hrow.blk bg hbk
  have hsz1:b.size=1:=by
   have:=hrow.size [I n] (zLh.2 rfl);simpa using this.symm
  obtain⟨u,hu,_,hfu⟩:=hcell 0 0 [I n] (I n) rfl rfl;simp only[FitsE,Fits]at hfu;have hfu:=hfu.1;rw[hsz1]at hu;simp only[Nat.zero_mul,Nat.zero_add]at hu;rw[hfu]at hu;have hlt:=(zLr.1 hc).1;have hjc:0<cur.size:=(zLr.1 hu).1
  have hH:Sort.Holds (Value.int .i64) w bg 0 #[n]:=fun j hj=>by
   have:j=0:=by simpa using hj
   subst this;refine⟨?_,?_⟩
   ·simp only[World.cell?,hc];simpa using hu
   ·simp only[World.frozen?,hc];rcases b.elem.free cur.size with h|h
    ·rw[h];simp
    ·simp;omega
  have hsl:a.eval x=.slice (some ⟨bg,0,none⟩) 1 b.cap:=by rw[hv];unfold PB.sl;rw[hbk]
  unfold Oper.wp;rw[jt (us:=[]) (vs:=[]) ho hef rfl];simp only[Oper.upon];have hcall:=hS bg 0 b.cap w hH hlt;have e:([]++(#[x]:Array Operand).toList.map a.eval++[]).toArray=#[Value.slice (some ⟨bg,0,none⟩) 1 b.cap]:=by simp[hsl]
  rw[e];refine hcall.mono fun en w' ⟨e1,m,os,e2⟩=>?_;subst e1
  have hput:Sort.putCells (Value.int .i64) 0 #[n] cur=cur:=by
   unfold Sort.putCells;apply Array.ext
   ·simp
   ·intro i h1 h2;rw[Array.getElem_mapIdx]
    by_cases hi:i=0
    ·subst hi;have:=(zLr.1 hu).2;simp[this]
    ·rw[zLy (by simp;omega)]
  have hbl:Below w.heap.size w w':=by
   subst e2;refine⟨Y,Y,Y,by simp[Sort.grow,Sort.putRow,Sort.mapBlock,Sort.ahead],fun j hj=>?_⟩;rw[Sort.heap_grow_old _ _ (by simpa[Sort.putRow,Sort.mapBlock,Sort.ahead]using hj)]
   by_cases hjb:bg=j
   ·subst hjb;simp[Sort.putRow,Sort.mapBlock,Sort.ahead,Array.getElem?_modify,hc,Sort.onCells,hput]
   ·simp[Sort.putRow,Sort.mapBlock,Sort.ahead,Array.getElem?_modify,hjb]
  exact hK _ _ hbl (by simp[FitsE,Fits,FitsL])
end
end Go.Av
end
