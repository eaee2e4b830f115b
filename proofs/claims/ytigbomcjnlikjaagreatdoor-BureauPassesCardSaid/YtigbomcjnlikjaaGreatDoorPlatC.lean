import Derived.Test.YtigbomcjnlikjaaGreatDoorPlatB
import Derived.RangeFuncIn
import Derived.Recover
set_option linter.unusedVariables false
set_option linter.unusedSimpArgs false
set_option maxRecDepth 100000
set_option maxHeartbeats 9000000
section
namespace Go.Av
open Go.RowKit
section
variable{P:Program}{G:Glob}{ops:Array Oper}{md:Region.Mode}
def OpB(P:Program)(G:Glob)(fr:Nat->EV)(mem:List PO)(o:Oper)(e:EV)(mem':List PO):Prop:=
 ∀(n:NS)(fr2:Nat->EV),(∀y∈o.op.operands,evO fr2 y=evO fr y)->qB o n=true->OpM P G ⟨n,fr2,mem⟩ o ⟨n,qc fr2 o.dst e,mem'⟩
variable{fr':Nat->EV}{m mem' xs:List PO}{e u:EV}{R:List Nat}{i j k n size:Nat}{oi oj:Oper}{C:List PO->Prop}{d:Option Tmp}{rest:List Oper}{T:TypeId}{rows:List (List EV)}{agg:Bool}{cs:List AV}{z:Value}{y:Operand}{zs:List Value}
theorem OpB.of_same{fr:Nat->EV}{mem:List PO}{o:Oper}(h:OpB P G fr mem o e mem')(he:∀y∈o.op.operands,evO fr' y=evO fr y):OpB P G fr' mem o e mem':=
 fun n fr2 h2 hd=>h n fr2 (fun y hy=>(h2 y hy).trans (he y hy)) hd
inductive How where
 |rd (R:List Nat)|here|out|writes|rw(R:List Nat) (l:Nat)|grow (R:List Nat) (n:Nat)
@[reducible] def How.stable:How:=.rd []
@[reducible] def How.own(l:Nat):How:=.rw [] l
def Agree(R:List Nat)(m m':List PO):Prop:=∀l∈R,m[l]?=m'[l]?
theorem Agree.nil(m m':List PO):Agree [] m m':=fun _ h=>by cases h
theorem Agree.one{m':List PO}(h:Agree R m m')(l:Nat)(hl:R.contains l=true):m[l]?=m'[l]?:=h l (by simpa using hl)
def StepA(P:Program)(G:Glob)(ops:Array Oper)(C:List PO->Prop)(o:Oper)(fr:Nat->EV)(mem:List PO)(e:EV)(mem':List PO):How->Prop
 | .rd R=>qe ops fr o=some true/\(∀m,Agree R m mem->C m->OpY P G fr m o e)/\mem'=mem
 | .here=>qe ops fr o=some true/\OpY P G fr mem o e/\mem'=mem
 | .out=>qe ops fr o=some false/\e=j6/\mem'=mem
 | .writes=>o.guard=none/\OpB P G fr mem o e mem'/\C mem'
 | .rw R l=>o.guard=none/\∃x,mem'=mem.set l x/\∀m:List PO,Agree (l::R) m mem->C m->OpB P G fr m o e (m.set l x)/\C (m.set l x)
 | .grow R n=>o.guard=none/\∃xs,mem'=mem++xs/\mem.length=n/\∀m:List PO,m.length=n->Agree R m mem->C m->OpB P G fr m o e (m++xs)/\C (m++xs)
abbrev Wr:=List Nat
def wt(P:Program)(G:Glob)(ops:Array Oper)(C:List PO->Prop)(hows:Nat->How)(Q:(Nat->EV)->List PO->Prop):Nat->List Oper->(Nat->EV)->List PO->Prop
 |_,[],fr,mem=>Q fr mem
 |k,o::rest,fr,mem=>∃e mem',StepA P G ops C o fr mem e mem' (hows k)/\wt P G ops C hows Q (k+1) rest (qc fr o.dst e) mem'
def pf(P:Program)(G:Glob)(ops:Array Oper)(C:List PO->Prop)(hows:Nat->How)(i:Nat)(K:(Nat->EV)->List PO->Prop)(fr:Nat->EV)(mem:List PO):Prop:=
 match ops[i]?with
 |none=>K fr mem
 |some o=>∃e mem',StepA P G ops C o fr mem e mem' (hows i)/\K (qc fr o.dst e) mem'
def xb(P:Program)(G:Glob)(md:Region.Mode)(ops:Array Oper)(C:List PO->Prop)(hows:Nat->How)(Q:(Nat->EV)->List PO->Prop):Nat->Array Bool->(Nat->EV)->List PO->Prop
 |0,listed,fr,mem=>Region.ready md ops listed=[]/\Q fr mem
 |fuel+1,listed,fr,mem=>
  (Region.ready md ops listed=[]->Q fr mem)/\
  ∀i∈Region.ready md ops listed,pf P G ops C hows i (xb P G md ops C hows Q fuel (listed.setIfInBounds i true)) fr mem
def How.free:How->How->Bool
 | .rw R l,.rw R' l'=>!(Nat.beq l l')&& !R'.contains l&& !R.contains l'
 | .rw _ l,.rd R=>!R.contains l
 | .rd R,.rw _ l=>!R.contains l
 | .rw R' l,.grow R n=>Nat.blt l n&& !R.contains l&&R'.all (fun k=>Nat.blt k n)
 | .grow R n,.rw R' l=>Nat.blt l n&& !R.contains l&&R'.all (fun k=>Nat.blt k n)
 | .rd R',.grow _ n=>R'.all (fun k=>Nat.blt k n)
 | .grow _ n,.rd R'=>R'.all (fun k=>Nat.blt k n)
 | .grow ..,.out=>true
 | .out,.grow ..=>true
 | .grow ..,_=>false
 |_,.grow ..=>false
 | .rw ..,.here=>false
 | .here,.rw ..=>false
 | .rw ..,.writes=>false
 | .writes,.rw ..=>false
 | .writes,.writes=>false
 | .writes,.here=>false
 | .here,.writes=>false
 | .rd R,.writes=>R.isEmpty
 | .writes,.rd R=>R.isEmpty
 |_,_=>true
def mR(md:Region.Mode)(ops:Array Oper)(hows:Nat->How)(listed:Array Bool)(i:Nat):Bool:=
 (List.range ops.size).all fun j=>listed.getD j true||j==i||
  (match ops[j]?with|some oj=>(oj.after.toList.any fun e=>Region.binds md e&&e.on==i)|none=>true)||(hows i).free (hows j)
def eP(md:Region.Mode)(ops:Array Oper)(hows:Nat->How):Nat->Nat->Array Bool->Bool
 |0,_,_=>true
 |fuel+1,k,listed=>mR md ops hows listed k&&eP md ops hows fuel (k+1) (listed.setIfInBounds k true)
variable{hows:Nat->How}
theorem oy{listed:Array Bool}(h:mR md ops hows listed i=true)(hj:ops[j]?=some oj)(hji:j≠i)(hun:listed.getD j true=false)
  (hno:∀e∈oj.after,Region.binds md e=true->e.on≠i):(hows i).free (hows j)=true:=by
 unfold mR at h;rw[zLu]at h;have hlt:j<ops.size:=(zLr.1 hj).1;have:=h j (List.mem_range.2 hlt);rw[hj,hun]at this;simp only[Bool.false_or,Bool.or_eq_true,beq_iff_eq]at this;rcases this with(h1|h1)|h1
 ·exact absurd h1 hji
 ·rw[List.any_eq_true]at h1;obtain⟨e,he,hb⟩:=h1;simp only[zLa,beq_iff_eq]at hb;exact absurd hb.2 (hno e (by simpa using he) hb.1)
 ·exact h1
variable{hw:How}
theorem StepA.of_set{fr:Nat->EV}{mem:List PO}(h:StepA P G ops C oi fr mem e mem' hw)(hl:∀t,d=some t->t∉oi.looksAt ops):StepA P G ops C oi (qc fr d u) mem e mem' hw:=by
 cases hw with
 |rd R=>exact⟨by rw[qU hl];exact h.1,fun m ha hm=>(h.2.1 m ha hm).of_same (vl hl),h.2.2⟩
 |here=>exact⟨by rw[qU hl];exact h.1,h.2.1.of_same (vl hl),h.2.2⟩
 |out=>exact⟨by rw[qU hl];exact h.1,h.2⟩
 |writes=>exact⟨h.1,h.2.1.of_same (vl hl),h.2.2⟩
 |rw R l=>obtain⟨h1,x,h2,h3⟩:=h;exact⟨h1,x,h2,fun m hm hC=>⟨(h3 m hm hC).1.of_same (vl hl),(h3 m hm hC).2⟩⟩
 |grow R n=>obtain⟨h1,x,h2,h4,h3⟩:=h;exact⟨h1,x,h2,h4,fun m hn hm hC=>⟨(h3 m hn hm hC).1.of_same (vl hl),(h3 m hn hm hC).2⟩⟩
theorem StepA.un_set{fr:Nat->EV}{mem:List PO}(h:StepA P G ops C oj (qc fr d u) mem e mem' hw)(hl:∀t,d=some t->t∉oj.looksAt ops):StepA P G ops C oj fr mem e mem' hw:=by
 have he:∀y∈oj.op.operands,evO fr y=evO (qc fr d u) y:=fun y hy=>(vl hl y hy).symm;cases hw with
 |rd R=>exact⟨by rw[←qU hl];exact h.1,fun m ha hm=>(h.2.1 m ha hm).of_same he,h.2.2⟩
 |here=>exact⟨by rw[←qU hl];exact h.1,h.2.1.of_same he,h.2.2⟩
 |out=>exact⟨by rw[←qU hl];exact h.1,h.2⟩
 |writes=>exact⟨h.1,h.2.1.of_same he,h.2.2⟩
 |rw R l=>obtain⟨h1,x,h2,h3⟩:=h;exact⟨h1,x,h2,fun m hm hC=>⟨(h3 m hm hC).1.of_same he,(h3 m hm hC).2⟩⟩
 |grow R n=>obtain⟨h1,x,h2,h4,h3⟩:=h;exact⟨h1,x,h2,h4,fun m hn hm hC=>⟨(h3 m hn hm hC).1.of_same he,(h3 m hn hm hC).2⟩⟩
theorem Agree.set{mem:List PO}{l:Nat}{x:PO}(hl:l∉R):Agree R m (mem.set l x)↔Agree R m mem:=by
 constructor<;>intro h k hk
 ·have:=h k hk;rwa[zLn (fun e=>hl (by rw[e];exact hk))]at this
 ·rw[zLn (fun e=>hl (by rw[e];exact hk))];exact h k hk
theorem Agree.app{mem:List PO}(hn:mem.length=n)(hR:R.all (fun k=>Nat.blt k n)=true):Agree R m (mem++xs)↔Agree R m mem:=by
 have e:∀k∈R,(mem++xs)[k]?=mem[k]?:=fun k hk=>by
  have:=zLu.1 hR k hk;rw[Nat.blt_eq]at this;rw[zLf oM]
 constructor<;>intro h k hk
 ·rw[←e k hk];exact h k hk
 ·rw[e k hk];exact h k hk
theorem StepA.swap{fr:Nat->EV}{mem m1 m2:List PO}{hi hj:How}(hf:hi.free hj=true)(hC:C mem)(h1:StepA P G ops C oi fr mem e m1 hi)(h2:StepA P G ops C oj fr' m1 u m2 hj):
  ∃m1',StepA P G ops C oj fr' mem u m1' hj/\StepA P G ops C oi fr m1' e m2 hi/\C m1':=by
 have rfl':∀(R:List Nat)(m:List PO),Agree R m m:=fun R m l _=>rfl;cases hi with
 |grow R n=>
  cases hj with
  |rd R'=>
   have hl:R'.all (fun k=>Nat.blt k n)=true:=by simpa[How.free]using hf
   obtain⟨a1,xs,rfl,a4,a3⟩:=h1;obtain⟨b1,b2,rfl⟩:=h2;exact⟨mem,⟨b1,fun m ha hm=>b2 m ((Agree.app a4 hl).2 ha) hm,Y⟩,⟨a1,xs,Y,a4,a3⟩,hC⟩
  |here=>simp[How.free]at hf
  |out=>obtain⟨a1,xs,rfl,a4,a3⟩:=h1;obtain⟨b1,b2,rfl⟩:=h2;exact⟨mem,⟨b1,b2,rfl⟩,⟨a1,xs,rfl,a4,a3⟩,hC⟩
  |writes=>simp[How.free]at hf
  |grow R' n'=>simp[How.free]at hf
  |rw R' l=>
   obtain⟨a1,xs,rfl,a4,a3⟩:=h1;obtain⟨b1,y,rfl,b3⟩:=h2;simp only[How.free,zLa,Bool.not_eq_true',List.contains_eq_mem,decide_eq_false_iff_not]at hf;obtain⟨⟨h1,h2⟩,h3⟩:=hf;have hln:l<mem.length:=by rw[Nat.blt_eq]at h1;omega
   have hla:(l::R').all (fun k=>Nat.blt k n)=true:=by rw[List.all_cons,h1,h3];rfl
   have b3':∀m:List PO,Agree (l::R') m mem->C m->OpB P G fr' m oj u (m.set l y)/\C (m.set l y):=fun m ha=>b3 m ((Agree.app a4 hla).2 ha);exact⟨mem.set l y,⟨b1,y,Y,b3'⟩,⟨a1,xs,(List.set_append_left _ _ hln),(by rw[zL2];exact a4),fun m hn ha=>a3 m hn ((Agree.set h2).1 ha)⟩,(b3' mem (rfl' _ _) hC).2⟩
 |rd R=>
  cases hj with
  |grow R' n=>
   have hl:R.all (fun k=>Nat.blt k n)=true:=by simpa[How.free]using hf
   obtain⟨a1,a2,rfl⟩:=h1;obtain⟨b1,xs,rfl,b4,b3⟩:=h2;exact⟨_,⟨b1,xs,Y,b4,b3⟩,⟨a1,fun m ha hm=>a2 m ((Agree.app b4 hl).1 ha) hm,Y⟩,(b3 _ b4 (rfl' _ _) hC).2⟩
  |rd R'=>obtain⟨a1,a2,rfl⟩:=h1;obtain⟨b1,b2,rfl⟩:=h2;exact⟨_,⟨b1,b2,rfl⟩,⟨a1,a2,rfl⟩,hC⟩
  |here=>obtain⟨a1,a2,rfl⟩:=h1;obtain⟨b1,b2,rfl⟩:=h2;exact⟨_,⟨b1,b2,rfl⟩,⟨a1,a2,rfl⟩,hC⟩
  |out=>obtain⟨a1,a2,rfl⟩:=h1;obtain⟨b1,b2,rfl⟩:=h2;exact⟨_,⟨b1,b2,rfl⟩,⟨a1,a2,rfl⟩,hC⟩
  |writes=>
   simp only[How.free,List.isEmpty_iff]at hf;subst hf;obtain⟨a1,a2,rfl⟩:=h1;obtain⟨b1,b2,b3⟩:=h2;exact⟨m2,⟨b1,b2,b3⟩,⟨a1,fun m _ hm=>a2 m (Agree.nil _ _) hm,Y⟩,b3⟩
  |rw R' l=>
   have hl:l∉R:=by simpa[How.free]using hf
   obtain⟨a1,a2,rfl⟩:=h1;obtain⟨b1,x,rfl,b3⟩:=h2;exact⟨_,⟨b1,x,Y,b3⟩,⟨a1,fun m ha hm=>a2 m ((Agree.set hl).1 ha) hm,Y⟩,(b3 _ (rfl' _ _) hC).2⟩
 |here=>
  cases hj with
  |grow R' n=>simp[How.free]at hf
  |rd R'=>obtain⟨a1,a2,rfl⟩:=h1;obtain⟨b1,b2,rfl⟩:=h2;exact⟨_,⟨b1,b2,rfl⟩,⟨a1,a2,rfl⟩,hC⟩
  |here=>obtain⟨a1,a2,rfl⟩:=h1;obtain⟨b1,b2,rfl⟩:=h2;exact⟨_,⟨b1,b2,rfl⟩,⟨a1,a2,rfl⟩,hC⟩
  |out=>obtain⟨a1,a2,rfl⟩:=h1;obtain⟨b1,b2,rfl⟩:=h2;exact⟨_,⟨b1,b2,rfl⟩,⟨a1,a2,rfl⟩,hC⟩
  |writes=>simp[How.free]at hf
  |rw R' l=>simp[How.free]at hf
 |out=>
  cases hj with
  |grow R' n=>obtain⟨a1,a2,rfl⟩:=h1;obtain⟨b1,xs,rfl,b4,b3⟩:=h2;exact⟨_,⟨b1,xs,rfl,b4,b3⟩,⟨a1,a2,rfl⟩,(b3 _ b4 (rfl' _ _) hC).2⟩
  |rd R'=>obtain⟨a1,a2,rfl⟩:=h1;obtain⟨b1,b2,rfl⟩:=h2;exact⟨_,⟨b1,b2,rfl⟩,⟨a1,a2,rfl⟩,hC⟩
  |here=>obtain⟨a1,a2,rfl⟩:=h1;obtain⟨b1,b2,rfl⟩:=h2;exact⟨_,⟨b1,b2,rfl⟩,⟨a1,a2,rfl⟩,hC⟩
  |out=>obtain⟨a1,a2,rfl⟩:=h1;obtain⟨b1,b2,rfl⟩:=h2;exact⟨_,⟨b1,b2,rfl⟩,⟨a1,a2,rfl⟩,hC⟩
  |writes=>obtain⟨a1,a2,rfl⟩:=h1;obtain⟨b1,b2,b3⟩:=h2;exact⟨m2,⟨b1,b2,b3⟩,⟨a1,a2,rfl⟩,b3⟩
  |rw R' l=>obtain⟨a1,a2,rfl⟩:=h1;obtain⟨b1,x,rfl,b3⟩:=h2;exact⟨_,⟨b1,x,rfl,b3⟩,⟨a1,a2,rfl⟩,(b3 _ (rfl' _ _) hC).2⟩
 |writes=>
  cases hj with
  |grow R' n=>simp[How.free]at hf
  |rd R'=>
   simp only[How.free,List.isEmpty_iff]at hf;subst hf;obtain⟨a1,a2,a3⟩:=h1;obtain⟨b1,b2,rfl⟩:=h2;exact⟨mem,⟨b1,fun m _ hm=>b2 m (Agree.nil _ _) hm,Y⟩,⟨a1,a2,a3⟩,hC⟩
  |here=>simp[How.free]at hf
  |out=>obtain⟨a1,a2,a3⟩:=h1;obtain⟨b1,b2,rfl⟩:=h2;exact⟨mem,⟨b1,b2,rfl⟩,⟨a1,a2,a3⟩,hC⟩
  |writes=>simp[How.free]at hf
  |rw R' l=>simp[How.free]at hf
 |rw R l=>
  cases hj with
  |grow R' n=>
   obtain⟨a1,x,rfl,a3⟩:=h1;obtain⟨b1,xs,rfl,b4,b3⟩:=h2;simp only[How.free,zLa,Bool.not_eq_true',List.contains_eq_mem,decide_eq_false_iff_not]at hf;obtain⟨⟨h1,h2⟩,h3⟩:=hf;have b5:mem.length=n:=by rw[zL2]at b4;exact b4
   have hln:l<mem.length:=by rw[Nat.blt_eq]at h1;omega
   have hla:(l::R).all (fun k=>Nat.blt k n)=true:=by rw[List.all_cons,h1,h3];rfl
   have b3':∀m:List PO,m.length=n->Agree R' m mem->C m->OpB P G fr' m oj u (m++xs)/\C (m++xs):=fun m hn ha=>b3 m hn ((Agree.set h2).2 ha);exact⟨mem++xs,⟨b1,xs,Y,b5,b3'⟩,⟨a1,x,(List.set_append_left _ _ hln).symm,fun m ha=>a3 m ((Agree.app b5 hla).1 ha)⟩,(b3' mem b5 (rfl' _ _) hC).2⟩
  |rd R'=>
   have hl:l∉R':=by simpa[How.free]using hf
   obtain⟨a1,x,rfl,a3⟩:=h1;obtain⟨b1,b2,rfl⟩:=h2;exact⟨mem,⟨b1,fun m ha hm=>b2 m ((Agree.set hl).2 ha) hm,Y⟩,⟨a1,x,Y,a3⟩,hC⟩
  |here=>simp[How.free]at hf
  |out=>obtain⟨a1,x,rfl,a3⟩:=h1;obtain⟨b1,b2,rfl⟩:=h2;exact⟨mem,⟨b1,b2,rfl⟩,⟨a1,x,rfl,a3⟩,hC⟩
  |writes=>simp[How.free]at hf
  |rw R' l'=>
   obtain⟨a1,x,rfl,a3⟩:=h1;obtain⟨b1,y,rfl,b3⟩:=h2;simp only[How.free,zLa,Bool.not_eq_true',List.contains_eq_mem,decide_eq_false_iff_not]at hf;obtain⟨⟨h1,h2⟩,h3⟩:=hf;have hne:l≠l':=Nat.ne_of_beq_eq_false h1;have f1:l∉l'::R':=by simp[hne,h2]
   have f2:l'∉l::R:=by simp[Ne.symm hne,h3]
   have b3':∀m:List PO,Agree (l'::R') m mem->C m->OpB P G fr' m oj u (m.set l' y)/\C (m.set l' y):=fun m ha=>b3 m ((Agree.set f1).2 ha);exact⟨mem.set l' y,⟨b1,y,Y,b3'⟩,⟨a1,x,List.set_comm _ _ hne,fun m ha=>a3 m ((Agree.set f2).1 ha)⟩,(b3' mem (rfl' _ _) hC).2⟩
theorem StepA.inC{o:Oper}{fr:Nat->EV}{mem m1:List PO}(hC:C mem)(h:StepA P G ops C o fr mem e m1 hw):C m1:=by
 cases hw<;>simp only[StepA]at h
 ·rw[h.2.2];exact hC
 ·rw[h.2.2];exact hC
 ·rw[h.2.2];exact hC
 ·exact h.2.2
 ·obtain⟨_,x,rfl,h3⟩:=h;exact(h3 mem (fun _ _=>rfl) hC).2
 ·obtain⟨_,x,rfl,h4,h3⟩:=h;exact(h3 mem h4 (fun _ _=>rfl) hC).2
theorem nj{Q:(Nat->EV)->List PO->Prop}{v:EV}(hi:ops[i]?=some oi):
  ∀(fuel:Nat)(listed:Array Bool)(fr:Nat->EV)(mem m1:List PO),C mem->
   (∀(j:Nat)(oj:Oper),ops[j]?=some oj->j≠i->listed.getD j true=false->(∀e∈oj.after,Region.binds md e=true->e.on≠i)->oi.apart ops oj=true/\(hows i).free (hows j)=true)->
   i∈Region.ready md ops listed->StepA P G ops C oi fr mem v m1 (hows i)->
   xb P G md ops C hows Q fuel (listed.setIfInBounds i true) (qc fr oi.dst v) m1->xb P G md ops C hows Q (fuel+1) listed fr mem:=by
 intro fuel
 induction fuel with
 |zero=>
  intro listed fr mem m1 hC _ hr hy H;refine⟨fun h=>(by rw[h]at hr;cases hr),fun j hj=>?_⟩
  by_cases hji:j=i
  ·subst hji;unfold pf;simp only[hi];exact⟨v,m1,hy,H⟩
  ·have:=ready_mono hj hji;rw[H.1]at this;cases this
 |succ fuel ih=>
  intro listed fr mem m1 hC hfree hr hy H;refine⟨fun h=>(by rw[h]at hr;cases hr),fun j hj=>?_⟩
  by_cases hji:j=i
  ·subst hji;unfold pf;simp only[hi];exact⟨v,m1,hy,H⟩
  ·have h1:=H.2 j (ready_mono hj hji);obtain⟨hjun,oj,hoj,hall⟩:=mem_ready.1 hj
   have hnot:∀e∈oj.after,Region.binds md e=true->e.on≠i:=fun e he hb heq=>by
    have h1:=hall e he hb;have h0:=(mem_ready.1 hr).1;rw[heq]at h1;rcases Nat.lt_or_ge i listed.size with h'|h'
    ·simp[h']at h0 h1;rw[h0]at h1;cases h1
    ·simp[Array.getElem?_eq_none h']at h1
   obtain⟨hap,hfr⟩:=hfree j oj hoj hji hjun hnot;obtain⟨a1,a2,a3⟩:=Oper.apart_spec hap
   have hfree':∀(k:Nat)(ok:Oper),ops[k]?=some ok->k≠i->(listed.setIfInBounds j true).getD k true=false->
     (∀e∈ok.after,Region.binds md e=true->e.on≠i)->oi.apart ops ok=true/\(hows i).free (hows k)=true:=fun k ok hk hki hun hno=>by
    refine hfree k ok hk hki ?_ hno
    by_cases hjk:j=k
    ·subst hjk;exact hjun
    ·rw[getD_set_ne true hjk]at hun;exact hun
   unfold pf at h1⊢;simp only[hoj]at h1⊢;obtain⟨u,m2,hs,hK⟩:=h1;have hs0:=hs.un_set a1;obtain⟨m1',b1,b2,b3⟩:=StepA.swap hfr hC hy hs0;refine⟨u,m1',b1,ih (listed.setIfInBounds j true) _ m1' m2 b3 hfree' (ready_mono hr (Ne.symm hji)) (b2.of_set a3) ?_⟩;rw[Array.setIfInBounds_comm _ _ hji,←vQ fr v u a2];exact hK
theorem iv{Q:(Nat->EV)->List PO->Prop}:∀(l:List Oper)(k:Nat)(listed:Array Bool)(fr:Nat->EV)(mem:List PO),C mem->(∀(j:Nat),l[j]?=ops[k+j]?)->
  Region.lexFrom md ops l.length k listed=true->eP md ops hows l.length k listed=true->wt P G ops C hows Q k l fr mem->xb P G md ops C hows Q l.length listed fr mem
 |[],_,_,_,_,_,_,hB,_,h=>⟨by simpa[Region.lexFrom]using hB,h⟩
 |o::l,k,listed,fr,mem,hC,hl,hB,hM,h=>by
  have h0:ops[k]?=some o:=by simpa using(hl 0).symm
  simp only[List.length_cons,Region.lexFrom,zLa]at hB;simp only[List.length_cons,eP,zLa]at hM;obtain⟨⟨hr,hf⟩,hB'⟩:=hB;obtain⟨hm,hM'⟩:=hM;simp only[wt]at h;obtain⟨e,m1,hs,hK⟩:=h
  exact nj h0 l.length listed fr mem m1 hC (fun j oj hj hji hun hno=>⟨Region.free_spec h0 hf j oj hj hji hun hno,oy hm hj hji hun hno⟩) (by simpa using hr) hs
   (iv l (k+1) _ _ m1 (hs.inC hC) (fun j=>by have:=hl (j+1);simpa[Nat.add_assoc,Nat.add_comm 1 j]using this) hB' hM' hK)
theorem jB{r:Option Nat}{w0:World}{ok0:Nat->Prop}{n:NS}{Q:(Nat->EV)->List PO->Prop}{Q':Exit->Act->World->Prop}(hG:G.holds w0)(hok:∀b,ok0 b->b<w0.heap.size)(hn:jl ops n=true)
  (hQ:∀fr mem a w,Sit w0 ok0 ⟨n,fr,mem⟩ a w->Q fr mem->Q' .normal a w):∀(fuel:Nat)(listed:Array Bool)(fr:Nat->EV)(mem:List PO)(a:Act)(w:World),C mem->Sit w0 ok0 ⟨n,fr,mem⟩ a w->
  xb P G md ops C hows Q fuel listed fr mem->wpAnyIn (FW r) 0 P md ops Q' fuel listed a w
 |0,_,_,_,_,_,_,hs,h=>⟨h.1,hQ _ _ _ _ hs h.2⟩
 |fuel+1,_,fr,mem,a,w,hC,hs,h=>⟨fun h0=>hQ _ _ _ _ hs (h.1 h0),fun i hi=>by
   have h1:=h.2 i hi;unfold pf at h1;unfold wpOpIn;split
   ·rename_i ho;simp only[ho]at h1;exact jB hG hok hn hQ fuel _ _ _ _ _ hC hs h1
   ·rename_i o ho
    simp only[ho]at h1;have hd:DOK o.dst n:=kq hn i o ho;have hdI:qB o n=true:=ox hn ho;have hsz:=hs.size;obtain⟨e,m1,hst,hK⟩:=h1;have hC1:=hst.inC hC
    have hwant:∀b,qe ops fr o=some b->Region.wanted o (yielded ops a.tmps)=b:=fun b hb=>by
     obtain⟨_,_,_,_,_,h6⟩:=hs.ex;exact vf h6.1 (fun j o t h1 h2=>by rw[hsz];exact wa hn j o t h1 h2) hb
    cases hh:hows i with
    |rd R=>
     rw[hh]at hst;obtain⟨c1,c2,rfl⟩:=hst;rw[zLc (hwant true c1)];exact jR (wy hn i o ho) ((c2 m1 (fun _ _=>rfl) hC).toM (st:=⟨n,fr,m1⟩) hd w0 ok0 a w hG hok hs _ _ fun a' w' hs'=>jB hG hok hn hQ fuel _ _ _ a' w' hC hs' hK)
    |here=>
     rw[hh]at hst;obtain⟨c1,c2,rfl⟩:=hst;rw[zLc (hwant true c1)];exact jR (wy hn i o ho) (c2.toM (st:=⟨n,fr,m1⟩) hd w0 ok0 a w hG hok hs _ _ fun a' w' hs'=>jB hG hok hn hQ fuel _ _ _ a' w' hC hs' hK)
    |out=>
     rw[hh]at hst;obtain⟨c1,rfl,rfl⟩:=hst;rw[zLy (by rw[hwant false c1];simp)];obtain⟨h0,h1,h2,ok,bs,h3,h4,h5,h6⟩:=hs;exact⟨fun _ _=>trivial,jB hG hok hn hQ fuel _ _ _ _ _ hC (Sit.put h0 h1 h2 h3 h4 h5 h6 (Below.refl _ _) (by simp[j6,FitsE,Fits,FitsL,undef]) hd) hK⟩
    |writes=>
     rw[hh]at hst;obtain⟨c1,c2,c3⟩:=hst;rw[zLc (by simp[Region.wanted,c1])];exact jR (wy hn i o ho) (c2 n fr (fun _ _=>rfl) hdI w0 ok0 a w hG hok hs _ _ fun a' w' hs'=>jB hG hok hn hQ fuel _ _ _ a' w' hC1 hs' hK)
    |rw R l=>
     rw[hh]at hst;obtain⟨c1,x,rfl,c3⟩:=hst;rw[zLc (by simp[Region.wanted,c1])];exact jR (wy hn i o ho) ((c3 mem (fun _ _=>rfl) hC).1 n fr (fun _ _=>rfl) hdI w0 ok0 a w hG hok hs _ _ fun a' w' hs'=>jB hG hok hn hQ fuel _ _ _ a' w' hC1 hs' hK)
    |grow R l=>
     rw[hh]at hst;obtain⟨c1,xs,rfl,c4,c3⟩:=hst;rw[zLc (by simp[Region.wanted,c1])];exact jR (wy hn i o ho) ((c3 mem c4 (fun _ _=>rfl) hC).1 n fr (fun _ _=>rfl) hdI w0 ok0 a w hG hok hs _ _ fun a' w' hs'=>jB hG hok hn hQ fuel _ _ _ a' w' hC1 hs' hK)⟩
theorem qd{r:Option Nat}{id:Nat}{l:List Oper}{st:ASt}{Q:Exit->ASt->Prop}(C:List PO->Prop)(hows:Nat->How)(hm:P.follows .mixedOrders=true)(hB:Region.lexB .any l.toArray=true)(hn:jl l.toArray st.n=true)
  (hM:eP .any l.toArray hows l.length 0 (Array.replicate l.toArray.size false)=true) (hC:C st.mem)
  (h:wt P G l.toArray C hows (fun fr mem=>Q .normal ⟨st.n,fr,mem⟩) 0 l st.fr st.mem):qp (r:=r) P G (.region id l.toArray true) st Q:=by
 intro w0 ok0 a w hG hok hs;simp only[Region.lexB,zLa]at hB;refine wpIn_region_any hm ?_
 have hs':Sit w0 ok0 st a {w with drawn:=w.drawn+1}:=by
  obtain⟨h0,h1,h2,ok,bs,h3,h4,h5,h6⟩:=hs;have hb:Below w.heap.size w w.drew:=(Below.refl _ _).drew;refine⟨h0,h1.keep (.of_below hb),q9 h2 h2.size hb,okN ok w w.drew,bs,fun b hb=>.inl (h3 b hb),fun b hb=>?_,h5.grow hb,h6.map fun _ _ h=>h.grow h5.lt hb⟩;rcases hb with hb|hb
  ·exact h4 b hb
  ·exact .inr (zL6 h2.size hb.1)
 refine jB (G:=G) (C:=C) (hows:=hows) (n:=st.n) (Q:=fun fr mem=>Q .normal ⟨st.n,fr,mem⟩) hG hok hn (fun fr mem a w hs hq=>⟨_,hs,hq⟩) _ _ st.fr st.mem a _ hC hs' ?_;have:=iv (md:=.any) (hows:=hows) l 0 (Array.replicate l.toArray.size false) st.fr st.mem hC sI (by simpa using hB.2) (by simpa using hM) h;simpa using this
theorem GL{Q:(Nat->EV)->List PO->Prop}{fr:Nat->EV}{mem:List PO}(h:Q fr mem):wt P G ops C hows Q k [] fr mem:=h
theorem zC{Q:(Nat->EV)->List PO->Prop}{fr:Nat->EV}{mem:List PO}{o:Oper}(hk:hows k=.stable)(hg:qe ops fr o=some true)(ho:∀m,C m->OpY P G fr m o e)
  (h:wt P G ops C hows Q (k+1) rest (qc fr o.dst e) mem):wt P G ops C hows Q k (o::rest) fr mem:=⟨e,mem,by rw[hk];exact⟨hg,fun m _ hm=>ho m hm,rfl⟩,h⟩
theorem zK{Q:(Nat->EV)->List PO->Prop}{fr:Nat->EV}{mem:List PO}{o:Oper}(hk:hows k=.here)(hg:qe ops fr o=some true)(ho:OpY P G fr mem o e)
  (h:wt P G ops C hows Q (k+1) rest (qc fr o.dst e) mem):wt P G ops C hows Q k (o::rest) fr mem:=⟨e,mem,by rw[hk];exact⟨hg,ho,rfl⟩,h⟩
theorem qw{Q:(Nat->EV)->List PO->Prop}{fr:Nat->EV}{mem:List PO}{o:Oper}(hk:hows k=.writes)(hg:o.guard=none)(ho:OpB P G fr mem o e mem')(hC:C mem')
  (h:wt P G ops C hows Q (k+1) rest (qc fr o.dst e) mem'):wt P G ops C hows Q k (o::rest) fr mem:=⟨e,mem',by rw[hk];exact⟨hg,ho,hC⟩,h⟩
theorem ku{Q:(Nat->EV)->List PO->Prop}{l:Nat}{fr:Nat->EV}{mem:List PO}{o:Oper}{x:PO}(hk:hows k=.own l)(hg:o.guard=none)(ho:∀m:List PO,m[l]?=mem[l]?->C m->OpB P G fr m o e (m.set l x)/\C (m.set l x))
  (h:wt P G ops C hows Q (k+1) rest (qc fr o.dst e) (mem.set l x)):wt P G ops C hows Q k (o::rest) fr mem:=⟨e,mem.set l x,by rw[hk];exact⟨hg,x,rfl,fun m ha=>ho m (ha l (zL1 ..))⟩,h⟩
theorem KL{Q:(Nat->EV)->List PO->Prop}{fr:Nat->EV}{mem:List PO}{o:Oper}(R:List Nat)(hk:hows k=.grow R n)(hg:o.guard=none)(hn:mem.length=n)(hC:∀m,C m)
  (ho:∀m:List PO,m.length=n->Agree R m mem->OpB P G fr m o e (m++xs)) (h:wt P G ops C hows Q (k+1) rest (qc fr o.dst e) (mem++xs)):wt P G ops C hows Q k (o::rest) fr mem:=⟨e,mem++xs,by rw[hk];exact⟨hg,xs,rfl,hn,fun m hm ha _=>⟨ho m hm ha,hC _⟩⟩,h⟩
theorem wX{Q:(Nat->EV)->List PO->Prop}{fr:Nat->EV}{mem:List PO}{o:Oper}(R:List Nat)(hk:hows k=.rd R)(hg:qe ops fr o=some true)(ho:∀m,Agree R m mem->C m->OpY P G fr m o e)
  (h:wt P G ops C hows Q (k+1) rest (qc fr o.dst e) mem):wt P G ops C hows Q k (o::rest) fr mem:=⟨e,mem,by rw[hk];exact⟨hg,ho,rfl⟩,h⟩
theorem Dm{Q:(Nat->EV)->List PO->Prop}{fr:Nat->EV}{mem:List PO}{o:Oper}{x:PO}(R:List Nat)(l:Nat)(hk:hows k=.rw R l)(hg:o.guard=none)(hC:∀m,C m)
  (ho:∀m:List PO,Agree (l::R) m mem->OpB P G fr m o e (m.set l x)) (h:wt P G ops C hows Q (k+1) rest (qc fr o.dst e) (mem.set l x)):wt P G ops C hows Q k (o::rest) fr mem:=⟨e,mem.set l x,by rw[hk];exact⟨hg,x,rfl,fun m ha _=>⟨ho m ha,hC _⟩⟩,h⟩
theorem zz{fr:Nat->EV}{mem:List PO}{o:Oper}{p x:Operand}{r cells:List EV}(ho:o.op=.store T p x)(hd:o.dst=none)(hp:evO fr p=.pp k n i j)(hm:mem[k]?=some (.row rows))(hn:rows.length=n)
  (hr:rows[i]?=some r) (hx:qn mem (evO fr x) cells) (ht:zS P T agg size=true) (hsz:cells.length=size) (hl:Nat.ble (j+size) r.length=true):OpB P G fr mem o j6 (mem.set k (.row (rows.set i (putCells r j cells)))):=fun N fr2 he _=>by
 have h:=zp (P:=P) (G:=G) (st:=⟨N,fr2,mem⟩) (o:=o) ho hd ((he p (by simp[ho,Op.operands])).trans hp) hm hn hr (by simp only;rw[he x (by simp[ho,Op.operands])];exact hx) ht hsz (zLb hl);rw[hd];exact h
theorem qz{fr:Nat->EV}{mem:List PO}{o:Oper}{E:TypeId}{s x:Operand}{ns:List (List EV)}{bytes:Nat}(ho:o.op=.call {callee:=.builtin .append,args:=#[s,x],argTypes:=#[T,T]})
  (hs:evO fr s=.psl k n) (hm:mem[k]?=some (.row rows)) (hn:rows.length=n) (hx:CS mem (evO fr x) ns) (ht:qN P T E size bytes) (hs1:∀r∈rows,r.length=size) (hs2:∀r∈ns,r.length=size)
  (hby:(n+ns.length)*bytes<=140737488355328) (hmax:n+ns.length<=maxLen):OpB P G fr mem o (.psl k (n+ns.length)) (mem.set k (.row (rows++ns))):=fun N fr2 he hd=>
 wn (P:=P) (G:=G) (st:=⟨N,fr2,mem⟩) ho hd ((he s (by simp[ho,Op.operands,Call.operands])).trans hs) hm hn (by simp only;rw[he x (by simp[ho,Op.operands,Call.operands])];exact hx) ht hs1 hs2 hby hmax
variable{r:Option Nat}{st:ASt}{l:List Oper}{Q:Exit->ASt->Prop}
theorem fJ{o1 om o2:Oper}{d:Tmp}{x:Operand}{c:Value}(g1:o1.guard.isNone=true)(gm:om.guard.isNone=true)(g2:o2.guard.isNone=true)(h1:o1.op=.alloc T)(hd1:o1.dst=some d)(hd:qB o1 st.n=true)
  (hdm:qB om st.n=true) (hsep:(match om.dst with|some e=>Nat.beq e d|none=>true)=false) (hom:OpY P G st.fr st.mem om (.pub (.v c))) (hopm:(om.op.operands.toList.any fun y=>match y with| .tmp t=>Nat.beq t d|_=>false)=false)
  (h2:o2.op=.store T (.tmp d) x) (hd2:o2.dst=none) (hz:(P.info? T).bind (·.zero)=some z) (ht:zS P T agg size=true) (hzs:z.cells.size=size) (hcl:cs.length=size)
  (hx:qn st.mem (evO st.fr x) (cs.map .pub)) (hne:(match x with| .tmp t=>Nat.beq t d||(match om.dst with|some e=>Nat.beq t e|none=>false)|_=>false)=false)
  (h:qq (r:=r) P G ops l ⟨st.n,qc (qc st.fr om.dst (.pub (.v c))) (some d) (.pub (.ptr cs)),st.mem⟩ Q):qq (r:=r) P G ops (o1::om::o2::l) st Q:=by
 intro w0 ok0 a w hG hok ⟨c0,c1,c2,ok,bs,c3,c4,c5,c6⟩;obtain⟨us,u1,u2,u3⟩:=kc (qg (fr:=st.fr) (a:=a) (x:=x) fun t _=>c6.1 t) hx;have hul:us.length=size:=by rw[u3.length];simpa using hcl
 have hdl:d<st.n.n:=jN hd d hd1
 have hrun1:(execOp a.eval o1).run P w=.ok (.value (.pointer (some ⟨w.heap.size,0,none⟩))) (w.alloc (.cells z.cells T)):=by
  cases hi:P.info? T with
  |none=>simp[hi]at hz
  |some i=>
   have hz':i.zero=some z:=by simpa[hi]using hz
   simp[execOp,h1,Instr.alloc,zeroValue,typeInfo,hi,hz',newVar,newRow]
 refine wpListIn_plain (by simpa using g1) fun K hK=>jR (by rw[h1];simp)<|qx hrun1 (hK _ _ ?_);rw[hd1]
 have hev:∀y:Operand,y≠ .tmp d->(a.put (some d) (.pointer (some ⟨w.heap.size,0,none⟩))).eval y=a.eval y:=fun y hy=>by
  cases y with
  |tmp t=>
   have:t≠d:=fun e=>hy (by rw[e]);simp only[Act.eval,Act.put,jy];simp[this]
  |_=>rfl
 have hbel1:=qu w (.cells z.cells T);have hG1:G.holds (w.alloc (.cells z.cells T)):=G.stable _ _ (G.stable _ _ hG c2) hbel1;refine wpListIn_plain (by simpa using gm) fun K hK=>jR (xR hdm) ?_;refine hom w0.heap.size (okN ok w (w.alloc (.cells z.cells T))) bs (w.alloc (.cells z.cells T)) _ hG1 (zL6 c2.size sI) (c5.grow hbel1) (fun y hy=>?_) K _ (fun u w2 hb2 hf2=>hK _ _ ?_)
 ·rw[hev y (fun e=>by
   subst e;rw[List.any_eq_false]at hopm;have:=hopm (.tmp d) (by simpa using hy);simp at this)]
  exact(qg fun t _=>c6.1 t).grow c5.lt hbel1
 ·have hsz1:w.heap.size<w2.heap.size:=by have:=hb2.size;simp at this;omega
  have hcell:w2.heap[w.heap.size]?=some (.cells z.cells T (0,0)):=by rw[hb2.block _ sI];exact heap_alloc_new w _
  obtain⟨cur',r1,r2,r3⟩:=yX (P:=P) w.heap.size 0 T z.cells us w2 hcell (.inl rfl) oM u2
  have hxe:((a.put (some d) (.pointer (some ⟨w.heap.size,0,none⟩))).put om.dst u).eval x=a.eval x:=by
   cases x with
   |tmp t=>
    simp only[Bool.or_eq_false_iff]at hne;have e1:t≠d:=fun e=>by subst e;simp at hne
    have e2:∀e,om.dst=some e->t≠e:=fun e he h=>by subst h;rw[he]at hne;simp at hne
    cases hod:om.dst with
    |none=>
     show((a.put (some d) _).tmps).getD t undef=_;simp only[Act.put,jy];simp[e1,Act.eval]
    |some e=>
     have h3:=e2 e hod;show(((a.put (some d) _).put (some e) u).tmps).getD t undef=_;simp only[Act.put,jy];simp[e1,h3,Act.eval]
   |const y=>cases om.dst<;>rfl
   |global y=>cases om.dst<;>rfl
   |func y=>cases om.dst<;>rfl
  have hpv:((a.put (some d) (.pointer (some ⟨w.heap.size,0,none⟩))).put om.dst u).eval (.tmp d)=.pointer (some ⟨w.heap.size,0,none⟩):=by
   have hlt:d<a.tmps.size:=by rw[c0];exact hdl
   cases hod:om.dst with
   |none=>simp[Act.eval,Act.put,hlt]
   |some e=>
    rw[hod]at hsep;have hne':d≠e:=fun h=>by subst h;simp at hsep
    show(((a.put (some d) _).put (some e) u).tmps).getD d undef=_;simp only[Act.put,jy];simp[hne',hlt]
  have hrun2:(execOp ((a.put (some d) (.pointer (some ⟨w.heap.size,0,none⟩))).put om.dst u).eval o2).run P w2=.ok .skip (w2.setRow w.heap.size cur'):=by
   simp only[execOp,h2,hpv,hxe,Instr.storeAt,Instr.sureAddr,Sem.run_bind,Sem.run_pure,Result.andThen_ok,storeVar,aj ht,u1];simp[hul,r1]
  refine wpListIn_plain (by simpa using g2) fun K hK=>?_;refine jR (by rw[h2];simp) ?_;unfold Oper.wp;rw[hrun2];simp only[Oper.upon];refine hK _ _ ?_;have hpn:∀b:Act,b.put o2.dst undef=b:=fun b=>by rw[hd2];rfl
  rw[hpn];have hheap:(w2.setRow w.heap.size cur').heap[w.heap.size]?=some (.cells cur' T (0,0)):=setRow_heap _ _ _ _ T _ hcell
  have hbel:Below w.heap.size w (w2.setRow w.heap.size cur'):=⟨hb2.os,hb2.tape,hb2.output,by simp;omega,fun k hk=>by
   rw[setRow_other _ _ k _ oM,hb2.block k (by simp;omega)];exact heap_alloc_old w _ hk⟩
  have hbel2:∀k,k<w2.heap.size->k≠w.heap.size->(w2.setRow w.heap.size cur').heap[k]?=w2.heap[k]?:=fun k hk hne=>setRow_other _ _ k _ hne;refine h w0 ok0 _ _ hG hok ?_
  have hcs:FitsE (okN ok w (w2.setRow w.heap.size cur')) (w2.setRow w.heap.size cur') bs st.mem (.pub (.ptr cs)) (.pointer (some ⟨w.heap.size,0,none⟩)):=by
   simp only[FitsE,Fits];refine⟨w.heap.size,0,Y,.inr ⟨zLl _,by simp;omega⟩,FitsC.of_get fun i y hy=>?_⟩;obtain⟨v,e1,e2⟩:=(FitsEL.pub.1 u3).get hy;refine⟨v,?_,u2 v (zLo e1),e2.mono (fun b hb=>.inl hb) (fun b hb=>hbel.block b (c5.lt b hb))⟩
   rw[cell_of_row _ _ _ cur' T _ hheap,r3,zLc (by
    have:=(zLg e1).1;omega)]
   simpa using e1
  refine⟨by simp[size_put,c0],Nod.put (Nod.put c1 (.of_below hbel) (show DOK (some d) st.n from hd1▸zo hd)) (.refl _) (zo hdm),q9 c2 c2.size hbel,okN ok w (w2.setRow w.heap.size cur'),bs,fun b hb=>.inl (c3 b hb),fun b hb=>?_,c5.grow hbel,fun t=>?_,fun p hp=>(c6.2 p hp).grow c5.lt hbel⟩
  ·rcases hb with hb|hb
   ·exact c4 b hb
   ·exact .inr (zL6 c2.size hb.1)
  ·simp only[vi]
   by_cases htd:t=d
   ·subst htd;simp only[if_true];have:=hpv;simp only[Act.eval]at this;rw[this];exact hcs
   ·simp only[zLy htd];cases hod:om.dst with
    |none=>
     simp only[qc,Act.put,jy];simp only[htd,false_and,if_false];exact(c6.1 t).grow c5.lt hbel
    |some e=>
     simp only[vi,Act.put,jy]
     by_cases hte:t=e
     ·subst hte;have hlt:t<a.tmps.size:=by rw[c0];exact jN hdm t hod
      simp only[if_true];rw[zLc (by simpa using hlt)];simpa only[FitsE,Fits]using hf2
     ·simp only[hte,htd,false_and,if_false];exact(c6.1 t).grow c5.lt hbel
variable{fr:Nat->EV}{mem:List PO}{o:Oper}
theorem qm{x:Operand}{p:Int}(ho:o.op=.indexAddr T x y)(hx:evO fr x=.pub (.ptr cs))(hy:evO fr y=I p)
  (ht:vy P T n size=true) (hp:0<=p) (hlt:p<(n:Int)):OpY P G fr mem o (.pub (.ptr (cs.drop (p.toNat*size)))):=
 qb fun ok bs w a _ _ hfit=>by
  have h:=hfit x (by simp[ho,Op.operands]);have h2:=wH (hfit y (by simp[ho,Op.operands])) hy;rw[hx]at h;simp only[FitsE,Fits]at h;obtain⟨b,off,e,hb,hc⟩:=h;obtain⟨el,he,hs⟩:=nv ht;have hin:0<=p/\p<(n:Int):=⟨hp,hlt⟩;refine⟨.pointer (some ⟨b,off+p.toNat*size,none⟩),?_,?_⟩
  ·simp[execOp,ho,e,h2,Instr.indexAt,Instr.sureAddr,asIntOf,run_underlying he,hin,hs,Addr.add_lit]
  ·simp only[FitsE,Fits];exact⟨b,_,Y,hb,hc.drop _⟩
theorem zy{x:Operand}{p:Int}{l m:Nat}(ho:o.op=.indexAddr T x y)(hx:evO fr x=.pp l m i j)(hy:evO fr y=I p)(hm:mem[l]?=some (.row rows))(hn:rows.length=m)
  (ht:vy P T n size=true) (hp:0<=p) (hlt:p<(n:Int)):OpY P G fr mem o (.pp l m i (j+p.toNat*size)):=
 qb fun ok bs w a _ _ hfit=>by
  have h:=hfit x (by simp[ho,Op.operands]);have h2:=wH (hfit y (by simp[ho,Op.operands])) hy;rw[hx]at h;simp only[FitsE]at h;obtain⟨b,hb,h⟩:=h;obtain⟨h3,h4⟩:=h rows hm;obtain⟨g,hg,e⟩:=h4 hn;obtain⟨el,he,hs⟩:=nv ht;have hin:0<=p/\p<(n:Int):=⟨hp,hlt⟩;refine⟨.pointer (some ⟨g,i*b.size+j+p.toNat*size,none⟩),?_,?_⟩
  ·simp[execOp,ho,e,h2,Instr.indexAt,Instr.sureAddr,asIntOf,run_underlying he,hin,hs,Addr.add_lit]
  ·simp only[FitsE];refine⟨b,hb,fun rows' hm'=>?_⟩;rw[hm]at hm';injection hm' with hm'
   injection hm' with hm'
   subst hm';exact⟨h3,fun _=>⟨g,hg,by simp[Nat.add_assoc]⟩⟩
theorem cV{r:List EV}(hm:mem[k]?=some (.row rows))(hr:rows[i]?=some r)(hx:r[j]?=some (.pub (.v (.slice none 0 0)))):
  Weak ⟨n,fr,mem⟩ ⟨n,fr,mem.set k (.row (rows.set i (r.set j (.psl mem.length 0))))++[.row []]⟩:=by
 intro w0 ok0 a w ⟨h0,h1,h2,ok,bs,h3,h4,h5,h6⟩;have hlen:=h5.len;simp only at hlen h5 h6;have hkm:k<mem.length:=(zLg hm).1;have hi:i<rows.length:=(zLg hr).1;have hj:j<r.length:=(zLg hx).1;let mem':=mem.set k (.row (rows.set i (r.set j (.psl mem.length 0))))++[.row []];let nb:PB:=⟨none,0,0,0⟩
 have hgetO:∀(l:Nat)(o:PO),mem'[l]?=some o->(l=mem.length/\o=.row [])∨(l=k/\o=.row (rows.set i (r.set j (.psl mem.length 0))))∨(l≠k/\l<mem.length/\mem[l]?=some o):=fun l rs h=>by
  rcases Nat.lt_or_ge l mem.length with hl|hl
  ·have h':(mem.set k (.row (rows.set i (r.set j (.psl mem.length 0)))))[l]?=some rs:=by
    rw[←h];exact(zLf (by simpa using hl)).symm
   by_cases hlk:k=l
   ·subst hlk;rw[zLi hkm]at h';injection h' with h'
    exact .inr (.inl ⟨Y,h'.symm⟩)
   ·rw[zLn hlk]at h';exact .inr (.inr ⟨fun e=>hlk e.symm,hl,h'⟩)
  ·have h':([.row []]:List PO)[l-mem.length]?=some rs:=by
    rw[←h];have:=zL4 (l₁:=mem.set k (.row (rows.set i (r.set j (.psl mem.length 0))))) (l₂:=[PO.row []]) (by simpa using hl);simp only[zL2]at this;exact this.symm
   have h0:l-mem.length=0:=by have:=(zLg h').1;simpa using this
   rw[h0]at h';simp at h';exact .inl ⟨oM,by simpa using h'.symm⟩
 have hget:∀(l:Nat)(rs:List (List EV)),mem'[l]?=some (.row rs)->(l=mem.length/\rs=[])∨(l=k/\rs=rows.set i (r.set j (.psl mem.length 0)))∨(l≠k/\l<mem.length/\mem[l]?=some (.row rs)):=fun l rs h=>by
  rcases hgetO l _ h with⟨h1,h2⟩|⟨h1,h2⟩|h1
  ·injection h2 with h2;exact .inl ⟨h1,h2⟩
  ·injection h2 with h2;exact .inr (.inl ⟨h1,h2⟩)
  ·exact .inr (.inr h1)
 have hgetM:∀(l:Nat)(es:List (Value × EV)),mem'[l]?=some (.map es)->l<mem.length/\mem[l]?=some (.map es):=fun l es h=>by
  rcases hgetO l _ h with⟨h1,h2⟩|⟨h1,h2⟩|h1
  ·cases h2
  ·cases h2
  ·exact h1.2
 have hbs:∀(l:Nat)(b:PB),l<mem.length->(bs++[nb])[l]?=some b->bs[l]?=some b:=fun l b hl h=>by
  rwa[zLf oM]at h
 have ht:Turn bs (bs++[nb]) mem mem':=by
  refine⟨fun l b hb=>?_,fun l b b' es hb hb' h=>?_⟩
  ·have hl:l<bs.length:=(zLg hb).1;refine⟨b,by rw[zLf hl];exact hb,fun rs h=>?_⟩;rcases hget l rs h with⟨h,_⟩|⟨rfl,rfl⟩|⟨_,_,h⟩
   ·omega
   ·exact⟨rows,hm,sI,fun _=>rfl⟩
   ·exact⟨rs,h,zLl _,fun _=>rfl⟩
  ·have hl:l<bs.length:=(zLg hb).1;rw[zLf hl,hb]at hb';injection hb' with hb'
   exact⟨⟨es,(hgetM l es h).2⟩,hb'.symm⟩
 have hf:∀(e:EV)(u:Value),FitsE ok w bs mem e u->FitsE ok w (bs++[nb]) mem' e u:=fun e u h=>h.mono (fun _ hb=>hb) (fun _ _=>rfl) ht;refine⟨h0,h1,h2,ok,bs++[nb],h3,h4,⟨by simp[hlen],h5.lt,fun l b rs hb hrs=>?_,fun l b es hb hes=>?_,fun l b rs g hb hrs ho hg=>?_,fun l l' b b' rs rs' g hb hrs ho hb' hrs' ho' hg hg'=>?_⟩,h6.map hf⟩
 ·rcases hget l rs hrs with⟨rfl,rfl⟩|⟨rfl,rfl⟩|⟨_,hl,h⟩
  ·rw[zL4 oM]at hb;rw[show mem.length-bs.length=0 from oM]at hb;simp at hb;subst hb;exact⟨sI,fun _=>rfl,fun g hg=>by simp[nb]at hg,fun g hg=>by simp[nb]at hg⟩
  ·have hb0:=hbs l b hkm hb;have hrow:=h5.row l b rows hb0 hm;refine⟨fun r' hr'=>?_,fun hn=>by have:=hrow.nil hn;subst this;simp at hi,fun g hg=>by have:=hrow.pos g hg;simpa using this,fun g hg=>?_⟩
   ·rcases List.mem_or_eq_of_mem_set hr' with h|h
    ·exact hrow.size r' h
    ·rw[h,zL2];exact hrow.size r (zLo hr)
   ·obtain⟨cur,c1,c2,c3,c4,c5⟩:=hrow.blk g hg;refine⟨cur,c1,c2,by simpa using c3,c4,fun i' j' r' x' hr' hx'=>?_⟩
    by_cases hii:i=i'
    ·subst hii;rw[zLi hi]at hr';injection hr' with hr'
     subst hr'
     by_cases hjj:j=j'
     ·subst hjj;rw[zLi hj]at hx';injection hx' with hx'
      subst hx';obtain⟨u,d1,d2,d3⟩:=c5 i j r _ hr hx;simp only[FitsE,Fits]at d3;refine⟨u,d1,d2,?_⟩;simp only[FitsE];refine⟨nb,by rw[zL4 oM,show mem.length-bs.length=0 from oM];rfl,fun rs' h'=>?_⟩;rcases hget mem.length rs' h' with⟨_,rfl⟩|⟨h,_⟩|⟨_,h,_⟩
      ·exact⟨zLl _,fun _=>d3.1⟩
      ·omega
      ·omega
     ·rw[zLn hjj]at hx';obtain⟨u,d1,d2,d3⟩:=c5 i j' r x' hr hx';exact⟨u,d1,d2,hf _ _ d3⟩
    ·rw[zLn hii]at hr';obtain⟨u,d1,d2,d3⟩:=c5 i' j' r' x' hr' hx';exact⟨u,d1,d2,hf _ _ d3⟩
  ·have hb0:=hbs l b hl hb;have hrow:=h5.row l b rs hb0 h;refine⟨hrow.size,hrow.nil,hrow.pos,fun g hg=>?_⟩;obtain⟨cur,c1,c2,c3,c4,c5⟩:=hrow.blk g hg;refine⟨cur,c1,c2,c3,c4,fun i' j' r' x' hr' hx'=>?_⟩;obtain⟨u,d1,d2,d3⟩:=c5 i' j' r' x' hr' hx';exact⟨u,d1,d2,hf _ _ d3⟩
 ·obtain⟨hl,h⟩:=hgetM l es hes;obtain⟨g,arr,c1,c2,c3,c4⟩:=h5.mp l b es (hbs l b hl hb) h;refine⟨g,arr,c1,c2,c3,fun i q x hx=>?_⟩;obtain⟨v,d1,d2⟩:=c4 i q x hx;exact⟨v,d1,hf _ _ d2⟩
 ·rcases hgetO l rs hrs with⟨rfl,rfl⟩|⟨rfl,rfl⟩|⟨_,hl,h⟩
  ·rw[zL4 oM,show mem.length-bs.length=0 from oM]at hb;simp at hb;subst hb;simp[nb]at hg
  ·exact h5.own l b rows g (hbs l b hkm hb) hm hg
  ·exact h5.own' l b rs g (hbs l b hl hb) h ho hg
 ·have key:∀(l:Nat)(b:PB)(rs:PO),rs.live=true->(bs++[nb])[l]?=some b->mem'[l]?=some rs->b.blk=some g->∃rs0,bs[l]?=some b/\mem[l]?=some rs0/\rs0.live=true:=fun l b rs ho hb hrs hg=>by
   rcases hgetO l rs hrs with⟨rfl,rfl⟩|⟨rfl,rfl⟩|⟨_,hl,h⟩
   ·rw[zL4 oM,show mem.length-bs.length=0 from oM]at hb;simp at hb;subst hb;simp[nb]at hg
   ·exact⟨_,hbs l b hkm hb,hm,Y⟩
   ·exact⟨rs,hbs l b hl hb,h,ho⟩
  obtain⟨r1,e1,e2,e5⟩:=key l b rs ho hb hrs hg;obtain⟨r2,e3,e4,e6⟩:=key l' b' rs' ho' hb' hrs' hg';exact h5.dist' l l' b b' r1 r2 g e1 e2 e5 e3 e4 e6 hg hg'
theorem qE{n:NS}:Weak ⟨n,fr,mem⟩ ⟨n,fr,mem++[.row []]⟩:=by
 intro w0 ok0 a w ⟨h0,h1,h2,ok,bs,h3,h4,h5,h6⟩;have ht:=Turn.push h5.len ⟨none,0,0,0⟩ (.row [])
 exact⟨h0,h1,h2,ok,bs++[⟨none,0,0,0⟩],h3,h4,h5.push (Below.refl _ _) h2.size ⟨sI,fun _=>rfl,fun g hg=>(by simp at hg),fun g hg=>(by simp at hg)⟩ (fun g hg=>by simp at hg),h6.map fun _ _ h=>
  h.mono (fun _ hb=>hb) (fun _ _=>rfl) ht⟩
theorem B2{l:Nat}(ho:o.op=.alloc T)(hd:qB o st.n=true)(hz:(P.info? T).bind (·.zero)=some z)(hc:z.cells=zs.toArray)(h1:zs.all Value.oneCell'=true)(hm:st.mem[l]?=some (.row [])):
  OpM P G st o ⟨st.n,qc st.fr o.dst (.pp l 1 0 0),st.mem.set l (.row [zs.map fun v=>.pub (.v v)])⟩:=by
 intro w0 ok0 a w hG hok hs K Q hK;obtain⟨h0,h1',h2,ok,bs,h3,h4,h5,h6⟩:=hs;have hlm:l<st.mem.length:=(zLg hm).1;have hlb:l<bs.length:=by rw[h5.len];exact hlm
 have hb:bs[l]?=some bs[l]:=by simp[hlb]
 have hzl:∀v∈zs,v.oneCell'=true:=fun v hv=>by rw[zLu]at h1;exact h1 v hv
 have hturn:=h5.turn (w':=w.alloc (.cells zs.toArray T)) (b':=⟨some w.heap.size,1,T,zs.length⟩) (rows':=[zs.map fun v=>.pub (.v v)]) hb hm (qu w _).size (fun k hk _=>(qu w _).block k hk) sI (fun e=>by simp at e)
  (fun g hg=>by simp at hg;exact .inr (Nat.le_of_eq hg)) h2.size (fun hfit=>by
   refine⟨fun r hr=>?_,fun hn=>(by simp at hn),fun _ _=>sI,fun g hg=>?_⟩
   ·simp at hr;subst hr;simp
   ·simp at hg;subst hg;refine⟨zs.toArray,heap_alloc_new w _,sI,sI,by simp[maxLen],fun i j r x hr hx=>?_⟩;cases i with
    |succ i=>simp at hr
    |zero=>
     simp at hr;subst hr;simp only[zLq,zL7]at hx;obtain⟨v,hv,rfl⟩:=hx;have hv1:=hzl v (zLo hv);exact⟨v,by simpa using hv,hv1,qA hv1⟩)
 refine qx (w':=w.alloc (.cells zs.toArray T)) (u:=.pointer (some ⟨w.heap.size,0,none⟩)) ?_ (hK _ _ ⟨(size_put ..).trans h0,h1'.put (.of_below (qu w _)) (zo hd),q9 h2 h2.size (qu w _),ok,_,h3,h4,hturn.1,?_⟩)
 ·cases hi:P.info? T with
  |none=>simp[hi]at hz
  |some i=>
   have hz':i.zero=some z:=by simpa[hi]using hz
   simp[execOp,ho,Instr.alloc,zeroValue,typeInfo,hi,hz',newVar,newRow,hc]
 ·refine qP (h6.map hturn.2) ?_ (fun d hdd=>by rw[h0];exact jN hd d hdd);simp only[FitsE];refine⟨⟨some w.heap.size,1,T,zs.length⟩,by simp[hlb],fun rows hr=>?_⟩;simp[hlm]at hr;subst hr;simp
theorem qX{fr:Nat->EV}{l:Nat}(ho:o.op=.alloc T)(hz:(P.info? T).bind (·.zero)=some z)(hc:z.cells=zs.toArray)(h1:zs.all Value.oneCell'=true)(hm:mem[l]?=some (.row [])):
  ∀m:List PO,m[l]?=mem[l]?->True->OpB P G fr m o (.pp l 1 0 0) (m.set l (.row [zs.map fun v=>.pub (.v v)]))/\True:=fun m hml _=>
 ⟨fun N fr2 _ hd=>B2 (P:=P) (G:=G) (st:=⟨N,fr2,m⟩) ho hd hz hc h1 (hml.trans hm),trivial⟩
theorem kg{n:NS}{fr:Nat->EV}{m c:Nat}{rows:List (List AV)}{R:List (List EV)}{r:List EV}(hm:mem[k]?=some (.row (rows.map (·.map .pub))))(hn:rows.length=m)
  (hc:mem[c]?=some (.row R)) (hri:R[i]?=some r) (hx:r[j]?=some (.psl k m)) (hck:Nat.beq c k=false):
  Weak ⟨n,fr,mem⟩ ⟨n,fr,(mem.set k .dead).set c (.row (R.set i (r.set j (.pub (.sl rows)))))⟩:=by
 intro w0 ok0 a w ⟨h0,h1,h2,ok,bs,h3,h4,h5,h6⟩;have hck:c≠k:=Nat.ne_of_beq_eq_false hck;have hkm:k<mem.length:=(zLg hm).1;have hcm:c<mem.length:=(zLg hc).1;have hi:i<R.length:=(zLg hri).1;have hj:j<r.length:=(zLg hx).1;have hlen:=h5.len;simp only at hlen h5 h6;have hkb:k<bs.length:=oM;have hb:bs[k]?=some bs[k]:=zLe hkb;let mem':List PO:=(mem.set k .dead).set c (.row (R.set i (r.set j (.pub (.sl rows)))))
 have getO:∀(l:Nat)(rs:PO),rs.live=true->mem'[l]?=some rs->(l=c/\rs=.row (R.set i (r.set j (.pub (.sl rows)))))∨(l≠c/\l≠k/\mem[l]?=some rs):=fun l rs ho h=>by
  by_cases hl:c=l
  ·subst hl;have h':mem'[c]?=some (.row (R.set i (r.set j (.pub (.sl rows))))):=zLi (by simpa using hcm);rw[h']at h;injection h with h
   exact .inl ⟨Y,h.symm⟩
  ·have h':mem'[l]?=(mem.set k .dead)[l]?:=zLn hl;rw[h']at h
   by_cases hl2:k=l
   ·subst hl2;rw[zLi hkm]at h;injection h with h;subst h;cases ho
   ·rw[zLn hl2]at h;exact .inr ⟨fun e=>hl e.symm,fun e=>hl2 e.symm,h⟩
 have get:∀(l:Nat)(rs:List (List EV)),mem'[l]?=some (.row rs)->(l=c/\rs=R.set i (r.set j (.pub (.sl rows))))∨(l≠c/\l≠k/\mem[l]?=some (.row rs)):=fun l rs h=>by
  rcases getO l _ rfl h with⟨h1,h2⟩|h1
  ·injection h2 with h2;exact .inl ⟨h1,h2⟩
  ·exact .inr h1
 have getM:∀(l:Nat)(es:List (Value × EV)),mem'[l]?=some (.map es)->mem[l]?=some (.map es):=fun l es h=>by
  rcases getO l _ rfl h with⟨h1,h2⟩|h1
  ·cases h2
  ·exact h1.2.2
 have ht:Turn bs bs mem mem':=by
  refine⟨fun l b0 hb0=>⟨b0,hb0,fun rows' hr=>?_⟩,fun l b0 b1 es h0 h1 h=>?_⟩
  ·rcases get l rows' hr with⟨rfl,rfl⟩|⟨_,_,h⟩
   ·exact⟨R,hc,sI,fun _=>rfl⟩
   ·exact⟨rows',h,zLl _,fun _=>rfl⟩
  ·rw[h0]at h1;injection h1 with h1
   exact⟨⟨es,getM l es h⟩,h1.symm⟩
 let ok':Nat->Prop:=fun b=>ok b∨bs[k].blk=some b;have hk:∀b,ok b->ok' b:=fun b hb=>.inl hb;have hf:∀(e:EV)(u:Value),FitsE ok w bs mem e u->FitsE ok' w bs mem' e u:=fun e u h=>h.mono hk (fun _ _=>rfl) ht
 have hpub:∀u:Value,FitsE ok w bs mem (.psl k m) u->FitsE ok' w bs mem' (.pub (.sl rows)) u:=fun u hf0=>by
  simp only[FitsE]at hf0⊢;obtain⟨b,hb',hf1⟩:=hf0;rw[hb]at hb';injection hb' with hb'
  subst hb';have e:=(hf1 _ hm).2 (by simpa using hn);have hr:=h5.row k _ _ hb hm;simp only[Fits];cases hg:bs[k].blk with
  |none=>
   have h7:=hr.nil hg;have h8:rows=[]:=by simpa using h7
   subst h8;simp only[PB.sl,hg]at e;exact⟨none,0,0,by rw[e];rfl,sI,by simp[maxLen],sI,sI⟩
  |some g=>
   obtain⟨cur,c1,c2,c3,c4,c5⟩:=hr.blk g hg;simp only[PB.sl,hg]at e
   have hsz:∀q∈rows,q.length=bs[k].size:=fun q hq=>by
    have:=hr.size (q.map .pub) (List.mem_map_of_mem hq);simpa using this
   refine⟨_,bs[k].cap,bs[k].size,by rw[hn];exact e,by simpa using c3,c4,hsz,fun _=>⟨g,0,Y,.inr hg,FitsR.of_get hsz fun i' q hqi=>FitsC.of_get fun j' x hx'=>?_⟩⟩;obtain⟨u',d1,d2,d3⟩:=c5 i' j' (q.map .pub) (.pub x) (by simp[hqi]) (by simp[hx']);refine⟨u',?_,d2,?_⟩
   ·rw[cell_of_row w g _ cur _ _ c1];simpa using d1
   ·simp only[FitsE]at d3;exact d3.mono hk (fun _ _=>rfl)
 have key:∀(l:Nat)(rs:PO),rs.live=true->mem'[l]?=some rs->l≠k/\∃rs0,mem[l]?=some rs0/\rs0.live=true:=fun l rs ho h=>by
  rcases getO l rs ho h with⟨rfl,rfl⟩|⟨_,h1,h2⟩
  ·exact⟨hck,_,hc,Y⟩
  ·exact⟨h1,rs,h2,ho⟩
 refine⟨h0,h1,h2,ok',bs,fun b hb=>.inl (h3 b hb),fun b hb'=>?_,⟨by simpa using hlen,fun b hb'=>?_,fun l b rs hb' hrs=>?_,fun l b es hb' hes=>?_,fun l b rs g hb' hrs ho hg=>?_,fun l l' b b' rs rs' g hb1 hr1 ho1 hb2 hr2 ho2 hg1 hg2=>?_⟩,h6.map hf⟩
 ·rcases hb' with h|h
  ·exact h4 b h
  ·exact .inr (h5.own k _ _ b hb hm h).1
 ·rcases hb' with h|h
  ·exact h5.lt b h
  ·exact h5.own_lt hb hm h
 ·rcases get l rs hrs with⟨rfl,rfl⟩|⟨_,_,h⟩
  ·have hrow:=h5.row l b R hb' hc;refine⟨fun r' hr'=>?_,fun hn'=>by have:=hrow.nil hn';subst this;simp at hi,fun g hg=>by have:=hrow.pos g hg;simpa using this,fun g hg=>?_⟩
   ·rcases List.mem_or_eq_of_mem_set hr' with h|h
    ·exact hrow.size r' h
    ·rw[h,zL2];exact hrow.size r (zLo hri)
   ·obtain⟨cur,c1,c2,c3,c4,c5⟩:=hrow.blk g hg;refine⟨cur,c1,c2,by simpa using c3,c4,fun i' j' r' x' hr' hx'=>?_⟩
    by_cases hii:i=i'
    ·subst hii;rw[zLi hi]at hr';injection hr' with hr'
     subst hr'
     by_cases hjj:j=j'
     ·subst hjj;rw[zLi hj]at hx';injection hx' with hx'
      subst hx';obtain⟨u,d1,d2,d3⟩:=c5 i j r _ hri hx;exact⟨u,d1,d2,hpub u d3⟩
     ·rw[zLn hjj]at hx';obtain⟨u,d1,d2,d3⟩:=c5 i j' r x' hri hx';exact⟨u,d1,d2,hf _ _ d3⟩
    ·rw[zLn hii]at hr';obtain⟨u,d1,d2,d3⟩:=c5 i' j' r' x' hr' hx';exact⟨u,d1,d2,hf _ _ d3⟩
  ·have hrow:=h5.row l b rs hb' h;refine⟨hrow.size,hrow.nil,hrow.pos,fun g hg=>?_⟩;obtain⟨cur,c1,c2,c3,c4,c5⟩:=hrow.blk g hg;refine⟨cur,c1,c2,c3,c4,fun i' j' r' x' hr' hx'=>?_⟩;obtain⟨u,d1,d2,d3⟩:=c5 i' j' r' x' hr' hx';exact⟨u,d1,d2,hf _ _ d3⟩
 ·obtain⟨g,arr,c1,c2,c3,c4⟩:=h5.mp l b es hb' (getM l es hes);refine⟨g,arr,c1,c2,c3,fun i q x hx=>?_⟩;obtain⟨v,d1,d2⟩:=c4 i q x hx;exact⟨v,d1,hf _ _ d2⟩
 ·obtain⟨hne,rs0,hrs0,ho0⟩:=key l rs ho hrs;obtain⟨e1,e2⟩:=h5.own' l b rs0 g hb' hrs0 ho0 hg;refine⟨e1,fun h=>?_⟩;rcases h with h|h
  ·exact e2 h
  ·exact hne (h5.dist' l k b _ rs0 _ g hb' hrs0 ho0 hb hm Y hg h)
 ·obtain⟨_,x1,y1,z1⟩:=key l rs ho1 hr1;obtain⟨_,x2,y2,z2⟩:=key l' rs' ho2 hr2;exact h5.dist' l l' b b' x1 x2 g hb1 y1 z1 hb2 y2 z2 hg1 hg2
end
inductive Ph where
 |on (k:Nat)
 |off (k:Nat)
structure Cx(P:Program)(G:Glob) where
 l:Nat
 qs:List (List AV)
 J:Ph->(Nat->Prop)->World->Prop
 okS:Nat->Prop
 lt:∀p M W,J p M W->∀x,M x->x<W.heap.size
 up:∀p M W x,J p M W->W.heap.size<=x->okS x
 abides:∀p M W W',J p M W->Below W.heap.size W W'->J p M W'
 round:∀(k:Nat)(M:Nat->Prop)(W:World)(ok:Nat->Prop)(us:List Value)(q:List AV)(gh:List (AV × Value)),qs[k]?=some q->J (.on k) M W->G.holds W->
  (∀x,ok x->x<W.heap.size/\¬M x/\okS x)->FitsL ok W q us->(∀p∈gh,Fits ok W p.1 p.2)->
  ∃fn tmps assign body,(Instr.yield l us.toArray).run P W=.ok (.round l fn tmps assign body) W/\
   RoundIn (FW none) 0 P l fn tmps assign body W (fun e W'=>∃(b:Bool)(M' ok':Nat->Prop),e=.returned (.bool b)/\J (if b then .on (k+1)else .off k) M' W'/\G.holds W'/\
    (∀x,ok' x->x<W'.heap.size/\¬M' x/\okS x)/\∀p∈gh,Fits ok' W' p.1 p.2)
section
variable{P:Program}{G:Glob}(C:Cx P G)
def Cx.At(ph:Ph)(w0:World)(ok0:Nat->Prop):Prop:=∃M,C.J ph M w0/\G.holds w0/\∀x,ok0 x->x<w0.heap.size/\¬M x/\C.okS x
def Cx.lift(Q:Exit->Ph->ASt->Prop):Exit->Act->World->Prop:=fun e a w=>∃ph w0 ok0 st,C.At ph w0 ok0/\Sit w0 ok0 st a w/\Q e ph st
def jH(c:Code)(ph:Ph)(st:ASt)(Q:Exit->Ph->ASt->Prop):Prop:=
 ∀(w0:World)(ok0:Nat->Prop)(a:Act)(w:World),C.At ph w0 ok0->Sit w0 ok0 st a w->c.wpIn (FW none) 0 P (C.lift Q) a w
def yL(ops:Array Oper)(l:List Oper)(ph:Ph)(st:ASt)(Q:Exit->Ph->ASt->Prop):Prop:=
 ∀(w0:World)(ok0:Nat->Prop)(a:Act)(w:World),C.At ph w0 ok0->Sit w0 ok0 st a w->wpListIn (FW none) 0 P ops (C.lift Q) l a w
end
section
variable{P:Program}{G:Glob}{C:Cx P G}{ph:Ph}{st st':ASt}{Q:Exit->Ph->ASt->Prop}{ops:Array Oper}{l:List Oper}{o:Oper}
variable{w w0:World}{ok0:Nat->Prop}{c:Code}{id:Nat}{K:Ph->ASt->Prop}
theorem Cx.At.ok(h:C.At ph w0 ok0):∀b,ok0 b->b<w0.heap.size:=fun b hb=>by
 obtain⟨M,_,_,h3⟩:=h;exact(h3 b hb).1
theorem Cx.At.g(h:C.At ph w0 ok0):G.holds w0:=by obtain⟨M,_,h2,_⟩:=h;exact h2
theorem jK(h:qp (r:=none) P G c st (fun e s=>Q e ph s)):jH C c ph st Q:=fun w0 ok0 a w hc hs=>
 wpIn_mono (h w0 ok0 a w hc.g hc.ok hs) fun _ _ _⟨s,hs',hq⟩=>⟨ph,w0,ok0,s,hc,hs',hq⟩
theorem wQ(h:Q .normal ph st):jH C .skip ph st Q:=fun _ _ _ _ hc hs=>wpIn_skip ⟨_,_,_,st,hc,hs,h⟩
theorem mq(h:Q .ret ph st):jH C .ret ph st Q:=fun _ _ _ _ hc hs=>wpIn_ret ⟨_,_,_,st,hc,hs,h⟩
theorem bI(h:Q (.exit id) ph st):jH C (.exit id) ph st Q:=fun _ _ _ _ hc hs=>wpIn_exit ⟨_,_,_,st,hc,hs,h⟩
def oN(K:Ph->ASt->Prop)(Q:Exit->Ph->ASt->Prop):Exit->Ph->ASt->Prop
 | .normal,p,s=>K p s
 |e,p,s=>Q e p s
theorem zV(h:K ph st):oN K Q .normal ph st:=h
theorem yK(h:Q .ret ph st):oN K Q .ret ph st:=h
theorem vj(h:Q (.exit id) ph st):oN K Q (.exit id) ph st:=h
theorem qH{x y:Code}(h:jH C x ph st (oN (fun p s=>jH C y p s Q) Q)):jH C (.seq x y) ph st Q:=by
 intro w0 ok0 a w hc hs;refine wpIn_seq (wpIn_mono (h w0 ok0 a w hc hs) fun e a' w' ⟨p,w1,ok1,s,hc',hs',hq⟩=>?_);cases e<;>first|exact hq w1 ok1 a' w' hc' hs'|exact⟨p,w1,ok1,s,hc',hs',hq⟩
def aO(id:Nat)(Q:Exit->Ph->ASt->Prop):Exit->Ph->ASt->Prop
 | .exit i,p,s=>if i=id then Q .normal p s else Q (.exit i) p s
 |e,p,s=>Q e p s
theorem vO(h:Q .normal ph st):aO id Q .normal ph st:=h
theorem yR(h:Q .ret ph st):aO id Q .ret ph st:=h
theorem cw(h:Q .normal ph st):aO id Q (.exit id) ph st:=by simpa[aO]using h
theorem wo(h:jH C c ph st (aO id Q)):jH C (.block id c) ph st Q:=by
 intro w0 ok0 a w hc hs;refine wpIn_block (wpIn_mono (h w0 ok0 a w hc hs) fun e a' w' ⟨p,w1,ok1,s,hc',hs',hq⟩=>?_);cases e with
 |exit i=>
  by_cases hi:i=id
  ·simp only[Exit.inBlock,aO,zLc hi]at hq⊢;exact⟨p,w1,ok1,s,hc',hs',hq⟩
  ·simp only[Exit.inBlock,aO,zLy hi]at hq⊢;exact⟨p,w1,ok1,s,hc',hs',hq⟩
 |_=>exact⟨p,w1,ok1,s,hc',hs',hq⟩
theorem jM{c:Operand}{x y:Code}{b:Bool}(hb:evO st.fr c=.pub (.v (.bool b)))(h1:b=true->jH C x ph st Q)(h2:b=false->jH C y ph st Q):jH C (.cond c x y) ph st Q:=by
 intro w0 ok0 a w hc hs;obtain⟨ok,bs,_,_,h5,h6⟩:=hs.ex;have he:=qg (fr:=st.fr) (a:=a) (x:=c) fun t _=>h6.1 t;rw[hb]at he;simp only[FitsE,Fits]at he;cases b with
 |true=>exact wpIn_cond_true he.1 (h1 rfl w0 ok0 a w hc hs)
 |false=>exact wpIn_cond_false he.1 (h2 rfl w0 ok0 a w hc hs)
theorem nM{F:Fence}{n:Nat}{ι:Type}(R:ι->Act->World->Prop)(μ:ι->Nat){Q:Exit->Act->World->Prop}{a:Act}(i0:ι)(h0:R i0 a w)
  (round:∀i a w,R i a w->c.wpIn F n P (Exit.then (fun a' w'=>∃j,μ j<μ i/\R j a' w') Q) a w):(Code.loop c).wpIn F n P Q a w:=by
 have hdec:∀(a:Act)(w:World),Decidable (∃i,R i a w):=fun _ _=>Classical.propDecidable _;have hm:∀(a:Act)(w:World),(∃i,R i a w)->∃n,∃i,R i a w/\μ i=n:=fun a w ⟨i,h⟩=>⟨μ i,i,h,rfl⟩
 have least:∀(p:Nat->Prop),(∃n,p n)->∃n,p n/\∀m,p m->n<=m:=fun p ⟨n,hn⟩=>by
  induction n using Nat.strongRecOn with
  |_ n ih=>
   by_cases h:∃m,m<n/\p m
   ·obtain⟨m,h1,h2⟩:=h;exact ih m h1 h2
   ·exact⟨n,hn,fun m hm=>Nat.le_of_not_lt fun hlt=>h ⟨m,hlt,hm⟩⟩
 let M:Act->World->Nat:=fun a w=>@dite Nat (∃i,R i a w) (hdec a w) (fun h=>Classical.choose (least _ (hm a w h))) (fun _=>0)
 have hM:∀(a:Act)(w:World),(∃i,R i a w)->(∃i,R i a w/\μ i=M a w)/\∀i,R i a w->M a w<=μ i:=fun a w h=>by
  have hs:=Classical.choose_spec (least _ (hm a w h));have e:M a w=Classical.choose (least _ (hm a w h)):=by simp only[M];rw[dif_pos h]
  rw[e];exact⟨hs.1,fun i hi=>hs.2 _ ⟨i,hi,Y⟩⟩
 refine wpIn_loop (fun a w=>∃i,R i a w) M ⟨i0,h0⟩ fun a w hI=>?_;obtain⟨⟨i,hi,hmi⟩,_⟩:=hM a w hI;refine wpIn_mono (round i a w hi) fun e a' w' hq=>?_;cases e<;>try exact hq
 obtain⟨j,hj,hs2⟩:=hq;refine⟨⟨j,hs2⟩,?_⟩;have:=(hM a' w' ⟨j,hs2⟩).2 j hs2;omega
theorem cn{ι:Type}(I:ι->ASt)(p:ι->Ph)(μ:ι->Nat)(i0:ι)(hp:p i0=ph)(h0:Weak st (I i0))
  (round:∀i,jH C c (p i) (I i) (oN (fun q s=>∃j,μ j<μ i/\p j=q/\Weak s (I j)) Q)):jH C (.loop c) ph st Q:=by
 intro w0 ok0 a w hc hs;refine nM (fun i a w=>∃w0 ok0,C.At (p i) w0 ok0/\Sit w0 ok0 (I i) a w) μ i0 ⟨w0,ok0,by rw[hp];exact hc,h0 w0 ok0 a w hs⟩ fun i a w ⟨w1,ok1,hc1,hs1⟩=>?_;refine wpIn_mono (round i w1 ok1 a w hc1 hs1) fun e a' w' ⟨q,w2,ok2,s,hc2,hs2,hq⟩=>?_;cases e<;>try exact⟨q,w2,ok2,s,hc2,hs2,hq⟩
 obtain⟨j,hj,rfl,hw⟩:=hq;exact⟨j,hj,w2,ok2,hc2,hw _ _ _ _ hs2⟩
theorem vT(h:yL C l.toArray l ph st Q):jH C (.region id l.toArray false) ph st Q:=
 fun w0 ok0 a w hc hs=>wpIn_region_lit (h w0 ok0 a w hc hs)
theorem yS(h:Q .normal ph st):yL C ops [] ph st Q:=fun _ _ _ _ hc hs=>⟨_,_,_,st,hc,hs,h⟩
theorem jO{x:EV}(hg:jq o=true)(hd:qB o st.n=true)(ho:OpY P G st.fr st.mem o x)(h:yL C ops l ph ⟨st.n,qc st.fr o.dst x,st.mem⟩ Q):yL C ops (o::l) ph st Q:=by
 intro w0 ok0 a w hc hs;exact wpListIn_plain (j5 hg) fun K hK=>jR (j9 hg)<|(ho.toM (zo hd)) w0 ok0 a w hc.g hc.ok hs K _ fun a' w' hs'=>hK _ _ (h w0 ok0 a' w' hc hs')
theorem je{x:EV}{c:Bool}(hn:jl ops st.n=true)(hg:qe ops st.fr o=some c)(hd:qB o st.n=true)(ho:c=true->OpY P G st.fr st.mem o x)
  (h:yL C ops l ph ⟨st.n,qc st.fr o.dst (if c=true then x else .pub (.tup [])),st.mem⟩ Q):yL C ops (o::l) ph st Q:=by
 intro w0 ok0 a w hc hs;refine wpListIn_step fun K hK=>?_;obtain⟨ok,bs,_,_,h5,h6⟩:=hs.ex;have hw:=vf h6.1 (fun j o t h1 h2=>by rw[hs.size];exact wa hn j o t h1 h2) hg;cases c with
 |true=>
  simp only[if_true]at h;rw[zLc hw];exact jR (xR hd)<|((ho Y).toM (zo hd)) w0 ok0 a w hc.g hc.ok hs K _ fun a' w' hs'=>hK _ _ (h w0 ok0 a' w' hc hs')
 |false=>
  simp only[Bool.false_eq_true,if_false]at h;rw[zLy (by rw[hw];simp)];obtain⟨h0,h1,h2,ok,bs,h3,h4,h5,h6⟩:=hs;exact⟨fun _ _=>trivial,hK _ _ (h w0 ok0 _ w hc (Sit.put h0 h1 h2 h3 h4 h5 h6 (Below.refl _ _) (by simp[FitsE,Fits,FitsL,undef]) (zo hd)))⟩
def yw:EV->AV
 | .pub x=>x
 |_=>.top
def fgt(e:EV):EV:=.pub (yw e)
theorem bq{ok ok':Nat->Prop}{w':World}{bs:List PB}{mem:List PO}{e:EV}(h:FitsE ok w bs mem e undef):Fits ok' w' (yw e) undef:=by
 cases e with
 |pub y=>
  simp only[FitsE]at h;simp only[yw];cases y with
  |top=>simp only[Fits]
  |tup l=>
   simp only[Fits]at h⊢;obtain⟨vs,e,h8⟩:=h;have e':vs=[]:=by simpa[undef]using e.symm
   subst e';refine⟨[],e,?_⟩;cases l with
   |nil=>simp[FitsL]
   |cons=>simp[FitsL]at h8
  |v x=>simpa only[Fits]using h
  |_=>simp[Fits,undef]at h
 |_=>simp only[yw,Fits]
theorem kn{fop:Operand}{args:Array Operand}{tys:Array TypeId}{k:Nat}{q:List AV}{c:Bool}(hn:jl ops st.n=true)(hg:qe ops st.fr o=some c)(hd:qB o st.n=true)
  (ho:o.op=.call {callee:=.value fop,args:=args,argTypes:=tys}) (hf:c=true->evO st.fr fop=.pub (.v (.func (.yield C.l) #[] #[]))) (ha:c=true->args.toList.map (evO st.fr)=q.map .pub) (hq:c=true->C.qs[k]?=some q)
  (hmem:st.mem=[]) (hgh:st.n.gh=[]) (hmk:st.n.mks=false) (hdf:st.n.dfs=[]) (hh:st.n.hold=[])
  (h0:c=false->yL C ops l (.on k) ⟨st.n,qc st.fr o.dst (.pub (.tup [])),[]⟩ Q)
  (h1:c=true->yL C ops l (.on (k+1)) ⟨st.n,qc (fun t=>fgt (st.fr t)) o.dst (B true),[]⟩ Q)
  (h2:c=true->yL C ops l (.off k) ⟨st.n,qc (fun t=>fgt (st.fr t)) o.dst (B false),[]⟩ Q):yL C ops (o::l) (.on k) st Q:=by
 intro w0 ok0 a w hc hs;refine wpListIn_step fun K hK=>?_;obtain⟨s0,s1,s2,ok,bs,s3,s4,s5,s6⟩:=hs;have hw:=vf s6.1 (fun j o t h1 h2=>by rw[s0];exact wa hn j o t h1 h2) hg
 have hdef:a.defers=[]:=by
  have:=s1.1;rw[hmk,hdf]at this;cases hds:a.defers with
  |nil=>rfl
  |cons d ds=>
   rw[hds]at this;simp only[Dfs]at this;rcases this with⟨h,_⟩|⟨t,l',e,_⟩
   ·cases h
   ·cases e
 cases c with
 |false=>
  rw[zLy (by rw[hw];simp)];rw[hmem]at s5 s6;exact⟨fun _ _=>trivial,hK _ _ (h0 Y w0 ok0 _ w hc (Sit.put s0 s1 s2 s3 s4 s5 s6 (Below.refl _ _) (by simp[FitsE,Fits,FitsL,undef]) (zo hd)))⟩
 |true=>
  rw[zLc hw];obtain⟨M,hJ,hG,hok⟩:=hc;have hJw:=C.abides _ _ _ _ hJ s2;have hGw:=G.stable _ _ hG s2
  have hok':∀x,ok x->x<w.heap.size/\¬M x/\C.okS x:=fun x hx=>by
   rcases s4 x hx with h|h
   ·exact⟨s5.lt x hx,(hok x h).2.1,(hok x h).2.2⟩
   ·exact⟨s5.lt x hx,fun hm=>by have:=C.lt _ _ _ hJ x hm;omega,C.up _ _ _ x hJ h⟩
  have hfv:=qg (fr:=st.fr) (a:=a) (x:=fop) fun t _=>s6.1 t;rw[hf rfl]at hfv;simp only[FitsE,Fits]at hfv
  have key:∀(l:List Operand)(xs:List AV),l.map (evO st.fr)=xs.map .pub->FitsL ok w xs (l.map a.eval):=by
   intro l
   induction l with
   |nil=>intro xs h;cases xs with
    |nil=>simp[FitsL]
    |cons=>simp at h
   |cons y l ih=>intro xs h;cases xs with
    |nil=>simp at h
    |cons x xs=>
     simp only[List.map_cons,List.cons.injEq]at h;simp only[List.map_cons,FitsL];have:=qg (fr:=st.fr) (a:=a) (x:=y) fun t _=>s6.1 t;rw[h.1]at this;exact⟨_,_,Y,by simpa only[FitsE]using this,ih xs h.2⟩
  let gh:List (AV × Value):=(List.range a.tmps.size).map fun t=>(yw (st.fr t),a.tmps.getD t undef)
  have hgh':∀p∈gh,Fits ok w p.1 p.2:=fun p hp=>by
   obtain⟨t,_,rfl⟩:=zLj.1 hp;have:=s6.1 t;cases he:st.fr t with
   |pub x=>rw[he]at this;simpa only[FitsE,yw]using this
   |_=>simp only[yw,Fits]
  obtain⟨fn,tmps,assign,body,hy,hr⟩:=C.round k M w ok (args.toList.map a.eval) q gh (hq rfl) hJw hGw hok' (key _ _ (ha rfl)) hgh';refine⟨fun _ _=>trivial,?_⟩;rw[Oper.semAt_eq _ _ _ (xR hd)]
  have hex:(execOp a.eval o).run P w=.ok (.round C.l fn tmps assign body) w:=by
   have hargs:args.map a.eval=(args.toList.map a.eval).toArray:=by rw[←Array.toList_map]
   simp only[execOp,ho,resolve,hfv.1,Deferred.ofValue,invoke,Sem.run_bind,Sem.run_pure,Result.andThen_ok];simp only[Array.empty_append]at*;rw[hargs];exact hy
  rw[hex,Oper.uponIn_round];refine⟨fun h=>by simp[FW,Fence.wide]at h,hr.mono fun e W' ⟨b,M',ok',he,hJ',hG',hok2,hg2⟩=>?_⟩;subst he
  have hsit:∀x:EV,FitsE ok' W' [] [] x (.bool b)->Sit W' ok' ⟨st.n,qc (fun t=>fgt (st.fr t)) o.dst x,[]⟩ (a.put o.dst (.bool b)) W':=fun x hx=>by
   refine⟨(size_put ..).trans s0,⟨?_,fun p hp=>by rw[hh]at hp;cases hp⟩,Below.refl _ _,ok',[],fun _ h=>h,fun _ h=>.inl h,⟨rfl,fun x hx=>(hok2 x hx).1,sI,sI,sI,sI⟩,?_⟩
   ·rw[qZ,hdef];exact hdf
   ·refine qP (n:=st.n) ⟨fun t=>?_,fun p hp=>by rw[hgh]at hp;cases hp⟩ hx (fun d e=>by rw[s0];exact(zo hd d e).1)
    by_cases ht:t<a.tmps.size
    ·have:=hg2 _ (List.mem_map_of_mem (f:=fun t=>(yw (st.fr t),a.tmps.getD t undef)) (List.mem_range.2 ht));simpa only[fgt,FitsE]using this
    ·have hu:a.tmps.getD t undef=undef:=by simp[zLw,Array.getElem?_eq_none (Nat.le_of_not_lt ht)]
     have h7:=s6.1 t;rw[hu]at h7⊢;simp only[fgt,FitsE];exact bq h7
  cases b with
  |true=>
   simp only[if_true]at hJ';exact hK _ _ (h1 Y W' ok' _ W' ⟨M',hJ',hG',hok2⟩ (hsit _ (by simp[FitsE,Fits,Value.oneCell'])))
  |false=>
   simp only[Bool.false_eq_true,if_false]at hJ';exact hK _ _ (h2 Y W' ok' _ W' ⟨M',hJ',hG',hok2⟩ (hsit _ (by simp[FitsE,Fits,Value.oneCell'])))
def gp(P:Program)(G:Glob)(f:FuncId)(fs cs:List AV)(qs:List (List AV)):Prop:=
 Enters P f/\∀(C:Cx P G)(w:World)(ok:Nat->Prop)(us vs:List Value),C.qs=qs->C.At (.on 0) w ok->FitsL ok w fs us->FitsL ok w cs vs->
  CallsIn (FW none) 0 P f (us++[Value.func (.yield C.l) #[] #[]]++vs).toArray w (fun e w'=>∃v ph M,e=.returned v/\C.J ph M w'/\(ph=.on qs.length∨∃k,ph=.off k))
theorem fc{f:FuncId}{fn:Func}{fs cs:List AV}{qs:List (List AV)}(hf:P.funcs[f]?=some fn)(hb:fn.body=some c)(hnm:(fn.name== "runtime.NumGoroutine")=false)(hlen':Nat.ble (fs++[AV.top]++cs).length fn.ntmps=true)(hres:fn.results=#[])
  (h:∀C:Cx P G,C.qs=qs->jH C c (.on 0) ⟨fn.ntmps,sD (fs++[.v (.func (.yield C.l) #[] #[])]++cs),[]⟩ (fun e ph st=>(e=.normal∨e=.ret)/\st.n=fn.ntmps/\(ph=.on qs.length∨∃k,ph=.off k))):gp P G f fs cs qs:=by
 have hlen:=zLb hlen';refine⟨⟨fn,hf,hnm,by simp[hb]⟩,fun C w ok us vs hC hat hfs hcs=>callsIn_of_wp hf hb trivial ?_⟩;have hfit:FitsL ok w (fs++[.v (.func (.yield C.l) #[] #[])]++cs) (us++[Value.func (.yield C.l) #[] #[]]++vs):=(hfs.append (by simp[FitsL,Fits,Value.oneCell'])).append hcs;have hl:=hfit.length;have hlen2:(fs++[AV.v (.func (.yield C.l) #[] #[])]++cs).length<=fn.ntmps:=by simpa using hlen
 refine wpIn_mono (h C hC w ok _ w hat ?_) fun e a' w' ⟨ph,w1,ok1,st,hc',hs,he,hn,hph⟩=>?_
 ·refine⟨by simp only[Array.size_append,Array.size_replicate,List.size_toArray,hl];omega,⟨rfl,fun p hp=>by cases hp⟩,Below.refl _ _,ok,[],fun _ h=>h,fun _ h=>.inl h,⟨rfl,hat.ok,sI,sI,sI,sI⟩,fun t=>?_,fun p hp=>by cases hp⟩;generalize hxs:fs++[AV.v (.func (.yield C.l) #[] #[])]++cs=xs at*;generalize hvs:us++[Value.func (.yield C.l) #[] #[]]++vs=ws at*;show FitsE ok w [] [] (match xs[t]?with|some x=>.pub x|none=>.pub .top) _
  by_cases ht:t<xs.length
  ·rw[zLe ht];obtain⟨u,h1,h2⟩:=hfit.get (zLe ht);simp only[FitsE];have h3:t<ws.length:=(zLg h1).1;have h4:ws[t]=u:=(zLg h1).2;simp only[zLw];rw[Array.getElem?_append_left (by simpa using h3)];simp[h3,h4,h2]
  ·rw[List.getElem?_eq_none oM];simp[FitsE,Fits]
 ·obtain⟨s0,s1,s2,_⟩:=hs
  have hdef:a'.defers=[]:=by
   have:=s1.1;rw[hn]at this;cases hds:a'.defers with
   |nil=>rfl
   |cons d ds=>
    rw[hds]at this;simp only[Dfs]at this;rcases this with⟨h,_⟩|⟨t,l',e,_⟩
    ·cases h
    ·cases e
  obtain⟨M,hJ,_,_⟩:=hc'
  have hR:∃v,(results fn a'.tmps).run P w'=.ok v w'/\∃v' ph M,Ending.returned v=.returned v'/\C.J ph M w'/\(ph=.on qs.length∨∃k,ph=.off k):=
   ⟨_,results_none hres _ _ _,_,ph,M,rfl,C.abides _ _ _ _ hJ s2,hph⟩
  obtain⟨v,hv,hR⟩:=hR;rcases he with rfl|rfl
  ·exact⟨hdef,v,hv,hR⟩
  ·exact⟨hdef,v,hv,hR⟩
end
@[reducible] def NS.round(n:Nat)(gh:List (EV × Value))(hold:List (Nat × Obj)):NS:=⟨n,[],gh,false,hold⟩
@[reducible] def NS.marked(n:NS):NS:=⟨n.n,n.dfs,n.gh,true,n.hold⟩
def dS(fr:Nat->EV):List Tmp->List AV->(Nat->EV)
 |p::ps,q::qs=>dS (qc fr (some p) (.pub q)) ps qs
 |_,_=>fr
def wj(fr:Nat->EV)(live:List Tmp):Nat->EV:=fun t=>bif live.contains t then fr t else .pub .top
theorem g8{fr:Nat->EV}{live:List Tmp}{t:Nat}(h:live.contains t=false):wj fr live t=.pub .top:=by
 unfold wj;rw[h];rfl
def Gf(N Nr:NS)(fr:Nat->EV)(V:Prop)(I':List PO)(Q:Exit->ASt->Prop):Exit->ASt->Prop
 | .normal,s=>s.n=Nr/\V/\Weak s ⟨s.n,fun _=>.pub .top,I'⟩
 | .ret,s=>s.n=Nr/\Q .ret ⟨N,fr,s.mem⟩
 | .exit id,s=>s.n=Nr/\Q (.exit id) ⟨N,fr,s.mem⟩
 | .goto i,s=>s.n=Nr/\Q (.goto i) ⟨N,fr,s.mem⟩
 |_,_=>False
section
variable{ok:Nat->Prop}{w:World}{bs:List PB}{mem:List PO}
variable{l:Nat}{o o':Obj}
theorem BF(h:w.heap[l]?=some o)(h1:still o=true)(h2:still o'=true)(a:Addr):(w.putObj l o').cell? a=w.cell? a:=by
 unfold World.cell?
 by_cases e:a.block=l
 ·subst e;have hlt:=(zLr.1 h).1;have:(w.putObj a.block o').heap[a.block]?=some o':=by simp[World.putObj,hlt]
  rw[this,h];cases o<;>simp[still]at h1<;>cases o'<;>simp[still]at h2<;>rfl
 ·have:(w.putObj l o').heap[a.block]?=w.heap[a.block]?:=by simp[World.putObj,zL9 (Ne.symm e)]
  rw[this]
theorem vp(h:w.heap[l]?=some o)(h1:still o=true)(h2:still o'=true):aI w (w.putObj l o'):=⟨BF h h1 h2,fun g arr c hg=>by
 by_cases e:l=g
 ·subst e;rw[h]at hg;injection hg with hg;subst hg;cases h1
 ·rw[show(w.putObj l o').heap[g]?=w.heap[g]? by simp[World.putObj,zL9 e]];exact hg⟩
theorem qR{k:Nat}(h:k≠l):(w.putObj l o').heap[k]?=w.heap[k]?:=by simp[World.putObj,zL9 (Ne.symm h)]
theorem yy(h:w.heap[l]?=some o):(w.putObj l o').heap[l]?=some o':=by
 have hlt:=(zLr.1 h).1;simp[World.putObj,hlt]
theorem size_put':(w.putObj l o').heap.size=w.heap.size:=by simp[World.putObj]
theorem MemOK.put{n:Nat}(h:MemOK n ok w bs mem)(hl:w.heap[l]?=some o)(h1:still o=true)(h2:still o'=true):MemOK n ok (w.putObj l o') bs mem:=by
 refine⟨h.len,fun b hb=>by rw[size_put'];exact h.lt b hb,fun l' b rows hb hm=>?_,fun l' b es hb hm=>?_,h.own',h.dist'⟩
 ·have hr:=h.row l' b rows hb hm;refine⟨hr.size,hr.nil,hr.pos,fun g hg=>?_⟩;obtain⟨cur,hc,h5,h6,h7,h8⟩:=hr.blk g hg;have hne:g≠l:=fun e=>by subst e;rw[hl]at hc;injection hc with hc;subst hc;cases h1
  refine⟨cur,by rw[qR hne];exact hc,h5,h6,h7,fun i j r x hr hx=>?_⟩;obtain⟨u,h9,h10,h11⟩:=h8 i j r x hr hx;exact⟨u,h9,h10,h11.congr (vp hl h1 h2)⟩
 ·obtain⟨g,arr,h3,h4,h5,h6⟩:=h.mp l' b es hb hm;have hne:g≠l:=fun e=>by subst e;rw[hl]at h4;injection h4 with h4;subst h4;cases h1
  refine⟨g,arr,h3,by rw[qR hne];exact h4,h5,fun i k x hx=>?_⟩;obtain⟨v,h7,h8⟩:=h6 i k x hx;exact⟨v,h7,h8.congr (vp hl h1 h2)⟩
theorem MemOK.more{n:Nat}{ok':Nat->Prop}(h:MemOK n ok w bs mem)(hlt:∀b,ok' b->b<w.heap.size)(hown:∀(l:Nat)(b:PB)(o:PO)(g:Nat),bs[l]?=some b->mem[l]?=some o->o.live=true->b.blk=some g->¬ok' g):
  MemOK n (fun b=>ok b∨ok' b) w bs mem:=by
 refine⟨h.len,fun b hb=>hb.elim (h.lt b) (hlt b),fun l b rows hb hm=>?_,fun l b es hb hm=>?_,fun l b o g hb hm ho hg=>?_,h.dist'⟩
 ·have hr:=h.row l b rows hb hm;refine⟨hr.size,hr.nil,hr.pos,fun g hg=>?_⟩;obtain⟨cur,hc,h5,h6,h7,h8⟩:=hr.blk g hg;refine⟨cur,hc,h5,h6,h7,fun i j r x hr hx=>?_⟩;obtain⟨u,h9,h10,h11⟩:=h8 i j r x hr hx;exact⟨u,h9,h10,h11.mono (fun b hb=>.inl hb) (fun _ _=>rfl) (Turn.refl _ _)⟩
 ·obtain⟨g,arr,h3,h4,h5,h6⟩:=h.mp l b es hb hm;refine⟨g,arr,h3,h4,h5,fun i k x hx=>?_⟩;obtain⟨v,h7,h8⟩:=h6 i k x hx;exact⟨v,h7,h8.mono (fun b hb=>.inl hb) (fun _ _=>rfl) (Turn.refl _ _)⟩
 ·obtain⟨h1,h2⟩:=h.own' l b o g hb hm ho hg;exact⟨h1,fun hk=>hk.elim h2 (hown l b o g hb hm ho hg)⟩
end
variable{mk:Bool}{w w0:World}{tm:Array Value}{P:Program}{f:FuncId}{args:List AV}
theorem Dfs.marks:∀{ds:List Deferred}{B:Nat}{l:List Tmp},Dfs mk w0 w tm ds B l->∀D∈marksOf ds,w0.heap.size<=D/\D<B/\w.heap[D]?=some (.deferred (some []))
 |[],_,_,_,D,hD=>by cases hD
 |d::ds,B,l,h,D,hD=>by
  simp only[Dfs]at h;rcases h with⟨_,E,rfl,h1,h2,h3,h4⟩|⟨t,l',rfl,⟨f,us,vs,rfl,_⟩,h2⟩
  ·simp only[marksOf,List.mem_cons]at hD;rcases hD with rfl|hD
   ·exact⟨h1,h2,h3⟩
   ·have:=h4.marks D hD;exact⟨this.1,oM,this.2.2⟩
  ·exact h2.marks D hD
theorem Dfs.again{w':World}:∀{ds:List Deferred}{B B':Nat}{l:List Tmp},Dfs mk w0 w tm ds B l->(∀D∈marksOf ds,w'.heap[D]?=some (.deferred (some [])))->B<=B'->Dfs true w0 w' tm ds B' l
 |[],_,_,_,h,_,_=>by simpa only[Dfs]using h
 |d::ds,B,B',l,h,hD,hB=>by
  simp only[Dfs]at h⊢;rcases h with⟨_,E,rfl,h1,h2,h3,h4⟩|⟨t,l',rfl,⟨f,us,vs,rfl,h0⟩,h2⟩
  ·exact .inl ⟨trivial,E,Y,h1,oM,hD E (by simp[marksOf]),h4.again (fun D h=>hD D (by simp[marksOf,h])) (zLl _)⟩
  ·exact .inr ⟨t,l',Y,⟨f,us,vs,Y,h0⟩,h2.again (fun D h=>hD D (by simpa[marksOf]using h)) hB⟩
theorem fy{ok:Nat->Prop}{bs:List PB}{mem:List PO}{n:NS}:∀{ps:List Tmp}{qs:List AV}{us:List Value}{fr:Nat->EV}{a:Act},Slots ok w bs mem n fr a->FitsL ok w qs us->(∀p∈ps,p<a.tmps.size)->
  Slots ok w bs mem n (dS fr ps qs) ⟨(ps.zip us).foldl (fun t(p,v)=>t.setIfInBounds p v) a.tmps,a.defers⟩/\((ps.zip us).foldl (fun t(p,v)=>t.setIfInBounds p v) a.tmps).size=a.tmps.size
 |[],qs,us,fr,a,h,_,_=>by simpa[dS]using h
 |p::ps,[],us,fr,a,h,hq,_=>by simp only[FitsL]at hq;subst hq;simpa[dS]using h
 |p::ps,q::qs,us,fr,a,h,hq,hp=>by
  simp only[FitsL]at hq;obtain⟨u,us',rfl,h1,h2⟩:=hq;simp only[List.zip_cons_cons,List.foldl_cons,dS];have h3:=qP (dst:=some p) (x:=.pub q) (u:=u) h (by simpa only[FitsE]using h1) (fun d e=>by injection e with e;subst e;exact hp p sI);have h4:=fy (ps:=ps) (a:=a.put (some p) u) h3 h2 (fun x hx=>by rw[size_put];exact hp x (by simp[hx]));refine⟨h4.1,h4.2.trans (size_put ..)⟩
section
variable{P:Program}{G:Glob}
theorem nP{st:ASt}{Q:Exit->ASt->Prop}{g:Operand}{ps:Array Tmp}{as bo:Code}{f:FuncId}{fs cs:List AV}{qs:List (List AV)}(live:List Tmp)(V:Nat->Prop)(I:Nat->List PO)(hV0:V 0)
  (hg:evO st.fr g=.pub (.fn f fs cs)) (hit:gp P G f fs cs qs) (hm:st.mem=I 0) (hlen:∀q∈qs,q.length=ps.size) (hpd:(ps.toList.all fun t=>Nat.blt t st.n.n)=true) (hlv:(live.all fun t=>Nat.blt t st.n.n)=true)
  (round:∀(k:Nat)(q:List AV)(gh:List (EV × Value))(l:Nat)(h1 h2:List (Nat × Obj)),qs[k]?=some q->V k->
   qp (r:=some l) P G as ⟨NS.round st.n.n gh h1,dS (wj st.fr live) ps.toList q,I k⟩ (fun e s=>e=.normal/\s.n=NS.round st.n.n gh h1/\
    qp (r:=some l) P G bo ⟨NS.round st.n.n gh h2,s.fr,s.mem⟩ (Gf st.n.marked (NS.round st.n.n gh h2) (wj st.fr live) (V (k+1)) (I (k+1)) Q)))
  (hdone:V qs.length->Q .normal ⟨st.n.marked,wj st.fr live,I qs.length⟩):qp (r:=none) P G (.rangeFunc g ps as bo) st Q:=by
 intro w0 ok0 a w hG hok hs;obtain⟨s0,s1,s2,ok,bs,s3,s4,s5,s6⟩:=hs;have hgv:=qg (fr:=st.fr) (a:=a) (x:=g) fun t _=>s6.1 t;rw[hg]at hgv;simp only[FitsE,Fits]at hgv;obtain⟨us,vs,ge,hus,hvs⟩:=hgv;refine wpIn_rangeFunc ?_;intro fn hfn;obtain⟨rec,hrec⟩:∃rec:LoopState->Option Code->Loop,rec=fun st pe=>{state:=st,pending:=pe,fn,tmps:=a.tmps,params:=ps,assign:=as,body:=bo,defers:=w.heap.size}:=⟨_,rfl⟩;obtain⟨W1,hW1⟩:∃W1,(w.alloc (.deferred (some []))).alloc (.loop (rec .ready none))=W1:=⟨_,rfl⟩
 have hb1:Below w.heap.size w W1:=by
  rw[←hW1];exact((Below.refl w.heap.size w).alloc (zLl _) _).alloc sI _
 have hL1:W1.heap[w.heap.size+1]?=some (.loop (rec .ready none)):=by
  rw[←hW1];have:=World.alloc_heap_new (w.alloc (.deferred (some []))) (.loop (rec .ready none));rwa[World.size_alloc]at this
 have hK1:W1.heap[w.heap.size]?=some (.deferred (some [])):=by
  rw[←hW1];exact(Below.heap_alloc _ _ _ sI).trans (World.alloc_heap_new w _)
 have hsz1:W1.heap.size=w.heap.size+2:=by rw[←hW1];simp
 let hold0:List (Nat × Obj):=(w.heap.size,.deferred (some []))::(st.n.hold++(marksOf a.defers).map fun D=>(D,.deferred (some [])))
 have hhold:∀p∈hold0,stl w0.heap.size [] p/\p.1<w.heap.size+1/\W1.heap[p.1]?=some p.2:=fun p hp=>by
  simp only[hold0,List.mem_cons,List.mem_append,zLj]at hp;rcases hp with rfl|hp|⟨D,hD,rfl⟩
  ·exact⟨⟨⟨Y,by simp[marksOf]⟩,s2.size⟩,sI,hK1⟩
  ·obtain⟨h1,h2⟩:=s1.2 p hp;have hlt:=(zLr.1 h2).1;exact⟨⟨⟨h1.1.1,by simp[marksOf]⟩,h1.2⟩,oM,by rw[hb1.block _ hlt];exact h2⟩
  ·obtain⟨h0,h1,h2⟩:=s1.1.marks D hD;exact⟨⟨⟨Y,by simp[marksOf]⟩,h0⟩,by simp only;omega,by rw[hb1.block _ h1];exact h2⟩
 let gh0:List (EV × Value):=(List.range a.tmps.size).map (fun t=>(wj st.fr live t,a.tmps.getD t undef))++st.n.gh
 have hgh0:∀p∈gh0,FitsE ok w bs st.mem p.1 p.2:=fun p hp=>by
  simp only[gh0,List.mem_append,zLj]at hp;rcases hp with⟨t,_,rfl⟩|hp
  ·simp only[wj];cases live.contains t with
   |true=>exact s6.1 t
   |false=>simp[FitsE,Fits]
  ·exact s6.2 p hp
 let frl:=wj st.fr live;let Kx:Code->List PO->Prop:=fun c mem=>qp (r:=none) P G c ⟨st.n.marked,frl,mem⟩ Q
 let Core:(Nat->Prop)->List PO->World->Prop:=fun M mem W=>Below w0.heap.size w0 W/\(∀p∈hold0,W.heap[p.1]?=some p.2)/\∃(ok:Nat->Prop)(bs:List PB),(∀b,ok0 b->ok b)/\(∀b,ok b->ok0 b∨w0.heap.size<=b)/\
  MemOK w0.heap.size ok W bs mem/\(∀p∈gh0,FitsE ok W bs mem p.1 p.2)/\∀x,M x↔∃(l:Nat)(b:PB)(o:PO),bs[l]?=some b/\mem[l]?=some o/\o.live=true/\b.blk=some x
 let J:Ph->(Nat->Prop)->World->Prop:=fun ph M W=>match ph with
  | .on k=>(V k/\Core M (I k) W)/\W.heap[w.heap.size+1]?=some (.loop (rec .ready none))
  | .off _=>∃c mem,Core M mem W/\Kx c mem/\W.heap[w.heap.size+1]?=some (.loop (rec .done (some c)))
 have core_lt:∀M mem W,Core M mem W->∀x,M x->x<W.heap.size:=fun M mem W h x hx=>by
  obtain⟨_,_,ok,bs,_,_,h5,_,h7⟩:=h;obtain⟨l,b,o,e1,e2,e0,e3⟩:=(h7 x).1 hx;exact h5.live_lt e1 e2 e0 e3
 have core_ab:∀M mem W W',Core M mem W->Below W.heap.size W W'->Core M mem W':=fun M mem W W' h hb=>by
  obtain⟨h1,h2,ok,bs,h3,h4,h5,h6,h7⟩:=h;refine⟨q9 h1 h1.size hb,fun p hp=>by rw[hb.block _ (zLr.1 (h2 p hp)).1];exact h2 p hp,okN ok W W',bs,fun b hb=>.inl (h3 b hb),fun b hb'=>?_,h5.grow hb,fun p hp=>(h6 p hp).grow h5.lt hb,h7⟩;rcases hb' with h|h
  ·exact h4 b h
  ·exact .inr (zL6 h1.size h.1)
 have core_put:∀M mem W o o',Core M mem W->W.heap[w.heap.size+1]?=some o->still o=true->still o'=true->Core M mem (W.putObj (w.heap.size+1) o'):=fun M mem W o o' h hl ho ho'=>by
  obtain⟨h1,h2,ok,bs,h3,h4,h5,h6,h7⟩:=h;refine⟨h1.trans ⟨Y,Y,Y,Nat.le_of_eq size_put'.symm,fun k hk=>qR (by have:=s2.size;omega)⟩,fun p hp=>by rw[qR (by have:=(hhold p hp).2.1;omega)];exact h2 p hp,ok,bs,h3,h4,h5.put hl ho ho',fun p hp=>(h6 p hp).congr (vp hl ho ho'),h7⟩
 have hs2:=s2.size
 have hround:∀(k:Nat)(M:Nat->Prop)(W:World)(okI:Nat->Prop)(xs:List Value)(q:List AV)(gh:List (AV × Value)),qs[k]?=some q->J (.on k) M W->G.holds W->
   (∀x,okI x->x<W.heap.size/\¬M x/\(ok0 x∨w0.heap.size<=x))->FitsL okI W q xs->(∀p∈gh,Fits okI W p.1 p.2)->
   ∃fn tmps assign body,(Instr.yield (w.heap.size+1) xs.toArray).run P W=.ok (.round (w.heap.size+1) fn tmps assign body) W/\
    RoundIn (FW none) 0 P (w.heap.size+1) fn tmps assign body W (fun e W'=>∃(b:Bool)(M' ok':Nat->Prop),e=.returned (.bool b)/\J (if b then .on (k+1)else .off k) M' W'/\G.holds W'/\
     (∀x,ok' x->x<W'.heap.size/\¬M' x/\(ok0 x∨w0.heap.size<=x))/\∀p∈gh,Fits ok' W' p.1 p.2):=by
  intro k M W okI xs q gh hq hJ hGW hokI hfit hgh;obtain⟨⟨hVk,hc⟩,hL⟩:=hJ;have hxl:xs.length=q.length:=hfit.length;have hy:=run_yield (P:=P) (args:=xs.toArray) hL (by rw[hrec];simp[hxl,hlen q (zLo hq)]);rw[hrec]at hy;obtain⟨h1,h2,ok2,bs2,h3,h4,h5,h6,h7⟩:=hc;let ghA:List (EV × Value):=gh0++gh.map fun p=>(.pub p.1,p.2);let okR:Nat->Prop:=fun b=>ok2 b∨okI b;have h5R:MemOK w0.heap.size okR W bs2 (I k):=h5.more (fun b hb=>(hokI b hb).1) (fun l b o g e1 e2 e0 e3 he=>(hokI g he).2.1 ((h7 g).2 ⟨l,b,o,e1,e2,e0,e3⟩))
  have hghA:∀p∈ghA,FitsE okR W bs2 (I k) p.1 p.2:=fun p hp=>by
   simp only[ghA,List.mem_append,zLj]at hp;rcases hp with hp|⟨p',hp,rfl⟩
   ·exact(h6 p hp).mono (fun b hb=>.inl hb) (fun _ _=>rfl) (Turn.refl _ _)
   ·simp only[FitsE];exact(hgh p' hp).mono (fun b hb=>.inr hb) (fun _ _=>rfl)
  have hslots:Slots okR W bs2 (I k) (NS.round st.n.n ghA ((w.heap.size+1,.loop (rec .ready none))::hold0)) (wj st.fr live) ⟨a.tmps,[]⟩:=by
   refine⟨fun t=>?_,hghA⟩
   by_cases ht:t<a.tmps.size
   ·exact hghA (wj st.fr live t,a.tmps.getD t undef) (by simp only[ghA,gh0,List.mem_append,zLj];exact .inl (.inl ⟨t,List.mem_range.2 ht,Y⟩))
   ·have:live.contains t=false:=by
     cases hc:live.contains t with
     |false=>rfl
     |true=>
      rw[zLu]at hlv;have:=hlv t (by simpa using hc);simp only[Nat.blt_eq]at this;omega
    rw[g8 this];simp[FitsE,Fits]
  have hset:=fy (ps:=ps.toList) (qs:=q) (us:=xs) hslots (hfit.mono (fun b hb=>.inr hb) (fun _ _=>rfl)) (fun p hp=>by
   rw[zLu]at hpd;have:=hpd p hp;simp only[Nat.blt_eq]at this;exact Nat.lt_of_lt_of_eq this s0.symm)
  have hfold:(ps.zip xs.toArray).foldl (fun t(x:Tmp × Value)=>t.setIfInBounds x.1 x.2) a.tmps=(ps.toList.zip xs).foldl (fun t(x:Tmp × Value)=>t.setIfInBounds x.1 x.2) a.tmps:=by
   rw[←Array.foldl_toList,Array.toList_zip]
  refine⟨fn,_,as,bo,hy,roundIn_of_wpIn (F:=FW none) trivial ?_⟩;have hr:=round k q ghA (w.heap.size+1) ((w.heap.size+1,.loop (rec .ready none))::hold0) ((w.heap.size+1,.loop {rec .ready none with state:=.busy})::hold0) hq hVk
  have hsit0:Sit w0 ok0 ⟨NS.round st.n.n ghA ((w.heap.size+1,.loop (rec .ready none))::hold0),dS (wj st.fr live) ps.toList q,I k⟩ {tmps:=(ps.zip xs.toArray).foldl (fun t(x:Tmp × Value)=>t.setIfInBounds x.1 x.2) a.tmps,defers:=[]} W:=by
   rw[hfold];refine⟨hset.2.trans s0,⟨Y,fun p hp=>?_⟩,h1,okR,bs2,fun b hb=>.inl (h3 b hb),fun b hb=>hb.elim (h4 b) (fun h=>(hokI b h).2.2),h5R,hset.1⟩;rcases List.mem_cons.1 hp with rfl|hp
   ·exact⟨⟨⟨Y,by simp[marksOf]⟩,by have:=s2.size;simp only;omega⟩,hL⟩
   ·exact⟨(hhold p hp).1,h2 p hp⟩
  refine wpIn_mono (hr w0 ok0 _ W hG hok (by rw[hrec]at hsit0⊢;exact hsit0)) fun e a1 w1 ⟨s,hs,he,hn,hbody⟩=>?_;subst he
  have hheld:∀p∈(w.heap.size+1,Obj.loop (rec .ready none))::hold0,w1.heap[p.1]?=some p.2:=fun p hp=>by
   have:=hs.nod.2;rw[hn]at this;exact(this p hp).2
  have hL1':=hheld _ (zL1 ..);simp only at hL1';refine⟨_,run_beginRound hL1' (by rw[hrec]),?_⟩;obtain⟨t0,t1,t2,ok3,bs3,t3,t4,t5,t6⟩:=hs;rw[hn]at t0 t1 t6;have hput:∀k,k<w0.heap.size->(w1.putObj (w.heap.size+1) (.loop {rec .ready none with state:=.busy})).heap[k]?=w1.heap[k]?:=fun k hk=>qR oM
  have hsit1:Sit w0 ok0 ⟨NS.round st.n.n ghA ((w.heap.size+1,.loop {rec .ready none with state:=.busy})::hold0),s.fr,s.mem⟩ a1 (w1.putObj (w.heap.size+1) (.loop {rec .ready none with state:=.busy})):=by
   have hd0:a1.defers=[]:=by
    have:=t1.1;cases hd:a1.defers with
    |nil=>rfl
    |cons d ds=>
     rw[hd]at this;simp only[Dfs]at this;rcases this with⟨h,_⟩|⟨t,l',e,_⟩
     ·cases h
     ·cases e
   refine⟨t0,⟨?_,fun p hp=>?_⟩,t2.trans ⟨Y,Y,Y,Nat.le_of_eq size_put'.symm,hput⟩,ok3,bs3,t3,t4,t5.put hL1' Y Y,t6.map fun _ _ h=>h.congr (vp hL1' Y Y)⟩
   ·rw[hd0];rfl
   ·rw[hd0];rcases List.mem_cons.1 hp with rfl|hp
    ·exact⟨⟨⟨Y,by simp[marksOf]⟩,by have:=s2.size;simp only;omega⟩,yy hL1'⟩
    ·exact⟨(hhold p hp).1,by rw[qR (by have:=(hhold p hp).2.1;omega)];exact hheld p (zL3 _ hp)⟩
  refine wpIn_mono (hbody w0 ok0 a1 _ hG hok hsit1) fun e a2 w2 ⟨s2',hs2',hq2⟩=>?_
  have fin:∀(jump:Option Code)(mem:List PO),s2'.n=NS.round st.n.n ghA ((w.heap.size+1,.loop {rec .ready none with state:=.busy})::hold0)->
    (∃fr',Sit w0 ok0 ⟨s2'.n,fr',mem⟩ a2 w2)->∃W',(Instr.endRound (w.heap.size+1) jump).run P w2=.ok (.bool jump.isNone) W'/\
     W'.heap[w.heap.size+1]?=some (.loop (rec (if jump.isNone then .ready else .done) jump))/\G.holds W'/\
     ∃M' ok',Core M' mem W'/\(∀x,ok' x->x<W'.heap.size/\¬M' x/\(ok0 x∨w0.heap.size<=x))/\∀p∈gh,Fits ok' W' p.1 p.2:=fun jump mem hn2 ⟨fr',hs3⟩=>by
   obtain⟨v0,v1,v2,ok4,bs4,v3,v4,v5,v6⟩:=hs3;rw[hn2]at v1 v6;have hL2:=(v1.2 _ (zL1 ..)).2;simp only at hL2;have hbel:Below w0.heap.size w0 (w2.putObj (w.heap.size+1) (.loop (rec (if jump.isNone then .ready else .done) jump))):=v2.trans ⟨rfl,rfl,rfl,Nat.le_of_eq size_put'.symm,fun k hk=>qR oM⟩;refine⟨w2.putObj (w.heap.size+1) (.loop (rec (if jump.isNone then .ready else .done) jump)),?_,yy hL2,G.stable _ _ hG hbel,_,ok4,⟨hbel,fun p hp=>?_,ok4,bs4,v3,v4,v5.put hL2 rfl rfl,fun p hp=>(v6.2 p (by simp only[ghA,List.mem_append];exact .inl hp)).congr (vp hL2 rfl rfl),fun x=>Iff.rfl⟩,fun x hx=>⟨by rw[size_put'];exact v5.lt x hx,fun⟨l,b,o,e1,e2,e0,e3⟩=>(v5.own' l b o x e1 e2 e0 e3).2 hx,v4 x hx⟩,fun p hp=>?_⟩
   ·have:=run_endRound (P:=P) jump hL2;rw[hrec]at this⊢;exact this
   ·rw[qR (by have:=(hhold p hp).2.1;omega)];exact(v1.2 p (zL3 _ hp)).2
   ·have:=v6.2 (.pub p.1,p.2) (by simp only[ghA,List.mem_append,zLj];exact .inr ⟨p,hp,rfl⟩);simp only[FitsE]at this;exact this.congr (vp hL2 Y Y)
  cases e with
  |normal=>
   obtain⟨hn2,hV2,hwk⟩:=hq2;obtain⟨W',e1,e2,e3,M',ok',e4,e5,e6⟩:=fin none (I (k+1)) hn2 ⟨_,hwk _ _ _ _ hs2'⟩;exact⟨_,W',e1,true,M',ok',Y,⟨⟨hV2,e4⟩,e2⟩,e3,e5,e6⟩
  |ret=>
   obtain⟨hn2,hq2⟩:=hq2;obtain⟨W',e1,e2,e3,M',ok',e4,e5,e6⟩:=fin (some .ret) s2'.mem hn2 ⟨_,hs2'⟩;exact⟨_,W',e1,false,M',ok',Y,⟨.ret,s2'.mem,e4,Ea hq2,e2⟩,e3,e5,e6⟩
  |exit id=>
   obtain⟨hn2,hq2⟩:=hq2;obtain⟨W',e1,e2,e3,M',ok',e4,e5,e6⟩:=fin (some (.exit id)) s2'.mem hn2 ⟨_,hs2'⟩;exact⟨_,W',e1,false,M',ok',Y,⟨.exit id,s2'.mem,e4,uZ hq2,e2⟩,e3,e5,e6⟩
  |goto i=>
   obtain⟨hn2,hq2⟩:=hq2;obtain⟨W',e1,e2,e3,M',ok',e4,e5,e6⟩:=fin (some (.goto i)) s2'.mem hn2 ⟨_,hs2'⟩;exact⟨_,W',e1,false,M',ok',Y,⟨.goto i,s2'.mem,e4,J8 hq2,e2⟩,e3,e5,e6⟩
  |panic ch=>exact hq2.elim
  |outgrown=>exact hq2.elim
 let C:Cx P G:={
  l:=w.heap.size+1
  qs:=qs
  J:=J
  okS:=fun x=>ok0 x∨w0.heap.size<=x
  lt:=fun ph M W h=>by
   cases ph with
   |on k=>exact core_lt _ _ _ h.1.2
   |off k=>obtain⟨c,mem,h1,_⟩:=h;exact core_lt _ _ _ h1
  up:=fun ph M W x h hx=>by
   have hb:Below w0.heap.size w0 W:=by
    cases ph with
    |on k=>exact h.1.2.1
    |off k=>obtain⟨c,mem,h1,_⟩:=h;exact h1.1
   exact .inr (zL6 hb.size hx)
  abides:=fun ph M W W' h hb=>by
   cases ph with
   |on k=>exact⟨⟨h.1.1,core_ab _ _ _ _ h.1.2 hb⟩,by rw[hb.block _ (zLr.1 h.2).1];exact h.2⟩
   |off k=>obtain⟨c,mem,h1,h2,h3⟩:=h;exact⟨c,mem,core_ab _ _ _ _ h1 hb,h2,by rw[hb.block _ (zLr.1 h3).1];exact h3⟩
  round:=hround}
 refine⟨w.heap.size+1,[{target:=.collected w.heap.size,args:=#[]}],W1,{target:=.fn (.func f) vs.toArray,args:=(us++[Value.func (.yield (w.heap.size+1)) #[] #[]]).toArray},W1,f,(us++[Value.func (.yield (w.heap.size+1)) #[] #[]]++vs).toArray,W1,?_,?_,fun _ _=>trivial,?_,fun h=>by simp[FW,Fence.wide]at h,?_⟩
 ·rw[←hW1,hrec];exact run_enterLoop_outer _ _ _ _ _
 ·simp only[resolve,ge,Deferred.ofValue,Sem.run_bind,Sem.run_pure,Result.andThen_ok];congr 3;apply Array.toList_inj.1;simp[Act.eval]
 ·simp only[invoke];rw[show(us++[Value.func (.yield (w.heap.size+1)) #[] #[]]).toArray++vs.toArray=(us++[Value.func (.yield (w.heap.size+1)) #[] #[]]++vs).toArray from sI];exact enter_run hit.1 _ _
 ·have hcore1:Core (fun x=>∃(l:Nat)(b:PB)(o:PO),bs[l]?=some b/\(I 0)[l]?=some o/\o.live=true/\b.blk=some x) (I 0) W1:=by
   rw[hm]at s5 hgh0;refine⟨q9 s2 s2.size hb1,fun p hp=>(hhold p hp).2.2,okN ok w W1,bs,fun b hb=>.inl (s3 b hb),fun b hb'=>?_,s5.grow hb1,fun p hp=>(hgh0 p hp).grow s5.lt hb1,fun x=>Iff.rfl⟩;rcases hb' with h|h
   ·exact s4 b h
   ·exact .inr (zL6 s2.size h.1)
  have hat:C.At (.on 0) W1 ok:=by
   refine⟨_,⟨⟨hV0,hcore1⟩,hL1⟩,G.stable _ _ (G.stable _ _ hG s2) hb1,fun x hx=>⟨Nat.lt_of_lt_of_le (s5.lt x hx) hb1.size,fun⟨l,b,o,e1,e2,e0,e3⟩=>?_,s4 x hx⟩⟩;rw[←hm]at e2;exact(s5.own' l b o x e1 e2 e0 e3).2 hx
  have hlow:∀(l:List AV)(xs:List Value),FitsL ok w l xs->FitsL ok W1 l xs:=fun l xs h=>h.mono (fun _ hb=>hb) (fun b hb=>hb1.block b (s5.lt b hb));refine(hit.2 C W1 ok us vs Y hat (hlow _ _ hus) (hlow _ _ hvs)).mono fun e W2 ⟨v,ph,M,he,hJ,hph⟩=>?_;subst he
  have fin:∀(mem:List PO)(L:Loop),Core M mem W2->W2.heap[w.heap.size+1]?=some (.loop L)->Sit w0 ok0 ⟨st.n.marked,frl,mem⟩ {a with defers:=[{target:=.collected w.heap.size,args:=#[]}]++a.defers} (W2.putObj (w.heap.size+1) (.loop {L with state:=.exhausted})):=fun mem L hc hL=>by
   obtain⟨h1,h2,ok2,bs2,h3,h4,h5,h6,h7⟩:=core_put _ _ _ _ (.loop {L with state:=.exhausted}) hc hL rfl rfl
   refine⟨s0,⟨?_,fun p hp=>⟨⟨⟨(s1.2 p hp).1.1.1,by
    have hlt:=(zLr.1 (s1.2 p hp).2).1;simp only[List.cons_append,List.nil_append,marksOf,List.mem_cons,not_or];exact⟨oM,(s1.2 p hp).1.1.2⟩⟩,(s1.2 p hp).1.2⟩,h2 p (by simp only[hold0,List.mem_cons,List.mem_append];exact .inr (.inl hp))⟩⟩,h1,ok2,bs2,h3,h4,h5,fun t=>?_,fun p hp=>h6 p (by simp only[gh0,List.mem_append];exact .inr hp)⟩
   ·simp only[List.cons_append,List.nil_append,Dfs];refine .inl ⟨trivial,w.heap.size,Y,s2.size,?_,h2 (w.heap.size,.deferred (some [])) (by simp[hold0]),s1.1.again (fun D hD=>h2 (D,_) (by simp only[hold0,List.mem_cons,List.mem_append,zLj];exact .inr (.inr ⟨D,hD,Y⟩))) (zLl _)⟩;have:=(zLr.1 (h2 (w.heap.size,.deferred (some [])) (by simp[hold0]))).1;exact this
   ·by_cases ht:t<a.tmps.size
    ·exact h6 (wj st.fr live t,a.tmps.getD t undef) (by simp only[gh0,List.mem_append,zLj];exact .inl ⟨t,List.mem_range.2 ht,Y⟩)
    ·have:live.contains t=false:=by
      cases hc:live.contains t with
      |false=>rfl
      |true=>
       rw[zLu]at hlv;have:=hlv t (by simpa using hc);simp only[Nat.blt_eq]at this;omega
     show FitsE _ _ _ _ (wj st.fr live t) _;rw[g8 this];simp[FitsE,Fits]
  cases ph with
  |on k=>
   rcases hph with hph|⟨k',hph⟩
   ·injection hph with hph
    subst hph;obtain⟨⟨hVn,hc⟩,hL⟩:=hJ;refine⟨none,_,run_endLoop hL (by rw[hrec];simp)▸(by rw[hrec]),⟨_,fin _ _ hc hL,hdone hVn⟩⟩
   ·cases hph
  |off k=>
   obtain⟨c,mem,hc,hk,hL⟩:=hJ;refine⟨some c,_,run_endLoop hL (by rw[hrec];simp)▸(by rw[hrec]),hk w0 ok0 _ _ hG hok (fin _ _ hc hL)⟩
end
inductive Out where
 |ret (r:AV)
 |pan (v:AV)
@[reducible] def pnc(u:Value):List PanicEntry:=[{v:=u,recovered:=false}]
def XCall(P:Program)(G:Glob)(f:FuncId)(args:List AV)(o:Out):Prop:=
 Enters P f/\∀(ok:Nat->Prop)(w:World)(vs:List Value),G.holds w->(∀b,ok b->b<w.heap.size)->FitsL ok w args vs->
  Calls P f vs.toArray w (fun e w'=>Below w.heap.size w w'/\∃u,match o with
   | .ret r=>e=.returned u/\Fits (okN ok w w') w' r u
   | .pan v=>e=.panicked (pnc u)/\Fits (okN ok w w') w' v u)
theorem ACall.x{G:Glob}{r:AV}(h:ACall P G f args r):XCall P G f args (.ret r):=
 ⟨h.1,fun ok w vs hG hok hf=>(h.2 ok w vs hG hok hf).mono fun _ _⟨u,e,hb,hu⟩=>⟨hb,u,e,hu⟩⟩
theorem XCall.a{G:Glob}{r:AV}(h:XCall P G f args (.ret r)):ACall P G f args r:=
 ⟨h.1,fun ok w vs hG hok hf=>(h.2 ok w vs hG hok hf).mono fun _ _⟨hb,u,e,hu⟩=>⟨u,e,hb,hu⟩⟩
section
variable{r:Option Nat}{P:Program}{G:Glob}{st:ASt}{ops:Array Oper}{l:List Oper}{Q:Exit->ASt->Prop}{o:Oper}
@[reducible] def NS.pan(n:NS)(v:AV)(u:Value):NS:=⟨n.n,n.dfs,(.pub v,u)::n.gh,n.mks,n.hold⟩
variable{w0:World}{v:AV}{fr:Nat->EV}{mem:List PO}{f:FuncId}{c:List PanicEntry}{fn:Func}
theorem Sit.pan{ok0:Nat->Prop}{a:Act}{w w':World}{u:Value}{ok:Nat->Prop}{bs:List PB}{n:NS}
  (h0:a.tmps.size=n.n) (h1:Nod w0 w a n) (h2:Below w0.heap.size w0 w) (h3:∀b,ok0 b->ok b) (h4:∀b,ok b->ok0 b∨w0.heap.size<=b) (h5:MemOK w0.heap.size ok w bs mem) (h6:Slots ok w bs mem n fr a)
  (hw:Below w.heap.size w w') (hv:Fits (okN ok w w') w' v u):Sit w0 ok0 ⟨n.pan v u,fr,mem⟩ a w':=by
 have hm:=h6.map (fun(e:EV)(u:Value) h=>FitsE.grow (x:=e) (u:=u) h h5.lt hw);refine⟨h0,h1.keep (.of_below hw),q9 h2 h2.size hw,okN ok w w',bs,fun b hb=>.inl (h3 b hb),fun b hb=>?_,h5.grow hw,hm.1,fun p hp=>?_⟩
 ·rcases hb with hb|hb
  ·exact h4 b hb
  ·exact .inr (zL6 h2.size hb.1)
 ·rcases List.mem_cons.1 hp with rfl|hp
  ·simpa only[FitsE]using hv
  ·exact hm.2 p hp
theorem uL{args:Array Operand}{tys:Array TypeId}{av:List AV}(hg:jq o=true)(ho:o.op=.call {callee:=.value (.func f),args:=args,argTypes:=tys})
  (ha:aE st.fr args.toList av) (hc:XCall P G f av (.pan v)) (h:∀u,Q (.panic (pnc u)) ⟨st.n.pan v u,st.fr,st.mem⟩):qq (r:=r) P G ops (o::l) st Q:=by
 intro w0 ok0 a w hG hok ⟨h0,h1,h2,ok,bs,h3,h4,h5,h6⟩
 have key:∀(l:List Operand)(xs:List AV),l.map (evO st.fr)=xs.map .pub->FitsL ok w xs (l.map a.eval):=by
  intro l
  induction l with
  |nil=>intro xs h;cases xs with
   |nil=>simp[FitsL]
   |cons=>simp at h
  |cons y l ih=>intro xs h;cases xs with
   |nil=>simp at h
   |cons x xs=>
    simp only[List.map_cons,List.cons.injEq]at h;simp only[List.map_cons,FitsL];have:=qg (fr:=st.fr) (a:=a) (x:=y) fun t _=>h6.1 t;rw[h.1]at this;exact⟨_,_,Y,by simpa only[FitsE]using this,ih xs h.2⟩
 refine wpListIn_plain (j5 hg) fun K hK=>jR (j9 hg) ?_;unfold Oper.wp;rw[jt (us:=[]) (vs:=[]) ho hc.1 rF];simp only[Oper.upon];have hv:=key _ _ (y4 ha);have hcall:=(hc.2 ok w (args.toList.map a.eval) (G.stable _ _ hG h2) h5.lt hv);simp only[List.nil_append,List.append_nil];refine Calls.mono hcall fun en w' ⟨hb,u,he,hu⟩=>?_;subst he;exact⟨_,Sit.pan h0 h1 h2 h3 h4 h5 h6 hb hu,h u⟩
theorem vY{x:Operand}{T:TypeId}(hg:jq o=true)(ho:o.op=.panic x)(hx:evO st.fr x=.pub (.ifc T v))(h:∀u,Q (.panic (pnc u)) ⟨st.n.pan (.ifc T v) u,st.fr,st.mem⟩):qq (r:=r) P G ops (o::l) st Q:=by
 intro w0 ok0 a w hG hok ⟨h0,h1,h2,ok,bs,h3,h4,h5,h6⟩;have hv:=qg (fr:=st.fr) (a:=a) (x:=x) fun t _=>h6.1 t;rw[hx]at hv;simp only[FitsE]at hv;have hv2:=hv;simp only[Fits]at hv2;obtain⟨u,e,hu⟩:=hv2;refine wpListIn_plain (j5 hg) fun K hK=>jR (j9 hg) ?_;unfold Oper.wp
 have hex:(execOp a.eval o).run P w=.halt (.panic (.iface T u)) w:=by
  simp[execOp,ho,e,Instr.panic,goPanic]
 rw[hex,Oper.upon_panic];rw[e]at hv;exact⟨_,Sit.pan h0 h1 h2 h3 h4 h5 h6 (Below.refl _ _) (hv.mono (fun _ h=>.inl h) (fun _ _=>rfl)),h _⟩
theorem qW{K:ASt->Prop}(h:Q (.panic c) st):aF K Q (.panic c) st:=h
theorem yV{id:Nat}(h:Q (.panic c) st):yN id Q (.panic c) st:=h
theorem yQ{mk:Bool}{F:Fence}{n:Nat}{tm:Array Value}{R:Ending->World->Prop}{ch:List PanicEntry}:∀{ds:List Deferred}{B:Nat}{w:World},Dfs mk w0 w tm ds B []->
  (∀w2,MK w0 w w2->R (.panicked ch) w2)->LeavesInM F n P fn tm R ds (.panicking ch) w
 |[],B,w,_,h=>h w (MK.refl w0 w)
 |d::ds,B,w,hd,h=>by
  simp only[Dfs]at hd;rcases hd with⟨_,D,rfl,h1,h2,h3,h4⟩|⟨t,l',e,_⟩
  ·refine⟨sI,.inl ⟨D,_,Y,run_takeDeferred h3,yQ (B:=D) (h4.low (zLl _)) fun w2 hw2=>h w2 (hw2.step h1 h3)⟩⟩
  ·cases e
theorem I9{c:Code}{args:List AV}(hf:P.funcs[f]?=some fn)(hb:fn.body=some c)(hnm:(fn.name== "runtime.NumGoroutine")=false)(hlen':Nat.ble args.length fn.ntmps=true)
  (h:qp (r:=none) P G c ⟨fn.ntmps,sD args,[]⟩ (fun e st=>∃u,e=.panic (pnc u)/\(EV.pub v,u)∈st.n.gh/\st.n.dfs=[])):XCall P G f args (.pan v):=by
 have hlen:args.length<=fn.ntmps:=zLb hlen';refine⟨⟨fn,hf,hnm,by simp[hb]⟩,fun ok w vs hG hok hfit=>callsIn_wide.1 (callsIn_of_wp_marks (n:=0) hf hb trivial ?_)⟩;have hl:=hfit.length;refine wpIn_mono (h w ok _ w hG hok ?_) fun e a' w' ⟨st,hs,u,he,hu,hd⟩=>?_
 ·exact xG hlen hok hfit
 ·obtain⟨h0,h1,h2,ok',bs,h3,h4,h5,h6⟩:=hs;subst he;have h1:=h1.1;rw[hd]at h1;refine yQ h1 fun w2 hw2=>⟨h2.trans hw2.below,u,Y,?_⟩;have:=h6.2 _ hu;simp only[FitsE]at this;refine(this.congr hw2.cell).mono (fun b hb=>?_) (fun _ _=>rfl);rcases h4 b hb with h|h
  ·exact .inl h
  ·exact .inr ⟨h,by rw[hw2.size];exact h5.lt b hb⟩
theorem rJ{first caps:Array Operand}(ho:o.op=.makeFunc (.func f) first caps):OpY P G fr mem o (.fnm f (first.toList.map (evO fr)) (caps.toList.map (evO fr))):=
 qb fun ok bs w a _ _ hfit=>by
  have key:∀(l:List Operand),(∀y∈l,y∈o.op.operands)->FitsEL ok w bs mem (l.map (evO fr)) (l.map a.eval):=by
   intro l
   induction l with
   |nil=>intro _;simp[FitsEL]
   |cons y l ih=>
    intro hm;simp only[List.map_cons,FitsEL];exact⟨_,_,Y,hfit y (hm y sI),ih (fun z hz=>hm z (by simp[hz]))⟩
  refine⟨.func (.func f) (first.map a.eval) (caps.map a.eval),by simp[execOp,ho,Instr.makeFunc],?_⟩;simp only[FitsE];refine⟨first.toList.map a.eval,caps.toList.map a.eval,by congr 1<;>exact Array.toList_inj.1 sI,key _ (fun y hy=>?_),key _ (fun y hy=>?_)⟩
  ·simp only[ho,Op.operands,Array.mem_append];exact .inl (by simpa using hy)
  ·simp only[ho,Op.operands,Array.mem_append];exact .inr (by simpa using hy)
theorem bF{t:Tmp}{fs cs:List EV}(hg:o.guard=none)(ho:o.op=.defer {callee:=.value (.tmp t),args:=#[],argTypes:=#[]})(hd:o.dst=none)(he:st.fr t=.fnm f fs cs)
  (h:qq (r:=none) P G ops l ⟨⟨st.n.n,t::st.n.dfs,st.n.gh,st.n.mks,st.n.hold⟩,st.fr,st.mem⟩ Q):qq (r:=none) P G ops (o::l) st Q:=by
 intro w0 ok0 a w hG hok ⟨h0,h1,h2,ok,bs,h3,h4,h5,h6⟩;have hf:=h6.1 t;rw[he]at hf;simp only[FitsE]at hf;obtain⟨us,vs,e,_,_⟩:=hf;refine wpListIn_plain hg fun K hK=>?_;refine⟨fun _ _=>trivial,?_⟩;have hsem:o.semAt (FW none).round a.eval=execOp a.eval o:=rfl;rw[hsem]
 have hex:(execOp a.eval o).run P w=.ok (.defer {target:=.fn (.func f) vs.toArray,args:=us.toArray}) w:=by
  have ev:a.eval (.tmp t)=.func (.func f) us.toArray vs.toArray:=e;simp[execOp,ho,resolve,ev,Deferred.ofValue]
 rw[hex,Oper.uponIn_defer];refine hK _ _ (h w0 ok0 _ w hG hok ?_);have hp:({a with defers:={target:=.fn (.func f) vs.toArray,args:=us.toArray}::a.defers}.put o.dst undef)={a with defers:={target:=.fn (.func f) vs.toArray,args:=us.toArray}::a.defers}:=by rw[hd];rfl
 rw[hp];refine⟨h0,⟨?_,h1.2⟩,h2,ok,bs,h3,h4,h5,h6⟩;simp only[Dfs];exact .inr ⟨t,st.n.dfs,Y,⟨f,us.toArray,vs.toArray,Y,e⟩,h1.1⟩
end
def sH:Option AV->Value->FrameMode
 |none,_=>.returning
 |some _,u=>.panicking (pnc u)
def cr:Option AV->Value->FrameMode
 |none,_=>.returning
 |some _,u=>.panicking [{v:=u,recovered:=true}]
def Ad:Option AV->EV
 |none=>.pub (.v .nilIface)
 |some v=>.pub v
def frE(caps:List EV):Nat->EV:=fun t=>match caps[t]?with
 |some x=>x
 |none=>.pub .top
def nH(P:Program)(G:Glob)(f:FuncId)(caps:List EV)(mode:Option AV)(mem mem':List PO):Prop:=
 Enters P f/\∀(w0:World)(ok0 ok:Nat->Prop)(bs:List PB)(w:World)(vs:List Value)(gh:List (EV × Value))(u:Value),G.holds w0->(∀b,ok0 b->b<w0.heap.size)->Below w0.heap.size w0 w->(∀b,ok0 b->ok b)->(∀b,ok b->ok0 b∨w0.heap.size<=b)->
  MemOK w0.heap.size ok w bs mem->FitsEL ok w bs mem caps vs->(∀p∈gh,FitsE ok w bs mem p.1 p.2)->(∀v,mode=some v->Fits ok w v u)->
  CallsD P f vs.toArray (sH mode u) w (fun e u' w'=>(∃x,e=.returned x)/\u'=cr mode u/\∃ok' bs',Below w0.heap.size w0 w'/\(∀b,ok0 b->ok' b)/\(∀b,ok' b->ok0 b∨w0.heap.size<=b)/\
   MemOK w0.heap.size ok' w' bs' mem'/\∀p∈gh,FitsE ok' w' bs' mem' p.1 p.2)
section
variable{P:Program}{G:Glob}
theorem oe{o:Oper}(ho:o.op=.call {callee:=.builtin .recover,args:=#[],argTypes:=#[]})(a:Act)(w:World):(execOp a.eval o).run P w=.ok .recover w:=by
 simp[execOp,ho,resolve,invoke,builtin]
variable{f:FuncId}{fn:Func}
theorem bX{id:Nat}{o:Oper}{rest:Code}{d:Tmp}{caps:List EV}{mode:Option AV}{mem mem':List PO}(hf:P.funcs[f]?=some fn)(hb:fn.body=some (.seq (.region id #[o] false) rest))(hnm:(fn.name== "runtime.NumGoroutine")=false)
  (ho:o.op=.call {callee:=.builtin .recover,args:=#[],argTypes:=#[]}) (hg:o.guard=none) (hd:o.dst=some d) (hres:fn.results=#[]) (hlen':Nat.ble caps.length fn.ntmps=true) (hdl:Nat.blt d fn.ntmps=true)
  (h:∀gh,qp (r:=none) P G rest ⟨⟨fn.ntmps,[],gh,false,[]⟩,qc (frE caps) (some d) (Ad mode),mem⟩ (fun e st=>(e=.normal∨e=.ret)/\st.n=⟨fn.ntmps,[],gh,false,[]⟩/\st.mem=mem')):nH P G f caps mode mem mem':=by
 have hlen:=zLb hlen';have hdl:d<fn.ntmps:=by simpa[Nat.blt_eq]using hdl
 refine⟨⟨fn,hf,hnm,by simp[hb]⟩,fun w0 ok0 ok bs w vs gh u hG hok hw h3 h4 h5 hcaps hgh hv=>callsD_of_wpS hf hb fun c₀ cs hmode=>?_⟩;have hl:=hcaps.length;let a0:Act:={tmps:=vs.toArray++Array.replicate (fn.ntmps-vs.toArray.size) undef,defers:=[]};have hsz:a0.tmps.size=fn.ntmps:=by simp[a0,hl];omega
 -- behind the recover
 have key:∀(x:Value)(cs':List Frame)(u':FrameMode),cs'={c₀ with mode:=u'}::cs->u'=cr mode u->FitsE ok w bs mem (Ad mode) x->
   rest.wpS P (bodyPostS P fn c₀ cs (fun e u' w'=>(∃x,e=.returned x)/\u'=cr mode u/\∃ok' bs',Below w0.heap.size w0 w'/\(∀b,ok0 b->ok' b)/\(∀b,ok' b->ok0 b∨w0.heap.size<=b)/\
    MemOK w0.heap.size ok' w' bs' mem'/\∀p∈gh,FitsE ok' w' bs' mem' p.1 p.2)) (a0.put (some d) x) cs' w:=fun x cs' u' hcs hu hx=>by
  refine wpS_of_wp (wpIn_wide (n:=0).1 (wpIn_mono (h gh w0 ok0 _ w hG hok ?_) fun e a' w' ⟨st,hs,he,hn,hm⟩=>?_))
  ·refine⟨(size_put ..).trans hsz,⟨by rw[qZ];rfl,fun p hp=>by cases hp⟩,hw,ok,bs,h3,h4,h5,?_⟩;refine qP (n:=⟨fn.ntmps,[],gh,false,[]⟩) (a:=a0) (dst:=some d) (u:=x) ⟨fun t=>?_,hgh⟩ hx (fun d' e=>by injection e with e;subst e;rw[hsz];exact hdl);show FitsE ok w bs mem (match caps[t]?with|some x=>x|none=>.pub .top) _
   by_cases ht:t<caps.length
   ·rw[zLe ht];obtain⟨u,h1,h2⟩:=hcaps.get (zLe ht);have h3:t<vs.length:=(zLg h1).1;have h4:vs[t]=u:=(zLg h1).2;simp only[a0,zLw];rw[Array.getElem?_append_left (by simpa using h3)];simp[h3,h4,h2]
   ·rw[List.getElem?_eq_none oM];simp[FitsE,Fits]
  ·obtain⟨t0,t1,t2,ok',bs',t3,t4,t5,t6⟩:=hs;rw[hn]at t1 t6;rw[hm]at t5 t6
   have hdef:a'.defers=[]:=by
    have:=t1.1;cases hds:a'.defers with
    |nil=>rfl
    |cons d ds=>
     rw[hds]at this;simp only[Dfs]at this;rcases this with⟨h,_⟩|⟨t,l',e,_⟩
     ·cases h
     ·cases e
   have hpost:a'.defers=[]/\∃u',cs'={c₀ with mode:=u'}::cs/\∃v,(results fn a'.tmps).run P w'=.ok v w'/\(∃x,Ending.returned v=.returned x)/\u'=cr mode u/\∃ok' bs',Below w0.heap.size w0 w'/\(∀b,ok0 b->ok' b)/\(∀b,ok' b->ok0 b∨w0.heap.size<=b)/\
     MemOK w0.heap.size ok' w' bs' mem'/\∀p∈gh,FitsE ok' w' bs' mem' p.1 p.2:=⟨hdef,u',hcs,_,results_none hres _ _ _,⟨_,rfl⟩,hu,ok',bs',t2,t3,t4,t5,t6.2⟩
   rcases he with rfl|rfl
   ·exact hpost
   ·exact hpost
 refine wpS_seq (wpS_region ?_);show wpOpsS P #[o] _ [0] a0 (c₀::cs) w;unfold wpOpsS;simp only[List.getElem?_toArray,List.getElem?_cons_zero,Region.wanted,hg,if_true];rw[oe ho];simp only;cases mode with
 |none=>
  have hrec:recoverD (c₀::cs)=none:=by
   simp only[recoverD];rw[show c₀.mode=.returning from hmode]
  rw[hrec];simp only[wpOpsS,Exit.thenS,hd];have hnil:FitsE ok w bs mem (Ad none) .nilIface:=⟨rfl,rfl⟩;exact key .nilIface (c₀::cs) c₀.mode Y hmode hnil
 |some v=>
  have hrec:recoverD (c₀::cs)=some (u,{c₀ with mode:=.panicking [{v:=u,recovered:=true}]}::cs):=by
   simp only[recoverD];rw[show c₀.mode=.panicking (pnc u) from hmode]
  rw[hrec];simp only[wpOpsS,Exit.thenS,hd];exact key u _ _ Y Y (by simpa only[Ad,FitsE]using hv v Y)
def xf(n:Nat)(fr:Nat->EV):Nat->EV:=fun t=>bif Nat.blt t n then fr t else .pub .top
def zaE(P:Program)(G:Glob)(fn:Func)(r:AV)(e:Exit)(st:ASt):Prop:=
 (st.n=fn.ntmps/\(e=.normal∨e=.ret)/\RetE P fn st r)∨
 ∃t g caps mem' gh,st.n=⟨fn.ntmps,[t],gh,false,[]⟩/\st.fr t=.fnm g [] caps/\RetE P fn ⟨fn.ntmps,xf fn.ntmps st.fr,mem'⟩ r/\
  (((e=.normal∨e=.ret)/\nH P G g caps none st.mem mem')∨∃u v,e=.panic (pnc u)/\(EV.pub v,u)∈gh/\nH P G g caps (some v) st.mem mem')
theorem xU{c:Code}{args:List AV}{r:AV}(hf:P.funcs[f]?=some fn)(hb:fn.body=some c)(hnm:(fn.name== "runtime.NumGoroutine")=false)(hlen':Nat.ble args.length fn.ntmps=true)
  (h:qp (r:=none) P G c ⟨fn.ntmps,sD args,[]⟩ (zaE P G fn r)):ACall P G f args r:=by
 have hlen:args.length<=fn.ntmps:=zLb hlen';refine⟨⟨fn,hf,hnm,by simp[hb]⟩,fun ok w vs hG hok hfit=>calls_of_wp_defers hf hb (wpIn_wide (n:=0).1 (wpIn_mono (h w ok _ w hG hok (xG hlen hok hfit)) fun e a' w' ⟨st,hs,hq⟩=>?_))⟩;obtain⟨h0,h1,h2,ok',bs,h3,h4,h5,h6⟩:=hs;rcases hq with⟨hn,he,hr⟩|⟨t,g,caps,mem',gh,hn,hfr,hr,hd⟩
 ·have hdef:a'.defers=[]:=by
   have:=h1.1;rw[hn]at this;cases hds:a'.defers with
   |nil=>rfl
   |cons d ds=>
    rw[hds]at this;simp only[Dfs]at this;rcases this with⟨h,_⟩|⟨t,l',e,_⟩
    ·cases h
    ·cases e
  obtain⟨u,h7,h8⟩:=bC (ok':=okN ok w w') h5 (fun b hb=>by
   rcases h4 b hb with h|h
   ·exact .inl h
   ·exact .inr ⟨h,h5.lt b hb⟩) (fun b hb hb'=>.inr ⟨hb,hb'⟩) h6.1 hr
  have hlv:Leaves P fn a'.tmps (fun e w'=>∃u,e=.returned u/\Below w.heap.size w w'/\Fits (okN ok w w') w' r u) a'.defers .returning w':=by
   rw[hdef];exact⟨u,h7,u,rfl,h2,h8⟩
  rcases he with rfl|rfl<;>exact hlv
 ·obtain⟨us,vs',hdef,htm⟩:∃us vs',a'.defers=[{target:=.fn (.func g) vs',args:=us}]/\a'.tmps.getD t undef=.func (.func g) us vs':=by
   have:=h1.1;rw[hn]at this;cases hds:a'.defers with
   |nil=>rw[hds]at this;simp[Dfs]at this
   |cons d ds=>
    rw[hds]at this;simp only[Dfs]at this;rcases this with⟨h,_⟩|⟨t',l',e,⟨f',us,vs',e1,e2⟩,e3⟩
    ·cases h
    ·injection e with ea eb
     subst ea;subst eb
     have hds2:ds=[]:=by
      cases ds with
      |nil=>rfl
      |cons d' ds'=>
       simp only[Dfs]at e3;rcases e3 with⟨h,_⟩|⟨t,l',e,_⟩
       ·cases h
       ·cases e
     have:=h6.1 t;rw[hfr,e2]at this;simp only[FitsE]at this;obtain⟨x,y,e4,_,_⟩:=this;injection e4 with e4 e5 e6
     injection e4 with e4
     subst e4;exact⟨us,vs',by rw[hds2,e1],e2⟩
  have hcap:=h6.1 t;rw[hfr,htm]at hcap;simp only[FitsE]at hcap;obtain⟨x,y,e4,hx,hy⟩:=hcap;simp only[FitsEL]at hx;subst hx;injection e4 with _ e5 e6
  subst e5;subst e6;let ghA:List (EV × Value):=(List.range fn.ntmps).map fun t=>(st.fr t,a'.tmps.getD t undef)
  have hghA:∀p∈ghA,FitsE ok' w' bs st.mem p.1 p.2:=fun p hp=>by
   obtain⟨t,_,rfl⟩:=zLj.1 hp;exact h6.1 t
  have fin:∀(mode:Option AV)(u:Value),nH P G g caps mode st.mem mem'->(∀v,mode=some v->Fits ok' w' v u)->
    Leaves P fn a'.tmps (fun e w'=>∃u,e=.returned u/\Below w.heap.size w w'/\Fits (okN ok w w') w' r u) a'.defers (sH mode u) w':=fun mode u hc hv=>by
   rw[hdef];refine⟨by cases mode<;>simp[sH],.func g,y.toArray,g,y.toArray,rfl,by simp only[invoke];rw[show(([]:List Value).toArray++y.toArray)=y.toArray from sI];exact enter_run hc.1 _ _,?_⟩;refine CallsD.mono (hc.2 w ok ok' bs w' y ghA u hG hok h2 h3 h4 h5 hy hghA hv) fun e u' w2 ⟨⟨x,he⟩,hu,ok2,bs2,k2,k3,k4,k5,k6⟩=>?_;subst he;subst hu;have hset:settle (cr mode u)=.returning:=by cases mode<;>rfl
   simp only[hset]
   have hfits:∀t,FitsE ok2 w2 bs2 mem' (xf fn.ntmps st.fr t) (a'.tmps.getD t undef):=fun t=>by
    unfold xf
    by_cases ht:t<fn.ntmps
    ·rw[show Nat.blt t fn.ntmps=true from by simpa[Nat.blt_eq]using ht];exact k6 _ (List.mem_map_of_mem (List.mem_range.2 ht))
    ·rw[show Nat.blt t fn.ntmps=false from by
      cases hb:Nat.blt t fn.ntmps
      ·rfl
      ·exact absurd (by simpa[Nat.blt_eq]using hb) ht]
     simp[FitsE,Fits]
   obtain⟨u2,h7,h8⟩:=bC (ok':=okN ok w w2) k5 (fun b hb=>by
    rcases k4 b hb with h|h
    ·exact .inl h
    ·exact .inr ⟨h,k5.lt b hb⟩) (fun b hb hb'=>.inr ⟨hb,hb'⟩) hfits hr
   exact⟨u2,h7,u2,Y,k2,h8⟩
  rcases hd with⟨he,hc⟩|⟨u,v,he,hu,hc⟩
  ·have:=fin none undef hc (fun v h=>by cases h);rcases he with rfl|rfl<;>exact this
  ·subst he;rw[hn]at h6;have hv:=h6.2 _ hu;simp only[FitsE]at hv;exact fin (some v) u hc (fun v' e=>by injection e with e;subst e;exact hv)
end
end Go.Av
end
