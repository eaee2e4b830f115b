import Derived.Test.YtigbomcjnlikjaaGreatDoorPlatE
import Derived.Maps.RangeRun
set_option linter.unusedVariables false
set_option linter.unusedSimpArgs false
set_option maxRecDepth 100000
set_option maxHeartbeats 9000000
section
namespace Go.Av
open Go.RowKit
@[reducible] def NS.itM(n:NS)(b g c:Nat)(seen:List Nat)(ks:List Value)(xs:TA):NS:=⟨n.n,n.dfs,(.pub (.mp ks xs),.map (some g))::n.gh,n.mks,(b,.mapIter (some g) c seen.toArray c)::n.hold⟩
section
variable{r:Option Nat}{P:Program}{G:Glob}{ops:Array Oper}{l:List Oper}{st:ASt}{Q:Exit->ASt->Prop}{o:Oper}
variable{w w0:World}{n:NS}{ks:List Value}{xs:TA}{ok0:Nat->Prop}{b c g:Nat}{y:Operand}{seen:List Nat}{ch:Option Nat}
theorem EF{ok:Nat->Prop}{bs:List PB}{mem:TP}{fr:Nat->EV}{a:Act}{p:EV × Value}(h:Slots ok w bs mem n fr a)(hp:FitsE ok w bs mem p.1 p.2)(hold:List (Nat × Obj)):Slots ok w bs mem ⟨n.n,n.dfs,p::n.gh,n.mks,hold⟩ fr a:=
 ⟨h.1,fun q hq=>by
  rcases List.mem_cons.1 hq with rfl|hq
  ·exact hp
  ·exact h.2 q hq⟩
theorem lH{T kt et:TypeId}{x:Operand}(hg:jq o=true)(hd:qB o st.n=true)(ho:o.op=.range T x)(hx:evO st.fr x=.pub (.mp ks xs))(ht:P.underlying T=some (.map kt et))
  (h:∀b g c,c=ks.length->qq (r:=r) P G ops l ⟨st.n.itM b g c [] ks xs,qc st.fr o.dst (itP b),st.mem⟩ Q):qq (r:=r) P G ops (o::l) st Q:=by
 intro w0 ok0 a' w hG hok ⟨h0,h1,h2,ok,bs,h3,h4,h5,h6⟩;have hf:=qg (fr:=st.fr) (a:=a') (x:=x) fun t _=>h6.1 t;rw[hx]at hf;have hf2:=hf;simp only[FitsE,Fits]at hf;obtain⟨g,arr,c,hu,_,hgm,hb,hk,_⟩:=hf
 have hrun:(execOp a'.eval o).run P w=.ok (.value (.pointer (some ⟨w.heap.size,0,none⟩))) (w.alloc (.mapIter (some g) c #[] c)):=by
  simp[execOp,ho,hu,Instr.range,run_underlying ht,getObj,Sem.run,hgm]
 have hbel:=qu w (.mapIter (some g) c #[] c);have hc:c=ks.length:=by rw[hb.1,←hk];simp
 refine wpListIn_plain (j5 hg) fun K hK=>jR (j9 hg)<|qx hrun (hK _ _ (h w.heap.size g c hc w0 ok0 _ _ hG hok ?_));obtain⟨k0,k1,k2,k3⟩:=Sit.put (w':=w.alloc (.mapIter (some g) c #[] c)) (x:=itP w.heap.size) (u:=.pointer (some ⟨w.heap.size,0,none⟩)) (dst:=o.dst) h0 h1 h2 h3 h4 h5 h6 hbel (qA rfl) (zo hd);rw[hu]at hf2;have hgh:=hf2.grow h5.lt hbel
 have k4:∃ok' bs',(∀b,ok0 b->ok' b)/\(∀b,ok' b->ok0 b∨w0.heap.size<=b)/\MemOK w0.heap.size ok' (w.alloc (.mapIter (some g) c #[] c)) bs' st.mem/\Slots ok' (w.alloc (.mapIter (some g) c #[] c)) bs' st.mem (st.n.itM w.heap.size g c [] ks xs) (qc st.fr o.dst (itP w.heap.size)) (a'.put o.dst (.pointer (some ⟨w.heap.size,0,none⟩))):=by
  refine⟨okN ok w (w.alloc (.mapIter (some g) c #[] c)),bs,fun b hb=>.inl (h3 b hb),fun b hb=>?_,h5.grow hbel,?_⟩
  ·rcases hb with hb|hb
   ·exact h4 b hb
   ·exact .inr (zL6 h2.size hb.1)
  ·exact EF (qP (h6.map fun _ _ h=>h.grow h5.lt hbel) (qA Y) (fun d e=>by rw[h0];exact(zo hd d e).1)) hgh _
 refine⟨k0,⟨k1.1,fun p hp=>?_⟩,k2,k4⟩;rcases List.mem_cons.1 hp with rfl|hp
 ·exact⟨⟨⟨Y,by rw[qZ];exact fun hD=>Nat.lt_irrefl _ (h1.1.marks _ hD).2.1⟩,h2.size⟩,heap_alloc_new w _⟩
 ·exact k1.2 p hp
theorem Il{a':Act}{o1 o2:Obj}{hs:List (Nat × Obj)}{x:EV}{u:Value}{dst:Option Tmp}(h:Sit w0 ok0 st a' w)(hh:st.n.hold=(b,o1)::hs)(hne:(hs.all fun p=>!(Nat.beq p.1 b))=true)(s1:still o1=true)(s2:still o2=true)
  (hux:∀ok bs,Slots ok w bs st.mem st.n st.fr a'->FitsE ok w bs st.mem x u) (hd:DOK dst st.n):Sit w0 ok0 ⟨st.n.held ((b,o2)::hs),qc st.fr dst x,st.mem⟩ (a'.put dst u) (w.putObj b o2):=by
 obtain⟨h0,h1,h2,ok,bs,h3,h4,h5,h6⟩:=h;have hb:=h1.2 (b,o1) (by rw[hh];exact zL1 ..);have hbl:w0.heap.size<=b:=hb.1.2;have hbh:w.heap[b]?=some o1:=hb.2;have hbel:Below w0.heap.size w (w.putObj b o2):=⟨rfl,rfl,rfl,Nat.le_of_eq size_put'.symm,fun j hj=>qR oM⟩;have hcell:aI w (w.putObj b o2):=vp hbh s1 s2;refine⟨(size_put ..).trans h0,⟨?_,fun p hp=>?_⟩,h2.trans hbel,ok,bs,h3,h4,h5.put hbh s1 s2,qP (h6.map fun _ _ h=>h.congr hcell) ((hux ok bs h6).congr hcell) (fun d e=>by rw[h0];exact(hd d e).1)⟩
 ·rw[qZ,size_put']
  have hD:∀{ds:List Deferred}{B:Nat}{l:List Tmp},Dfs st.n.mks w0 w a'.tmps ds B l->(∀t,t∈l->t∈st.n.dfs)->b∉marksOf ds->Dfs st.n.mks w0 (w.putObj b o2) (a'.put dst u).tmps ds B l:=by
   intro ds
   induction ds with
   |nil=>intro B l h _ _;simpa only[Dfs]using h
   |cons d ds ih=>
    intro B l h hl hm;simp only[Dfs]at h⊢;rcases h with⟨hmk,D,e,e1,e2,e3,e4⟩|⟨t,l',rfl,⟨f,us,vs,e,e1⟩,e2⟩
    ·subst e;simp only[marksOf,List.mem_cons,not_or]at hm;exact .inl ⟨hmk,D,Y,e1,e2,by rw[qR (fun e=>hm.1 e.symm)];exact e3,ih e4 hl hm.2⟩
    ·subst e;simp only[marksOf]at hm;refine .inr ⟨t,l',Y,⟨f,us,vs,Y,?_⟩,ih e2 (fun t ht=>hl t (zL3 _ ht)) hm⟩;cases dst with
     |none=>exact e1
     |some d=>
      have hnd:t≠d:=fun e=>(hd d rfl).2 (e▸hl t (zL1 ..));simp only[Act.put,jy,hnd,false_and,if_false];exact e1
  exact hD h1.1 (fun _ h=>h) hb.1.1.2
 ·rcases List.mem_cons.1 hp with rfl|hp
  ·exact⟨⟨⟨s2,by rw[qZ];exact hb.1.1.2⟩,hbl⟩,yy hbh⟩
  ·have hpb:p.1≠b:=fun e=>by
    rw[zLu]at hne;have:=hne p hp;simp[e]at this
   have:=h1.2 p (by rw[hh];exact zL3 _ hp);exact⟨by rw[qZ];exact this.1,by rw[qR hpb];exact this.2⟩
theorem Fz{a':Act}(h:Sit w0 ok0 st a' w):Sit w0 ok0 st a' w.drew:=by
 obtain⟨h0,h1,h2,ok,bs,h3,h4,h5,h6⟩:=h;have hb:Below w.heap.size w w.drew:=(Below.refl _ _).drew;refine⟨h0,h1.keep (.of_below hb),q9 h2 h2.size hb,okN ok w w.drew,bs,fun b hb=>.inl (h3 b hb),fun b hb=>?_,h5.grow hb,h6.map fun _ _ h=>h.grow h5.lt hb⟩;rcases hb with hb|hb
 ·exact h4 b hb
 ·exact .inr (zL6 h2.size hb.1)
theorem EI(hg:jq o=true)(hd:qB o n=true)(ho:o.op=.next y false)(hn:st.n=n.itM b g c seen ks xs)(hy:evO st.fr y=itP b)(hc:c=ks.length)
  (hne:(n.hold.all fun p=>!(Nat.beq p.1 b))=true)
  (h0:(∀i,i<ks.length->i∈seen)->qq (r:=r) P G ops l ⟨n.itM b g c seen ks xs,qc st.fr o.dst (.pub (.tup [.v (.bool false)])),st.mem⟩ Q)
  (h1:∀i k x,i∉seen->ks[i]?=some k->xs[i]?=some x->qq (r:=r) P G ops l ⟨n.itM b g c (seen++[i]) ks xs,qc st.fr o.dst (.pub (.tup [.v (.bool true),ofV k,x])),st.mem⟩ Q):qq (r:=r) P G ops (o::l) st Q:=by
 intro w0 ok0 a' w hG hok hs;have hd':DOK o.dst st.n:=by rw[hn];exact zo hd
 have hh:st.n.hold=(b,.mapIter (some g) c seen.toArray c)::n.hold:=by rw[hn]
 have hit:w.heap[b]?=some (.mapIter (some g) c seen.toArray c):=(hs.nod.2 _ (by rw[hh];exact zL1 ..)).2;obtain⟨ok,bs,_,_,h5,h6⟩:=hs.ex;have hv:=wH (qg (fr:=st.fr) (a:=a') (x:=y) fun t _=>h6.1 t) hy;have hgh:∀ok bs w,Slots ok w bs st.mem st.n st.fr a'->FitsE ok w bs st.mem (.pub (.mp ks xs)) (.map (some g)):=fun ok bs w h=>h.2 (.pub (.mp ks xs),.map (some g)) (by rw[hn];exact zL1 ..);have hm:=hgh ok bs w h6;simp only[FitsE,Fits]at hm;obtain⟨g',arr,c',e1,_,hgm,hmb,hk,hx⟩:=hm;injection e1 with e1;injection e1 with e1;subst e1
 have hcc:c'=c:=by rw[hmb.1,hc,←hk];simp
 subst hcc
 have hlt:∀e∈arr.toList,e.born<c':=fun e he=>by
  obtain⟨i,hi,rfl⟩:=List.mem_iff_getElem.1 he;have hi':i<arr.size:=by simpa using hi
  have:=hmb.2 i arr[i] (zL5 hi');rw[show arr.toList[i]=arr[i] from rfl,this,hmb.1];exact hi'
 have hsz:arr.size=ks.length:=by rw[←hk];simp
 rcases run_next_at (P:=P) w o.type b g c' c' seen.toArray arr c' hit hgm hlt (zLl _)with⟨hl,hrun⟩|⟨e,he,w1,hw1,hrun⟩
 ·have hall:∀i,i<ks.length->i∈seen:=fun i hi=>by
   have hi':i<arr.size:=oM;have h2:=all_seen arr seen.toArray hl arr[i] sI;rw[hmb.2 i arr[i] (zL5 hi')]at h2;simpa using h2
  have hx2:(execOp a'.eval o).run P w=.ok (.value (.tuple #[.bool false])) w:=by simp[execOp,ho,hv,hrun]
  refine wpListIn_plain (j5 hg) fun K hK=>jR (j9 hg)<|qx hx2 (hK _ _ (h0 hall w0 ok0 _ _ hG hok ?_));obtain⟨k0,k1,k2,ok,bs,k3,k4,k5,k6⟩:=hs;have:=Sit.put (x:=.pub (.tup [.v (.bool false)])) (u:=.tuple #[.bool false]) (dst:=o.dst) k0 k1 k2 k3 k4 k5 k6 (Below.refl _ _) (by simp only[FitsE,Fits];exact⟨[.bool false],rfl,⟨_,_,rfl,⟨rfl,rfl⟩,rfl⟩⟩) hd';rw[←hn];exact this
 ·obtain⟨hmem,hns⟩:=mem_left he;obtain⟨i,hi,rfl⟩:=List.mem_iff_getElem.1 hmem;have hi':i<arr.size:=by simpa using hi
  have hb:=hmb.2 i arr[i] (zL5 hi');rw[show arr.toList[i]=arr[i] from rfl]at hns hrun;rw[hb]at hns hrun;have hkx:ks[i]?=some arr[i].key:=by rw[←hk,zLq,Array.getElem?_toList,zL5 hi'];rfl
  have hxl:=hx.length;have hix:i<xs.length:=by simp at hxl;omega
  have hx2:(execOp a'.eval o).run P w=.ok (.value (.tuple #[.bool true,arr[i].key,arr[i].val])) (w1.putObj b (.mapIter (some g) c' (seen.toArray.push i) c')):=by simp only[execOp,ho,hv,Sem.run_bind,hrun];rfl
  have hs1:Sit w0 ok0 st a' w1:=by
   rcases hw1 with rfl|rfl
   ·exact hs
   ·exact Fz hs
  have hgm1:w1.heap[g]?=some (.map arr c'):=by rcases hw1 with rfl|rfl<;>exact hgm
  refine wpListIn_plain (j5 hg) fun K hK=>jR (j9 hg)<|qx hx2 (hK _ _ (h1 i arr[i].key xs[i] (by simpa using hns) hkx (zLe hix) w0 ok0 _ _ hG hok ?_))
  have:=Il (o2:=.mapIter (some g) c' (seen.toArray.push i) c') (x:=.pub (.tup [.v (.bool true),ofV arr[i].key,xs[i]])) (u:=.tuple #[.bool true,arr[i].key,arr[i].val]) (dst:=o.dst) hs1 hh hne rfl rfl (fun ok bs h6=>by
   have hm:=hgh ok bs w1 h6;simp only[FitsE,Fits]at hm;obtain⟨g',arr',c2,e1,_,hgm',_,_,hx'⟩:=hm;injection e1 with e1;injection e1 with e1;subst e1
   rw[hgm1]at hgm';injection hgm' with hgm';injection hgm' with e2 e3;subst e2
   obtain⟨u,f1,f2⟩:=hx'.get (zLe hix);rw[zLq,Array.getElem?_toList,zL5 hi']at f1;injection f1 with f1
   simp only[FitsE,Fits];exact⟨[.bool true,arr[i].key,arr[i].val],Y,_,_,Y,⟨Y,Y⟩,_,_,Y,vX _,_,_,Y,by rw[show arr[i].val=u from f1];exact f2,Y⟩) hd'
  rw[hn]at this;simpa[NS.held,NS.itM]using this
def mnT(ks:List Value)(xs:TA):Option Nat->TA
 |none=>[.v (.bool false)]
 |some i=>[.v (.bool true),ofV (ks.getD i undef),xs.getD i .top]
def OR(ks:List Value)(seen:List Nat):Option Nat->Prop
 |none=>∀i,i<ks.length->i∈seen
 |some i=>i∉seen/\i<ks.length
theorem XH(ks:List Value)(xs:TA)(ch:Option Nat):(mnT ks xs ch)[0]?=some (.v (.bool ch.isSome)):=by cases ch<;>rfl
theorem E0(h:OR ks seen ch)(hs:ch.isSome=true):∃i,ch.toList=[i]/\i∉seen/\i<ks.length:=by
 cases ch with
 |none=>cases hs
 |some i=>exact⟨i,rfl,h.1,h.2⟩
theorem Gu(h:OR ks seen ch)(hs:ch.isSome=false):(∀i,i<ks.length->i∈seen):=by
 cases ch with
 |none=>exact h
 |some i=>cases hs
theorem pA(hg:jq o=true)(hd:qB o n=true)(ho:o.op=.next y false)(hn:st.n=n.itM b g c seen ks xs)(hy:evO st.fr y=itP b)(hc:c=ks.length)
  (hne:(n.hold.all fun p=>!(Nat.beq p.1 b))=true)
  (h:∀ch,OR ks seen ch->qq (r:=r) P G ops l ⟨n.itM b g c (seen++ch.toList) ks xs,qc st.fr o.dst (.pub (.tup (mnT ks xs ch))),st.mem⟩ Q):qq (r:=r) P G ops (o::l) st Q:=
 EI hg hd ho hn hy hc hne (fun h0=>by have:=h none h0;simpa[mnT]using this) (fun i k x hi hk hx=>by
  have hik:i<ks.length:=(zLg hk).1;have:=h (some i) ⟨hi,hik⟩;simpa[mnT,List.getD,hk,hx]using this)
theorem ma{i:Nat}{k:Value}{x:AV}(hg:jq o=true)(hd:qB o st.n=true)(ho:o.op=.entry y)(hn:st.n=n.itM b g c (seen++[i]) ks xs)(hy:evO st.fr y=itP b)(hc:c=ks.length)(hk:ks[i]?=some k)(hx:xs[i]?=some x)
  (h:qq (r:=r) P G ops l ⟨st.n,qc st.fr o.dst (.pub (.tup [ofV k,x])),st.mem⟩ Q):qq (r:=r) P G ops (o::l) st Q:=by
 intro w0 ok0 a' w hG hok hs;have hh:st.n.hold=(b,.mapIter (some g) c (seen++[i]).toArray c)::n.hold:=by rw[hn]
 have hit:w.heap[b]?=some (.mapIter (some g) c (seen++[i]).toArray c):=(hs.nod.2 _ (by rw[hh];exact zL1 ..)).2;have hs0:=hs;obtain⟨k0,k1,k2,ok,bs,k3,k4,h5,h6⟩:=hs;have hv:=wH (qg (fr:=st.fr) (a:=a') (x:=y) fun t _=>h6.1 t) hy;have hm:FitsE ok w bs st.mem (.pub (.mp ks xs)) (.map (some g)):=h6.2 (.pub (.mp ks xs),.map (some g)) (by rw[hn];exact zL1 ..);simp only[FitsE,Fits]at hm;obtain⟨g',arr,c',e1,_,hgm,hmb,hks,hxs⟩:=hm;injection e1 with e1;injection e1 with e1;subst e1
 have hcc:c'=c:=by rw[hmb.1,hc,←hks];simp
 subst hcc
 have hi:i<arr.size:=by
  have:=(zLg hk).1;rw[←hks]at this;simpa using this
 have hnd:(arr.toList.map (·.born)).Nodup:=by
  have:arr.toList.map (·.born)=List.range arr.size:=by
   apply List.ext_getElem?;intro j;rw[zLq,Array.getElem?_toList]
   by_cases hj:j<arr.size
   ·rw[zL5 hj,List.getElem?_range hj];simp[hmb.2 j arr[j] (zL5 hj)]
   ·rw[Array.getElem?_eq_none oM,List.getElem?_eq_none (by simpa using oM)];rfl
  rw[this];exact List.nodup_range
 have hb:=hmb.2 i arr[i] (zL5 hi)
 have hk2:arr[i].key=k:=by
  rw[←hks,zLq,Array.getElem?_toList,zL5 hi]at hk;simpa using hk
 obtain⟨u,f1,f2⟩:=hxs.get hx;rw[zLq,Array.getElem?_toList,zL5 hi]at f1;injection f1 with f1
 have hrun:=run_entry_at (P:=P) w b g c' seen.toArray arr c' arr[i] (by rw[hb,hit];simp) hgm sI hnd
 have hx2:(execOp a'.eval o).run P w=.ok (.value (.tuple #[k,u])) w:=by
  simp only[execOp,ho,hv,Sem.run_bind,hrun];rw[hk2,show arr[i].val=u from f1];rfl
 refine wpListIn_plain (j5 hg) fun K hK=>jR (j9 hg)<|qx hx2 (hK _ _ (h w0 ok0 _ _ hG hok ?_))
 exact Sit.put k0 k1 k2 k3 k4 h5 h6 (Below.refl _ _) (by
  simp only[FitsE,Fits];refine⟨[k,u],Y,_,_,Y,vX _,_,_,Y,?_,Y⟩;exact f2.mono (fun _ h=>.inl h) (fun _ _=>rfl)) (zo hd)
end
section
variable{α:Type}{enc:α->Value}[DecidableEq α]{P:Program}{G:Glob}{fr:Nat->EV}{mem:TP}{o:Oper}
theorem sh{T kt et:TypeId}{x i:Operand}{es:List (α × AV)}{a:α}{kx:AV}{z:Value}(ho:o.op=.lookup T x i true)(hx:evO fr x=.pub (yo enc es))(hi:evO fr i=.pub kx)(hk:mS kx (enc a))
  (hT:P.underlying T=some (.map kt et)) (hK:KeyT P kt enc) (hz:(P.info? et).bind (·.zero)=some z):OpY P G fr mem o (.pub (.tup [wY a (ofV z) es,.v (.bool (aZ a es))])):=
 qb fun ok bs w act _ hmo hf=>by
  have h1:=hf x (by simp[ho,Op.operands]);rw[hx]at h1;simp only[FitsE,yo,Fits]at h1;obtain⟨g,arr,c,hu,_,hg,_,hkeys,hent⟩:=h1;have h2:=hf i (by simp[ho,Op.operands]);rw[hi]at h2;simp only[FitsE]at h2;have hkv:=hk _ _ _ h2;have hobj:(getObj g).run P w=.ok (.map arr c) w:=by simp[getObj,Sem.run,hg]
  have hfind:=hK.find a arr.toList (es.map (·.1)) w (by rw[hkeys,List.map_map];rfl);obtain⟨g1,g2⟩:=bW a (ofV z) es;cases hix:vg a (es.map (·.1))with
  |none=>
   rw[hix]at hfind
   have hzv:(zeroValue et).run P w=.ok z w:=by
    rw[Option.bind_eq_some_iff]at hz;obtain⟨inf,hi1,hi2⟩:=hz;simp[zeroValue,typeInfo,hi1,hi2]
   refine⟨.tuple #[z,.bool false],?_,?_⟩
   ·simp only[execOp,ho,Instr.lookup,Sem.run_bind,run_underlying hT,Result.andThen_ok,hu,hobj,hkv,hK.check,hfind,Option.bind_none,hzv,Sem.run_pure];simp
   ·rw[(g1 hix).1,(g1 hix).2];simp only[FitsE,Fits];exact⟨[z,.bool false],Y,by simp only[FitsL,Fits];exact⟨_,_,Y,vX z,_,_,Y,⟨Y,Y⟩,Y⟩⟩
  |some j=>
   rw[hix]at hfind;obtain⟨y,hy,hget,hhas⟩:=g2 j hix;obtain⟨v,hv,hfv⟩:=hent.get (i:=j) (x:=y) (by rw[zLq,hy];rfl);rw[zLq]at hv;cases hae:arr.toList[j]?with
   |none=>rw[hae]at hv;cases hv
   |some e=>
    rw[hae]at hv;injection hv with hv
    subst hv;simp only[Option.bind_some]at hfind;rw[hae]at hfind;refine⟨.tuple #[e.val,.bool true],?_,?_⟩
    ·simp only[execOp,ho,Instr.lookup,Sem.run_bind,run_underlying hT,Result.andThen_ok,hu,hobj,hkv,hK.check,hfind,Option.bind_some,Option.map_some,Sem.run_pure];simp
    ·rw[hget,hhas];simp only[FitsE,Fits];exact⟨[e.val,.bool true],Y,by simp only[FitsL,Fits];exact⟨_,_,Y,hfv,_,_,Y,⟨Y,Y⟩,Y⟩⟩
end
end Go.Av
end
