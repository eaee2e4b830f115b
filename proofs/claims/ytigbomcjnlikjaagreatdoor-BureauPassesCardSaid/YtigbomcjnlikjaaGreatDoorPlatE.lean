import Derived.Test.YtigbomcjnlikjaaGreatDoorPlatD
import Derived.Laws.Shifts
import Derived.Laws.Entries
import Derived.Laws.Bits128
set_option linter.unusedVariables false
set_option linter.unusedSimpArgs false
set_option maxRecDepth 100000
set_option maxHeartbeats 9000000
section
namespace Go.Av
open Go.RowKit
theorem lR{n:NS}{fr:Nat->EV}{mem:TP}(d:Nat):Weak ⟨n,fr,mem⟩ ⟨n,fr,mem.set d .dead⟩:=by
 intro w0 ok0 a w ⟨h0,h1,h2,ok,bs,h3,h4,h5,h6⟩
 have get:∀(l:Nat)(o:PO),(mem.set d .dead)[l]?=some o->o.live=true->mem[l]?=some o:=fun l o h ho=>by
  by_cases e:d=l
  ·subst e
   by_cases hl:d<mem.length
   ·rw[zLi hl]at h;injection h with h;subst h;cases ho
   ·rw[List.getElem?_eq_none (by simp;omega)]at h;cases h
  ·rwa[zLn e]at h
 have ht:Turn bs bs mem (mem.set d .dead):=⟨fun l b hb=>⟨b,hb,fun rows h=>⟨rows,get l _ h rfl,zLl _,fun _=>rfl⟩⟩,fun l b b' es hb hb' h=>⟨⟨es,get l _ h rfl⟩,by rw[hb]at hb';injection hb' with hb';exact hb'.symm⟩⟩;have hf:∀(e:EV)(u:Value),FitsE ok w bs mem e u->FitsE ok w bs (mem.set d .dead) e u:=fun e u h=>h.mono (fun _ hb=>hb) (fun _ _=>rfl) ht;refine⟨h0,h1,h2,ok,bs,h3,h4,⟨by simp[h5.len],h5.lt,fun l b rows hb h=>?_,fun l b es hb h=>?_,fun l b o g hb h ho=>h5.own' l b o g hb (get l o h ho) ho,fun l l' b b' o o' g hb h ho hb' h' ho'=>h5.dist' l l' b b' o o' g hb (get l o h ho) ho hb' (get l' o' h' ho') ho'⟩,h6.map hf⟩
 ·have hr:=h5.row l b rows hb (get l _ h rfl)
  exact⟨hr.size,hr.nil,hr.pos,fun g hg=>by
   obtain⟨cur,c1,c2,c3,c4,c5⟩:=hr.blk g hg
   exact⟨cur,c1,c2,c3,c4,fun i j r x e1 e2=>by
    obtain⟨u,u1,u2,u3⟩:=c5 i j r x e1 e2;exact⟨u,u1,u2,hf _ _ u3⟩⟩⟩
 ·obtain⟨g,arr,g1,g2,g3,g4⟩:=h5.mp l b es hb (get l _ h rfl)
  exact⟨g,arr,g1,g2,g3,fun i k x e=>by
   obtain⟨v,v1,v2⟩:=g4 i k x e;exact⟨v,v1,hf _ _ v2⟩⟩
section
variable{P:Program}{G:Glob}{α:Type}{enc:α->Value}[DecidableEq α]{ops:Array Oper}
theorem vz{C:TP->Prop}{hows:Nat->How}{Q:(Nat->EV)->TP->Prop}{k:Nat}{fr:Nat->EV}{mem:TP}{o:Oper}{rest:List Oper}{e:EV}{x:PO}(R:List Nat)(l:Nat)(hk:hows k=.rw R l)(hg:o.guard=none)
  (ho:∀m:TP,Agree (l::R) m mem->C m->OpB P G fr m o e (m.set l x)/\C (m.set l x)) (h:wt P G ops C hows Q (k+1) rest (qc fr o.dst e) (mem.set l x)):wt P G ops C hows Q k (o::rest) fr mem:=
 ⟨e,mem.set l x,by rw[hk];exact⟨hg,x,rfl,ho⟩,h⟩
variable{fr:Nat->EV}{o:Oper}
end
section
variable{P:Program}{G:Glob}{st:ASt}{o:Oper}
end
theorem l6{α:Type}{size:Nat}:∀{rows:List (List α)},(∀r∈rows,r.length=size)->∀(i j:Nat)(r:List α),rows[i]?=some r->j<size->rows.flatten[i*size+j]?=r[j]?
 |[],_,i,j,r,h,_=>by simp at h
 |q::qs,hs,i,j,r,h,hj=>by
  have hq:q.length=size:=hs q sI;cases i with
  |zero=>simp at h;subst h;simp[List.getElem?_append,hq,hj]
  |succ i=>
   simp at h;have:=l6 (fun r hr=>hs r (by simp[hr])) i j r h hj;rw[List.flatten_cons,List.getElem?_append,zLy (by rw[hq,Nat.add_mul];omega),hq,show(i+1)*size+j-size=i*size+j from by rw[Nat.add_mul];omega];exact this
section
variable{P:Program}{G:Glob}{st:ASt}{o:Oper}
theorem uq{T E:TypeId}{len size l:Nat}{parts:Array (Nat × Operand)}{i:TypeInfo}{qs:List (Nat × TE)}{rows:List (TE)}(ho:o.op=.buildSlice T len parts)(hd:qB o st.n=true)
  (ht:P.underlying T=some (.slice E)) (hi:P.info? E=some i) (hsz:i.size=size) (hpos:0<size) (hz:i.zero.isSome=true) (hmax:len*size<=16777216)
  (hq:vc st.mem st.fr parts.toList qs) (hf:xA (fun i=>some (i*size,size)) (List.replicate (len*size) (.pub .top)) qs=some rows.flatten)
  (hn:∀x∈rows.flatten,x≠ .pub .top) (hl:rows.length=len) (h0l:0<len) (hrs:∀r∈rows,r.length=size) (hml:st.mem[l]?=some (.row [])):
  OpM P G st o ⟨st.n,qc st.fr o.dst (.psl l len),st.mem.set l (.row rows)⟩:=by
 subst hsz;intro w0 ok0 a w hG hok hsit K Q hK;obtain⟨h0,h1',h2,ok,bs,h3,h4,h5,h6⟩:=hsit;have hlm:l<st.mem.length:=(zLg hml).1;have hlb:l<bs.length:=by rw[h5.len];exact hlm
 have hbl:bs[l]?=some bs[l]:=by simp[hlb]
 obtain⟨z,hz⟩:=Option.isSome_iff_exists.1 hz;obtain⟨z0,hz0⟩:∃z0:Array Value,z0=if len*i.size=0 then#[]else z.cells:=⟨_,rfl⟩
 obtain⟨cs,c1,c2⟩:=fa (a:=a) (fun k=>some (k*i.size,i.size)) parts.toList qs _ rows.flatten ((Array.range (len*i.size)).map (z0[· % z0.size]!)) (fun p _=>qg fun t _=>h6.1 t) hq
  (by
   have h:=CellIs.tops (ok:=ok) (w:=w) (bs:=bs) (mem:=st.mem) ((Array.range (len*i.size)).map (z0[· % z0.size]!)).toList;rwa[show((Array.range (len*i.size)).map (z0[· % z0.size]!)).toList.map (fun _=>EV.pub .top)=List.replicate (len*i.size) (.pub .top) from by rw[List.map_const'];simp]at h) hf
 obtain⟨c3,c4⟩:=c2.fits (fun x hx=>hn x hx);have hbig:¬len*i.size>2^24:=oM
 have hne:¬len*i.size=0:=by
  have:=Nat.mul_pos h0l hpos;omega
 have hlen:len<=maxLen:=by
  have:len<=len*i.size:=Nat.le_mul_of_pos_right _ hpos;unfold maxLen;omega
 have hcs:cs.size=len*i.size:=by
  have h:=FitsEL.length c3
  have h2:∀{rows:List (TE)},(∀r∈rows,r.length=i.size)->rows.flatten.length=rows.length*i.size:=by
   intro rows
   induction rows with
   |nil=>intro _;simp
   |cons r rows ih=>
    intro hr;rw[List.flatten_cons,List.length_append,hr r (zL1 ..),ih fun q hq=>hr q (zL3 _ hq),List.length_cons,Nat.add_mul];omega
  rw[h2 hrs,hl]at h;simpa using h
 have hrun:(execOp a.eval o).run P w=.ok (.value (.slice (some ⟨w.heap.size,0,none⟩) len len)) (w.alloc (.cells cs E)):=by
  have h1':Instr.fill (fun k=>some (k*i.size,i.size)) ((Array.range (len*i.size)).map (z0[· % z0.size]!)) (parts.map fun p=>(p.1,a.eval p.2)).toList=some cs:=by simpa using c1
  have hbs:(Instr.buildSlice T len (parts.map fun p=>(p.1,a.eval p.2))).run P w=.ok (.slice (some ⟨w.heap.size,0,none⟩) len len) (w.alloc (.cells cs E)):=by
   unfold Instr.buildSlice;rw[zLy hne]at hz0;subst hz0;simp only[Sem.run_bind,run_underlying ht,Result.andThen_ok,sizeOf,typeInfo,run_program,hi,Sem.run_pure,hbig,if_false,hne,zeroValue,hz,newRow,h1'];rfl
  simp only[execOp,ho,Sem.run_bind];have e:(parts.map fun x=>match x with|(i,x)=>(i,a.eval x))=parts.map fun p=>(p.1,a.eval p.2):=rfl;rw[e,hbs];rfl
 have hturn:=h5.turn (w':=w.alloc (.cells cs E)) (b':=⟨some w.heap.size,len,E,i.size⟩) (rows':=rows) hbl hml (qu w _).size (fun k hk _=>(qu w _).block k hk) sI (fun e=>by simp at e;omega)
  (fun g hg=>by simp at hg;exact .inr (Nat.le_of_eq hg)) h2.size (fun hfit=>by
   refine⟨hrs,fun hnn=>(by simp at hnn),fun _ _=>oM,fun g hg=>?_⟩;simp at hg;subst hg;refine⟨_,heap_alloc_new w _,hcs,by simp[hl],hlen,fun i' j r x hr hx=>?_⟩
   have hj:j<i.size:=by
    have:=(zLg hx).1;rwa[hrs r (zLo hr)]at this
   have hg:=l6 hrs i' j r hr hj;rw[hx]at hg;obtain⟨u,u1,u2⟩:=c3.get hg;refine⟨u,by simpa using u1,c4 u (zLo u1),hfit _ _ u2⟩)
 refine qx hrun (hK _ _ ⟨(size_put ..).trans h0,h1'.put (.of_below (qu w _)) (zo hd),q9 h2 h2.size (qu w _),ok,_,h3,h4,hturn.1,?_⟩);refine qP (h6.map hturn.2) ?_ (fun d hdd=>by rw[h0];exact jN hd d hdd);simp only[FitsE];refine⟨⟨some w.heap.size,len,E,i.size⟩,by simp[hlb],fun rows' hr=>?_⟩;simp[hlm]at hr;subst hr;simp[PB.sl,hl]
end
end Go.Av
namespace Go.Av
open Go.RowKit Go.Proofs
section
variable{P:Program}{G:Glob}{st:ASt}{o:Oper}
end
theorem l5{n:NS}{l:List (Nat × EV)}{mem:TP}(k:Nat)(hl:fl k l)(hm:zW k (mem.take k))(hgh:∀p∈n.gh,p.1.lt k):Weak ⟨n,frL l,mem⟩ ⟨n,frL l,mem.take k⟩:=
 aX k (bQ hl) (fun i rows hi h r hr x hx=>by
  have:=wi hm (i:=i) (o:=.row rows) (by rw[zLx,zLc hi];exact h);exact this r hr x hx) hgh (fun i es hi h=>wi hm (i:=i) (o:=.map es) (by rw[zLx,zLc hi];exact h))
end Go.Av
namespace Go.Av
open Go.RowKit
section
variable{P:Program}{G:Glob}{fr:Nat->EV}{mem:TP}{o:Oper}{st:ASt}
variable{w:World}{bs:List PB}
theorem fq{ok:Nat->Prop}:∀{cs:TE}{us:List Value},FitsEL ok w bs mem cs us->FitsL ok w (cs.map yw) us
 |[],us,h=>by simpa only[List.map_nil,FitsEL,FitsL]using h
 |x::xs,us,h=>by
  simp only[FitsEL]at h;obtain⟨u,us',rfl,h1,h2⟩:=h;simp only[List.map_cons,FitsL];refine⟨u,us',Y,?_,fq h2⟩;cases x with
  |pub y=>simpa only[yw,FitsE]using h1
  |_=>simp only[yw,Fits]
theorem FitsL.cut{ok:Nat->Prop}{cs:TA}{vs:List Value}(h:FitsL ok w cs vs)(i n:Nat):FitsL ok w ((cs.drop i).take n) ((vs.drop i).take n):=by
 have hl:=h.length;refine FitsL.of_get (by simp[hl]) fun j x u hx hu=>?_;rw[zLx]at hx hu;split at hx
 ·rename_i hj
  rw[zLc hj]at hu;rw[List.getElem?_drop]at hx hu;obtain⟨u',h1,h2⟩:=h.get hx;rw[h1]at hu;injection hu with hu;subst hu;exact h2
 ·cases hx
def RR:EV->AV->Prop
 | .pub y,x=>AVle y x
 | .mix cs,x=>AVle (.agg (cs.map yw)) x
 |_,x=>x=.top
def FG(fr:Nat->EV):List Operand->TA->Prop
 |[],xs=>xs=[]
 |y::ys,xs=>∃x xs',xs=x::xs'/\RR (evO fr y) x/\FG fr ys xs'
theorem BM{ok:Nat->Prop}{e:EV}{x:AV}{u:Value}(h:RR e x)(hf:FitsE ok w bs mem e u):Fits ok w x u:=by
  cases e with
  |pub y=>simp only[FitsE]at hf;exact h _ _ _ hf
  |mix cs=>
    simp only[FitsE]at hf;obtain⟨vs,e,e1,e2⟩:=hf;refine h ok w u ?_;simp only[Fits];exact⟨vs,e,e1,fq e2⟩
  | _ => have : x = .top := h
         subst this;simp only[Fits]
theorem oq{args:Array Operand}{tys:Array TypeId}{f:FuncId}{av:TA}{r:AV}(ho:o.op=.call {callee:=.value (.func f),args:=args,argTypes:=tys})(ha:FG fr args.toList av)(hc:ACall P G f av r):OpY P G fr mem o (.pub r):=by
  intro n ok bs w a hG hn hm hfit K Q hK
  have h4:FitsL ok w av (args.toList.map a.eval):=by
    have key:∀(l:List Operand)(xs:TA),(∀y∈l,y∈o.op.operands)->FG fr l xs->FitsL ok w xs (l.map a.eval):=by
      intro l
      induction l with
      | nil => intro xs _ h; have : xs = [] := h
               subst this;simp[FitsL]
      |cons y l ih=>
        intro xs hm h;obtain⟨x,xs',rfl,h1,h2⟩:=h;simp only[List.map_cons,FitsL];exact⟨_,_,Y,BM h1 (hfit y (hm y sI)),ih xs' (fun z hz=>hm z (by simp[hz])) h2⟩
    exact key _ _ (fun y hy=>by simp only[ho,Op.operands,Call.operands,Array.mem_append];exact .inr (by simpa using hy)) ha
  unfold Oper.wp;rw[jt (us:=[]) (vs:=[]) ho hc.1 rfl];simp only[Oper.upon];refine(hc.2 ok w _ hG hm.lt (by simpa using h4)).mono fun en w' ⟨u,h5,h6,h7⟩=>?_;subst h5;exact hK u w' h6 (by simpa only[FitsE]using h7)
end
variable{k:Nat}
theorem dA:∀{l:TP},(∀o∈l,o.okL k)->zW k l
 |[],_=>trivial
 |o::l,h=>⟨h o sI,dA fun x hx=>h x (by simp[hx])⟩
theorem bB:∀{l m:TP},zW k l->zW k m->zW k (l++m)
 |[],_,_,h=>h
 |_::_,_,h,h2=>⟨h.1,bB h.2 h2⟩
theorem ab{n:NS}{fr:Nat->EV}{mem:TP}{cs:TA}(d:Tmp)(hm:mem[k]?=some (.row [cs.map .pub]))(hd:fr d=.pp k 1 0 0):
  Weak ⟨n,fr,mem⟩ ⟨n,qc fr (some d) (.pub (.ptr cs)),mem.set k .dead⟩:=by
 intro w0 ok0 a w ⟨h0,h1,h2,ok,bs,h3,h4,h5,h6⟩;have hkm:k<mem.length:=(zLg hm).1;have hlen:=h5.len;simp only at hlen h5 h6;have hkb:k<bs.length:=oM;have hb:bs[k]?=some bs[k]:=zLe hkb
 have ht:Turn bs bs mem (mem.set k .dead):=by
  refine⟨fun l b0 hb0=>⟨b0,hb0,fun rows' hr=>⟨rows',?_,zLl _,fun _=>rfl⟩⟩,fun l b0 b0' es h0 h0' hr=>?_⟩
  ·by_cases hl:k=l
   ·subst hl;rw[zLi hkm]at hr;cases hr
   ·rwa[zLn hl]at hr
  ·rw[h0]at h0';injection h0' with h0'
   by_cases hl:k=l
   ·subst hl;rw[zLi hkm]at hr;cases hr
   ·rw[zLn hl]at hr;exact⟨⟨es,hr⟩,h0'.symm⟩
 have get:∀(l:Nat)(r:PO),r.live=true->(mem.set k .dead)[l]?=some r->l≠k/\mem[l]?=some r:=fun l r hlv hr=>by
  by_cases hl:k=l
  ·subst hl;rw[zLi hkm]at hr;injection hr with hr;subst hr;cases hlv
  ·rw[zLn hl]at hr;exact⟨fun e=>hl e.symm,hr⟩
 -- what is let now
 let ok':Nat->Prop:=fun b=>ok b∨bs[k].blk=some b;have hk:∀b,ok b->ok' b:=fun b hb=>.inl hb;refine⟨h0,h1,h2,ok',bs,fun b hb=>.inl (h3 b hb),fun b hb'=>?_,⟨by simpa using hlen,fun b hb'=>?_,fun l b rows' hb' hr=>?_,fun l b es hb' hr=>?_,fun l b rows' g hb' hr ho hg=>?_,fun l l' b b' r r' g hb1 hr1 ho1 hb2 hr2 ho2 hg1 hg2=>?_⟩,fun t=>?_,fun p hp=>(h6.2 p hp).mono hk (fun _ _=>rfl) ht⟩
 ·rcases hb' with h|h
  ·exact h4 b h
  ·exact .inr (h5.own k _ _ b hb hm h).1
 ·rcases hb' with h|h
  ·exact h5.lt b h
  ·exact h5.own_lt hb hm h
 ·obtain⟨hne,hr⟩:=get l _ rfl hr;have hrow:=h5.row l b rows' hb' hr;refine⟨hrow.size,hrow.nil,hrow.pos,fun g hg=>?_⟩;obtain⟨cur,c1,c2,c3,c4,c5⟩:=hrow.blk g hg;refine⟨cur,c1,c2,c3,c4,fun i j r x hri hx=>?_⟩;obtain⟨u,d1,d2,d3⟩:=c5 i j r x hri hx;exact⟨u,d1,d2,d3.mono hk (fun _ _=>rfl) ht⟩
 ·obtain⟨hne,hr⟩:=get l _ rfl hr;obtain⟨g,arr,c1,c2,c3,c4⟩:=h5.mp l b es hb' hr;refine⟨g,arr,c1,c2,c3,fun i q x hx=>?_⟩;obtain⟨v,d1,d2⟩:=c4 i q x hx;exact⟨v,d1,d2.mono hk (fun _ _=>rfl) ht⟩
 ·obtain⟨hne,hr⟩:=get l rows' ho hr;obtain⟨e1,e2⟩:=h5.own' l b rows' g hb' hr ho hg;refine⟨e1,fun h=>?_⟩;rcases h with h|h
  ·exact e2 h
  ·exact hne (h5.dist' l k b _ rows' _ g hb' hr ho hb hm Y hg h)
 ·obtain⟨_,hr1⟩:=get l r ho1 hr1;obtain⟨_,hr2⟩:=get l' r' ho2 hr2;exact h5.dist' l l' b b' r r' g hb1 hr1 ho1 hb2 hr2 ho2 hg1 hg2
 ·simp only[vi]
  by_cases htd:t=d
  ·subst htd;simp only[if_true];have hf:FitsE ok w bs mem (fr t) (a.tmps.getD t undef):=h6.1 t;rw[hd]at hf;simp only[FitsE]at hf⊢;obtain⟨b,hb',hf⟩:=hf;rw[hb]at hb';injection hb' with hb'
   subst hb';obtain⟨g,hg,e⟩:=(hf _ hm).2 rfl;have hr:=h5.row k _ _ hb hm;obtain⟨cur,c1,c2,c3,c4,c5⟩:=hr.blk g hg;simp only[Fits];refine⟨g,0,by rw[e];simp,.inr hg,FitsC.of_get fun i x hx=>?_⟩;obtain⟨u,d1,d2,d3⟩:=c5 0 i _ (.pub x) rfl (by rw[zLq,hx];rfl);refine⟨u,?_,d2,?_⟩
   ·simp only[World.cell?,c1,Nat.zero_add];simpa using d1
   ·simp only[FitsE]at d3;exact d3.mono hk (fun _ _=>rfl)
  ·simp only[htd,if_false];exact(h6.1 t).mono hk (fun _ _=>rfl) ht
section
variable{F:Fence}{n:Nat}{P:Program}{Q:Exit->Act->World->Prop}{a:Act}{w:World}{p:FuncId->Prop}
end
end Go.Av
namespace Go.Av.Pn
open Go.Av Go.RowKit
inductive Ph where
 |on (k:Nat)
 |off (k:Nat)
 |pan (ch:List PanicEntry)
structure Cx(P:Program)(G:Glob) where
 l:Nat
 qs:List (TA)
 J:Ph->(Nat->Prop)->World->Prop
 okS:Nat->Prop
 lt:∀p M W,J p M W->∀x,M x->x<W.heap.size
 up:∀p M W x,J p M W->W.heap.size<=x->okS x
 abides:∀p M W W',J p M W->Below W.heap.size W W'->J p M W'
 round:∀(k:Nat)(M:Nat->Prop)(W:World)(ok:Nat->Prop)(us:List Value)(q:TA)(gh:List (AV × Value)),qs[k]?=some q->J (.on k) M W->G.holds W->
  (∀x,ok x->x<W.heap.size/\¬M x/\okS x)->FitsL ok W q us->(∀p∈gh,Fits ok W p.1 p.2)->
  ∃fn tmps assign body,(Instr.yield l us.toArray).run P W=.ok (.round l fn tmps assign body) W/\
   RoundIn (FW none) 0 P l fn tmps assign body W (fun e W'=>(∃(b:Bool)(M' ok':Nat->Prop),e=.returned (.bool b)/\J (if b then .on (k+1)else .off k) M' W'/\G.holds W'/\
    (∀x,ok' x->x<W'.heap.size/\¬M' x/\okS x)/\∀p∈gh,Fits ok' W' p.1 p.2)∨∃(ch:List PanicEntry)(M':Nat->Prop),e=.panicked ch/\J (.pan ch) M' W'/\G.holds W')
section
variable{P:Program}{G:Glob}(C:Cx P G)
def Cx.At(ph:Ph)(w0:World)(ok0:Nat->Prop):Prop:=∃M,C.J ph M w0/\G.holds w0/\∀x,ok0 x->x<w0.heap.size/\¬M x/\C.okS x
def Cx.lift(Q:Exit->Ph->ASt->Prop):Exit->Act->World->Prop:=fun e a w=>∃ph w0 ok0 st,C.At ph w0 ok0/\Sit w0 ok0 st a w/\Q e ph st
end
section
variable{P:Program}{G:Glob}{C:Cx P G}{ph:Ph}{st st':ASt}{Q:Exit->Ph->ASt->Prop}{ops:Array Oper}{l:List Oper}{o:Oper}
variable{w0:World}{ok0:Nat->Prop}
theorem Cx.At.ok(h:C.At ph w0 ok0):∀b,ok0 b->b<w0.heap.size:=fun b hb=>by
 obtain⟨M,_,_,h3⟩:=h;exact(h3 b hb).1
theorem Cx.At.g(h:C.At ph w0 ok0):G.holds w0:=by obtain⟨M,_,h2,_⟩:=h;exact h2
end
section
variable{P:Program}{G:Glob}{p:FuncId->Prop}{st st':ASt}{Q:Exit->ASt->Prop}{x y c:Code}
end
end Go.Av.Pn
namespace Go.Av
open Go.RowKit
section
variable{P:Program}{G:Glob}(C:Cx P G)
end
section
variable{P:Program}{G:Glob}{C:Cx P G}{ph:Ph}{st st':ASt}{Q:Exit->Ph->ASt->Prop}{ops:Array Oper}{l:List Oper}{o:Oper}
theorem xX{c:Code}(hw:Weak st st')(h:jH C c ph st' Q):jH C c ph st Q:=fun w0 ok0 a w hc hs=>h w0 ok0 a w hc (hw w0 ok0 a w hs)
end
section
variable{P:Program}{G:Glob}{fr:Nat->EV}{mem:TP}{o:Oper}
def Qq(P:Program)(fn:Func)(st:ASt)(r:EV):Prop:=fn.results.toList.length≠1/\∃xs:TE,r=.tpl xs/\lP P st fn.results.toList xs
variable{fn:Func}{T U:TypeId}{x y:Operand}
theorem rz{w:World}{ok:Nat->Prop}{bs:List PB}{n:Nat}{st:ASt}(hmo:MemOK n ok w bs st.mem){tm:Array Value}(hf:∀t,FitsE ok w bs st.mem (st.fr t) (tm.getD t undef)){r:EV}(h:Qq P fn st r):
  ∃u,(results fn tm).run P w=.ok u w/\FitsE ok w bs st.mem r u:=by
 obtain⟨hl,xs,rfl,h⟩:=h;obtain⟨us,h1,h2,h4⟩:=dF hmo hf h;refine⟨.tuple us.toArray,?_,by simp only[FitsE];exact⟨us,Y,h2⟩⟩;rw[bm,Array.mapM_eq_mapM_toList];simp only[Sem.run_bind,Sem.run_map];rw[h1];have hlen:us.length≠1:=by rw[h4];exact hl
 simp[hlen]
def AS(P:Program)(fn:Func)(gh:List (EV × Value))(hold:List (Nat × Obj))(k0:Nat)(out:MOut)(e:Exit)(st:ASt):Prop:=
 (∃more,st.mem=out.mem++more)/\zW out.mem.length out.mem/\k0<=out.mem.length/\st.n.dfs=[]/\(∀p∈gh,p∈st.n.gh)/\(∀p∈hold,p∈st.n.hold)/\match out with
  | .ret r m=>(e=.normal∨e=.ret)/\r.lt m.length/\Qq P fn st r
  | .pan v _=>∃u v',e=.panic (pnc u)/\(EV.pub v',u)∈st.n.gh/\AVle v' v
theorem lm{f:FuncId}{c:Code}{args:TE}{mem:TP}{out:MOut}(hf:P.funcs[f]?=some fn)(hb:fn.body=some c)(hnm:(fn.name== "runtime.NumGoroutine")=false)(hlen':Nat.ble args.length fn.ntmps=true)
  (h:∀gh hold,qp (r:=none) P G c ⟨⟨fn.ntmps,[],gh,false,hold⟩,frE args,mem⟩ (AS P fn gh hold mem.length out)):zv P G f args mem out:=by
 have hlen:=zLb hlen';refine⟨⟨fn,hf,hnm,by simp[hb]⟩,fun w0 ok0 ok bs w vs gh hold hG hok ⟨o1,o2,o3,o4,o5,o6⟩ hfit=>callsIn_wide.1 (callsIn_of_wp_marks (n:=0) hf hb trivial ?_)⟩;have hl:=hfit.length;refine wpIn_mono (h gh hold w0 ok0 _ w hG hok ?_) fun e a' w' ⟨st,hs,hq⟩=>?_
 ·refine⟨by simp[hl];omega,⟨Y,fun p hp=>⟨⟨⟨(o6 p hp).1.1,by simp[marksOf]⟩,(o6 p hp).1.2⟩,(o6 p hp).2⟩⟩,o1,ok,bs,o2,o3,o4,fun t=>?_,o5⟩;show FitsE ok w bs mem (match args[t]?with|some x=>x|none=>.pub .top) _
  by_cases ht:t<args.length
  ·rw[zLe ht];obtain⟨u,h1,h2⟩:=hfit.get (zLe ht);have h3:t<vs.length:=(zLg h1).1;have h4:vs[t]=u:=(zLg h1).2;simp only[zLw];rw[Array.getElem?_append_left (by simpa using h3)];simp[h3,h4,h2]
  ·rw[List.getElem?_eq_none oM];simp[FitsE,Fits]
 ·obtain⟨⟨more,hmore⟩,hmk,hk0,hdf,hgh,hho,hout⟩:=hq;obtain⟨h0,h1,h2,ok',bs',h3,h4,h5,h6⟩:=hs;have h1m:=h1.1;rw[hdf]at h1m;have hlen5:=h5.len
  -- behind the marks, and without what lies behind
  have cut:∀(w2:World)(X:List (EV × Value)),MK w0 w' w2->(∀k,k∉marksOf a'.defers->w2.heap[k]?=w'.heap[k]?)->(∀p∈X,FitsE ok' w2 bs' st.mem p.1 p.2)->(∀p∈X,p.1.lt out.mem.length)->
    ∃okx bs2,Own w0 ok0 out.mem gh hold okx bs2 w2/\∀p∈X,FitsE okx w2 bs2 out.mem p.1 p.2:=fun w2 X hw2 hkk hX hXl=>by
   have htk:st.mem.take out.mem.length=out.mem:=by rw[hmore];simp
   have hghl:∀p∈gh,p.1.lt out.mem.length:=fun p hp=>EV.lt_mono hk0 (by have:=yt (o5 p hp);rwa[o4.len]at this)
   have hsit:Sit w0 ok0 ⟨⟨a'.tmps.size,[],X++gh,st.n.mks,[]⟩,fun _=>.pub .top,st.mem⟩ {a' with defers:=[]} w2:=by
    refine⟨rfl,⟨rfl,fun p hp=>by cases hp⟩,h2.trans hw2.below,ok',bs',h3,h4,h5.marked hw2,fun t=>by simp[FitsE,Fits],fun p hp=>?_⟩;rcases List.mem_append.1 hp with hp|hp
    ·exact hX p hp
    ·exact(h6.2 p (hgh p hp)).congr hw2.cell
   have hw:=aX (n:=⟨a'.tmps.size,[],X++gh,st.n.mks,[]⟩) (fr:=fun _=>.pub .top) (mem:=st.mem) out.mem.length (fun t=>by simp[EV.lt]) (fun l rows hl hr r hrr x hx=>by
     have:=wi hmk (i:=l) (o:=.row rows) (by rw[←htk,zLx,zLc hl];exact hr);exact this r hrr x hx) (fun p hp=>by
     rcases List.mem_append.1 hp with hp|hp
     ·exact hXl p hp
     ·exact hghl p hp) (fun l es hl hes=>wi hmk (i:=l) (o:=.map es) (by rw[←htk,zLx,zLc hl];exact hes))
   obtain⟨_,_,t2,okx,bsx,t3,t4,t5,t6⟩:=hw w0 ok0 _ w2 hsit;simp only[htk]at t5 t6;refine⟨okx,bsx,⟨t2,t3,t4,t5,fun p hp=>t6.2 p (List.mem_append_right _ hp),fun p hp=>?_⟩,fun p hp=>t6.2 p (List.mem_append_left _ hp)⟩;obtain⟨k1,k2⟩:=h1.2 p (hho p hp);exact⟨⟨k1.1.1,k1.2⟩,by rw[hkk _ k1.1.2];exact k2⟩
  cases out with
  |ret r m=>
   obtain⟨he,hrl,hret⟩:=hout
   have hlv:LeavesInM Fence.wide 0 P fn a'.tmps (fun e w'=>∃ok' bs',Own w0 ok0 m gh hold ok' bs' w'/\∃u,e=.returned u/\FitsE ok' w' bs' m r u) a'.defers .returning w':=yP h1m fun w2 hw2 hkk=>by
    obtain⟨u,hu1,hu2⟩:=rz (P:=P) (st:=st) (h5.marked hw2) (tm:=a'.tmps) (fun t=>(h6.1 t).congr hw2.cell) hret;obtain⟨okx,bsx,hown,hX⟩:=cut w2 [(r,u)] hw2 hkk (fun p hp=>by rw[zLh]at hp;subst hp;exact hu2) (fun p hp=>by rw[zLh]at hp;subst hp;exact hrl);exact⟨u,hu1,okx,bsx,hown,u,Y,hX _ (List.mem_singleton_self _)⟩
   rcases he with rfl|rfl
   ·exact hlv
   ·exact hlv
  |pan v m=>
   obtain⟨u,v',rfl,hu,hv⟩:=hout;refine ym h1m fun w2 hw2 hkk=>?_
   obtain⟨okx,bsx,hown,hX⟩:=cut w2 [(.pub v',u)] hw2 hkk (fun p hp=>by
    rw[zLh]at hp;subst hp;exact(h6.2 _ hu).congr hw2.cell) (fun p hp=>by rw[zLh]at hp;subst hp;simp[EV.lt])
   have:=hX _ (List.mem_singleton_self _);simp only[FitsE]at this;exact⟨okx,bsx,hown,u,Y,hv _ _ _ this⟩
theorem qQ{gh:List (EV × Value)}{hold:List (Nat × Obj)}{k0 N:Nat}{mks:Bool}{r:EV}{m:TP}{e:Exit}{fr:Nat->EV}(more:TP)(hm:mem=m++more)(hk:zW m.length m)(h0:k0<=m.length)(he:e=.normal∨e=.ret)(hr:r.lt m.length)
  (hret:Qq P fn ⟨⟨N,[],gh,mks,hold⟩,fr,mem⟩ r):AS P fn gh hold k0 (.ret r m) e ⟨⟨N,[],gh,mks,hold⟩,fr,mem⟩:=
 ⟨⟨more,hm⟩,hk,h0,rfl,fun _ h=>h,fun _ h=>h,he,hr,hret⟩
theorem MD{p q:Int}(ho:o.op=.binOp .shr T x y U)(hx:evO fr x=I p)(hy:evO fr y=I q)(hq:0<=q)(hq2:q<=63):OpY P G fr mem o (I (p/2^q.toNat)):=
 jP ho hx hy (fun w=>by
  have hm:min q.toNat IntKind.i64.bits=q.toNat:=by
   have:IntKind.i64.bits=64:=rfl;omega
  have h1:binOp .shr T (.int .i64 p) (.int .i64 q)=Op.shift .shr .i64 p .i64 q:=rfl;rw[h1,shift_shr_any _ _ _ _ hq,hm];rfl) rfl
theorem Hz(n:Int):bits .and .i64 n 1=n % 2:=by
 have h1:(BitVec.ofInt 64 1).toNat=2^1-1:=dE
 have key:(BitVec.ofInt 64 n&&& BitVec.ofInt 64 1).toNat=(n % ((2^64:Nat):Int)).toNat % 2^1:=by
  rw[BitVec.toNat_and,BitVec.toNat_ofInt,h1,Nat.and_two_pow_sub_one_eq_mod]
 show IntKind.i64.wrap ((BitVec.ofInt 64 n&&& BitVec.ofInt 64 1).toNat:Nat)=n % 2;rw[key,IntKind.wrap_i64];omega
theorem Gs{p:Int}(ho:o.op=.binOp .and T x y U)(hx:evO fr x=I p)(hy:evO fr y=I 1):OpY P G fr mem o (I (p % 2)):=
 jP ho hx hy (fun w=>by
  have h1:binOp .and T (.int .i64 p) (.int .i64 1)=Op.intBits .and .i64 p 1:=by simp[binOp]
  rw[h1,intBits_and,Hz];rfl) rfl
end
section
variable{α:Type}{enc:α->Value}
def yo(enc:α->Value)(es:List (α × AV)):AV:=.mp (es.map fun p=>enc p.1) (es.map (·.2))
theorem dX{n:NS}{fr:Nat->EV}{mem:TP}{k:Nat}{es:List (α × AV)}(ds:List Tmp)(hm:mem[k]?=some (wM enc (es.map fun p=>(p.1,EV.pub p.2))))(hd:∀d∈ds,fr d=.mpv k):
  Weak ⟨n,fr,mem⟩ ⟨n,fun t=>bif ds.contains t then .pub (yo enc es)else fr t,mem.set k .dead⟩:=by
 intro w0 ok0 a w ⟨h0,h1,h2,ok,bs,h3,h4,h5,h6⟩;have hkm:k<mem.length:=(zLg hm).1;have hlen:=h5.len;simp only at hlen h5 h6;have hkb:k<bs.length:=oM;have hb:bs[k]?=some bs[k]:=zLe hkb
 have ht:Turn bs bs mem (mem.set k .dead):=by
  refine⟨fun l b0 hb0=>⟨b0,hb0,fun rows' hr=>⟨rows',?_,zLl _,fun _=>rfl⟩⟩,fun l b0 b0' es h0 h0' hr=>?_⟩
  ·by_cases hl:k=l
   ·subst hl;rw[zLi hkm]at hr;cases hr
   ·rwa[zLn hl]at hr
  ·rw[h0]at h0';injection h0' with h0'
   by_cases hl:k=l
   ·subst hl;rw[zLi hkm]at hr;cases hr
   ·rw[zLn hl]at hr;exact⟨⟨es,hr⟩,h0'.symm⟩
 have get:∀(l:Nat)(r:PO),r.live=true->(mem.set k .dead)[l]?=some r->l≠k/\mem[l]?=some r:=fun l r hlv hr=>by
  by_cases hl:k=l
  ·subst hl;rw[zLi hkm]at hr;injection hr with hr;subst hr;cases hlv
  ·rw[zLn hl]at hr;exact⟨fun e=>hl e.symm,hr⟩
 -- what is let now
 let ok':Nat->Prop:=fun b=>ok b∨bs[k].blk=some b;have hk:∀b,ok b->ok' b:=fun b hb=>.inl hb;refine⟨h0,h1,h2,ok',bs,fun b hb=>.inl (h3 b hb),fun b hb'=>?_,⟨by simpa using hlen,fun b hb'=>?_,fun l b rows' hb' hr=>?_,fun l b es hb' hr=>?_,fun l b rows' g hb' hr ho hg=>?_,fun l l' b b' r r' g hb1 hr1 ho1 hb2 hr2 ho2 hg1 hg2=>?_⟩,fun t=>?_,fun p hp=>(h6.2 p hp).mono hk (fun _ _=>rfl) ht⟩
 ·rcases hb' with h|h
  ·exact h4 b h
  ·exact .inr (h5.own' k _ _ b hb hm Y h).1
 ·rcases hb' with h|h
  ·exact h5.lt b h
  ·exact h5.live_lt hb hm Y h
 ·obtain⟨hne,hr⟩:=get l _ rfl hr;have hrow:=h5.row l b rows' hb' hr;refine⟨hrow.size,hrow.nil,hrow.pos,fun g hg=>?_⟩;obtain⟨cur,c1,c2,c3,c4,c5⟩:=hrow.blk g hg;refine⟨cur,c1,c2,c3,c4,fun i j r x hri hx=>?_⟩;obtain⟨u,d1,d2,d3⟩:=c5 i j r x hri hx;exact⟨u,d1,d2,d3.mono hk (fun _ _=>rfl) ht⟩
 ·obtain⟨hne,hr⟩:=get l _ rfl hr;obtain⟨g,arr,c1,c2,c3,c4⟩:=h5.mp l b es hb' hr;refine⟨g,arr,c1,c2,c3,fun i q x hx=>?_⟩;obtain⟨v,d1,d2⟩:=c4 i q x hx;exact⟨v,d1,d2.mono hk (fun _ _=>rfl) ht⟩
 ·obtain⟨hne,hr⟩:=get l rows' ho hr;obtain⟨e1,e2⟩:=h5.own' l b rows' g hb' hr ho hg;refine⟨e1,fun h=>?_⟩;rcases h with h|h
  ·exact e2 h
  ·exact hne (h5.dist' l k b _ rows' _ g hb' hr ho hb hm Y hg h)
 ·obtain⟨_,hr1⟩:=get l r ho1 hr1;obtain⟨_,hr2⟩:=get l' r' ho2 hr2;exact h5.dist' l l' b b' r r' g hb1 hr1 ho1 hb2 hr2 ho2 hg1 hg2
 ·cases hc:ds.contains t with
  |false=>
   simp only[hc,cond_false];exact(h6.1 t).mono hk (fun _ _=>rfl) ht
  |true=>
   simp only[hc,cond_true];have hf:FitsE ok w bs mem (fr t) (a.tmps.getD t undef):=h6.1 t;rw[hd t (by simpa using hc)]at hf;obtain⟨b,g,arr,e1,e2,e3,e4,e5,e6,e7⟩:=nI h5 hf hm;rw[hb]at e1;injection e1 with e1
   subst e1;simp only[FitsE,yo,Fits]
   refine⟨g,arr,_,e3,.inr e2,e4,⟨e6.symm,fun i e' he=>by
    have hi:i<(es.map fun p=>(p.1,EV.pub p.2)).length:=by rw[←e6];exact(zLr.1 he).1
    obtain⟨v,f1,_⟩:=e7 i _ _ (zLe hi);rw[f1]at he;injection he with he;rw[←he]⟩,by rw[e5];simp,FitsL.of_get (by simpa using e6) fun i x u hx hu=>?_⟩
   rw[zLq]at hx;cases hes:es[i]?with
   |none=>rw[hes]at hx;cases hx
   |some p=>
    rw[hes]at hx;injection hx with hx
    subst hx;obtain⟨v,f1,f2⟩:=e7 i p.1 (EV.pub p.2) (by rw[zLq,hes];rfl);rw[zLq,Array.getElem?_toList,f1]at hu;injection hu with hu
    subst hu;simp only[FitsE]at f2;exact f2.mono hk (fun _ _=>rfl)
variable[DecidableEq α]{P:Program}{G:Glob}{fr:Nat->EV}{mem:TP}{o:Oper}
theorem c9{T kt et:TypeId}{x i:Operand}{es:List (α × AV)}{a:α}{kx:AV}{z:Value}(ho:o.op=.lookup T x i false)(hx:evO fr x=.pub (yo enc es))(hi:evO fr i=.pub kx)(hk:mS kx (enc a))
  (hT:P.underlying T=some (.map kt et)) (hK:KeyT P kt enc) (hz:(P.info? et).bind (·.zero)=some z):OpY P G fr mem o (.pub (wY a (ofV z) es)):=
 qb fun ok bs w act _ hmo hf=>by
  have h1:=hf x (by simp[ho,Op.operands]);rw[hx]at h1;simp only[FitsE,yo,Fits]at h1;obtain⟨g,arr,c,hu,_,hg,_,hkeys,hent⟩:=h1;have h2:=hf i (by simp[ho,Op.operands]);rw[hi]at h2;simp only[FitsE]at h2;have hkv:=hk _ _ _ h2;have hobj:(getObj g).run P w=.ok (.map arr c) w:=by simp[getObj,Sem.run,hg]
  have hfind:=hK.find a arr.toList (es.map (·.1)) w (by rw[hkeys,List.map_map];rfl);obtain⟨g1,g2⟩:=bW a (ofV z) es;cases hix:vg a (es.map (·.1))with
  |none=>
   rw[hix]at hfind
   have hzv:(zeroValue et).run P w=.ok z w:=by
    rw[Option.bind_eq_some_iff]at hz;obtain⟨inf,hi1,hi2⟩:=hz;simp[zeroValue,typeInfo,hi1,hi2]
   refine⟨z,?_,by rw[(g1 hix).1];simp only[FitsE];exact vX z⟩;simp only[execOp,ho,Instr.lookup,Sem.run_bind,run_underlying hT,Result.andThen_ok,hu,hobj,hkv,hK.check,hfind,Option.bind_none,hzv,Sem.run_pure];simp
  |some j=>
   rw[hix]at hfind;obtain⟨y,hy,hget,_⟩:=g2 j hix;obtain⟨v,hv,hfv⟩:=hent.get (i:=j) (x:=y) (by rw[zLq,hy];rfl);rw[zLq]at hv;cases hae:arr.toList[j]?with
   |none=>rw[hae]at hv;cases hv
   |some e=>
    rw[hae]at hv;injection hv with hv
    subst hv;simp only[Option.bind_some]at hfind;rw[hae]at hfind;refine⟨e.val,?_,by rw[hget];simpa only[FitsE]using hfv⟩;simp only[execOp,ho,Instr.lookup,Sem.run_bind,run_underlying hT,Result.andThen_ok,hu,hobj,hkv,hK.check,hfind,Option.bind_some,Option.map_some,Sem.run_pure];simp
end
section
variable{P:Program}{G:Glob}{fr:Nat->EV}{mem:TP}{o:Oper}
theorem zr{x:Operand}{l n i j:Nat}{rows:List (TE)}(ho:o.op=.nilCheck x)(hx:evO fr x=.pp l n i j)(hm:mem[l]?=some (.row rows))(hn:rows.length=n):OpY P G fr mem o (.pp l n i j):=
 qb fun ok bs w a _ _ hfit=>by
  have h:=hfit x (by simp[ho,Op.operands]);rw[hx]at h;simp only[FitsE]at h;obtain⟨b,hb,h⟩:=h;obtain⟨h1,h2⟩:=h rows hm;obtain⟨g,hg,e⟩:=h2 hn;refine⟨.pointer (some ⟨g,i*b.size+j,none⟩),by simp[execOp,ho,e],?_⟩;simp only[FitsE];refine⟨b,hb,fun rows' hm'=>?_⟩;rw[hm]at hm';injection hm' with hm'
  injection hm' with hm'
  subst hm';exact⟨h1,fun _=>⟨g,hg,Y⟩⟩
variable{st:ASt}
variable{mem':TP}{f:FuncId}{args:Array Operand}{tys:Array TypeId}
theorem rZ{ok ok':Nat->Prop}{w w':World}{bs bs':List PB}{e:EV}(hl:bs'.length=mem'.length)(hbl:bs.length=mem.length)(hle:mem.length<=mem'.length)(hk:∀l,l<mem.length->mem'[l]?=mem[l]?)(h:FitsE ok w bs mem e undef):FitsE ok' w' bs' mem' e undef:=by
 have get:∀{l:Nat}{b:PB},bs[l]?=some b->l<mem.length/\∃b',bs'[l]?=some b':=fun{l b} hb=>by
  have h1:l<bs.length:=(zLg hb).1;exact⟨oM,bs'[l],zLe oM⟩
 cases e with
 |pub y=>
  have:=bq (ok':=ok') (w':=w') h;simpa only[FitsE,yw]using this
 |psl l n=>
  simp only[FitsE]at h⊢;obtain⟨b,hb,h⟩:=h;obtain⟨h1,b',hb'⟩:=get hb;refine⟨b',hb',fun rows hr=>?_⟩;rw[hk l h1]at hr;refine⟨(h rows hr).1,fun hn=>?_⟩;have:=(h rows hr).2 hn;unfold PB.sl at this;split at this<;>exact absurd this (by simp[undef])
 |pp l n i j=>
  simp only[FitsE]at h⊢;obtain⟨b,hb,h⟩:=h;obtain⟨h1,b',hb'⟩:=get hb;refine⟨b',hb',fun rows hr=>?_⟩;rw[hk l h1]at hr;refine⟨(h rows hr).1,fun hn=>?_⟩;obtain⟨g,_,e⟩:=(h rows hr).2 hn;exact absurd e (by simp[undef])
 |ppT l n T=>
  simp only[FitsE]at h⊢;obtain⟨b,hb,h⟩:=h;obtain⟨h1,b',hb'⟩:=get hb;refine⟨b',hb',fun rows hr=>?_⟩;rw[hk l h1]at hr;refine⟨(h rows hr).1,fun hn=>?_⟩;obtain⟨g,_,_,_,e⟩:=(h rows hr).2 hn;exact absurd e (by simp[undef])
 |pslT l n T=>
  simp only[FitsE]at h⊢;obtain⟨b,hb,h⟩:=h;obtain⟨h1,b',hb'⟩:=get hb;refine⟨b',hb',fun rows hr=>?_⟩;rw[hk l h1]at hr;refine⟨(h rows hr).1,fun hn=>?_⟩;have:=((h rows hr).2 hn).1;unfold PB.sl at this;split at this<;>exact absurd this (by simp[undef])
 |mpv l=>
  simp only[FitsE]at h⊢;obtain⟨b,hb,h⟩:=h;obtain⟨h1,b',hb'⟩:=get hb;refine⟨b',hb',fun es hr=>?_⟩;rw[hk l h1]at hr;obtain⟨g,_,e⟩:=h es hr;exact absurd e (by simp[undef])
 |mix cs=>
  simp only[FitsE]at h;obtain⟨vs,e,_⟩:=h;exact absurd e (by simp[undef])
 |fnm f fs cs=>
  simp only[FitsE]at h;obtain⟨us,vs,e,_⟩:=h;exact absurd e (by simp[undef])
 |tpl cs=>
  simp only[FitsE]at h⊢;obtain⟨vs,e,h⟩:=h
  have hv:vs=[]:=by
   cases vs with
   |nil=>rfl
   |cons a l=>exact absurd e (by simp[undef])
  subst hv;cases cs with
  |nil=>exact⟨[],e,by simp[FitsEL]⟩
  |cons c cs=>simp[FitsEL]at h
theorem IT{fs cs av:TE}{r:EV}{fop:Operand}(ho:o.op=.call {callee:=.value fop,args:=args,argTypes:=tys})(hd:qB o st.n=true)(hf:iO (evO st.fr fop) f fs cs)(ha:kS st.fr args.toList av)
  (hc:zv P G f (fs++av++cs) st.mem (.ret r mem')) (hle:st.mem.length<=mem'.length) (hk:∀l,l<st.mem.length->mem'[l]?=st.mem[l]?):OpM P G st o ⟨st.n,qc st.fr o.dst r,mem'⟩:=by
 intro w0 ok0 a w hG hok hs K Q hK;have hsz:=hs.size;obtain⟨args',hex,hcall⟩:=yF ho hf ha hc hG hok hs;obtain⟨g0,_,_,ok,bs,_,_,g5,g6⟩:=hs;unfold Oper.wp;rw[hex];simp only[Oper.upon];refine hcall.mono fun en w' ⟨ok',bs',q2,q3,q1,q4,q5,q6,u,he,hu⟩=>?_;subst he
 have q7:Slots ok' w' bs' mem' st.n st.fr a:=by
  refine⟨fun t=>?_,q5.2⟩;have h:=q5.1 t;unfold xf at h;cases hb:Nat.blt t st.n.n with
  |true=>rw[hb]at h;exact h
  |false=>
   have hge:¬t<st.n.n:=fun ht=>by rw[show Nat.blt t st.n.n=true by simpa[Nat.blt_eq]using ht]at hb;cases hb
   have hud:a.tmps.getD t undef=undef:=by simp[zLw,Array.getElem?_eq_none (by omega:a.tmps.size<=t)]
   have h7:=g6.1 t;rw[hud]at h7⊢;exact rZ q4.len g5.len hle hk h7
 refine hK _ _ ⟨(size_put ..).trans hsz,?_,q1,ok',bs',q2,q3,q4,qP q7 hu (fun d e=>by rw[hsz];exact(zo hd d e).1)⟩
 have hn:=q6 (a.put o.dst u).tmps (fun t ht=>by
  cases hdd:o.dst with
  |none=>rfl
  |some d=>
   have hne:t≠d:=fun e=>(zo hd d hdd).2 (e▸ht);simp only[Act.put,jy,hne,false_and,if_false])
 have e:({a with tmps:=(a.put o.dst u).tmps}:Act)=a.put o.dst u:=by
  unfold Act.put;split<;>rfl
 rw[e]at hn;exact hn
theorem aN{fr2:Nat->EV}:∀{l:List Operand}{av:TE},(∀y∈l,evO fr2 y=evO fr y)->kS fr l av->kS fr2 l av
 |[],[],_,_=>trivial
 |x::xs,c::cs,h,ha=>⟨(h x (zL1 ..)).trans ha.1,aN (fun y hy=>h y (zL3 _ hy)) ha.2⟩
 |[],_::_,_,ha=>ha.elim
 |_::_,[],_,ha=>ha.elim
theorem vS{mem:TP}{av:TE}{r:EV}(ho:o.op=.call {callee:=.value (.func f),args:=args,argTypes:=tys})(ha:kS fr args.toList av)
  (hc:zv P G f av mem (.ret r mem')) (hle:mem.length<=mem'.length) (hk:∀l,l<mem.length->mem'[l]?=mem[l]?):OpB P G fr mem o r mem':=fun n fr2 he hd=>
 IT (st:=⟨n,fr2,mem⟩) (fs:=[]) (cs:=[]) ho hd ⟨rfl,rfl,rfl⟩ (aN (fun y hy=>he y (by simp only[ho,Op.operands,Call.operands];first|exact zL3 _ hy|(simp;exact .inr (by simpa using hy))|(simp;simpa using hy))) ha) (by simpa using hc) hle hk
end
theorem PO.okL_mono{k k':Nat}(h:k<=k'):∀{o:PO},o.okL k->o.okL k'
 | .dead,_=>by simp[PO.okL]
 | .row rows,hl=>fun r hr x hx=>EV.lt_mono h (hl r hr x hx)
 | .map es,hl=>fun p hp=>EV.lt_mono h (hl p hp)
theorem dU{k k':Nat}(h:k<=k'):∀{l:TP},zW k l->zW k' l
 |[],_=>trivial
 |_::_,hl=>⟨PO.okL_mono h hl.1,dU h hl.2⟩
variable{mem:TP}{p q:Prop}
theorem gK{n:Nat}{ok:Nat->Prop}{w:World}{bs:List PB}(h:MemOK n ok w bs mem):zW mem.length mem:=dA fun o ho=>by
 obtain⟨l,hl,e⟩:=List.mem_iff_getElem.1 ho;have hm:mem[l]?=some o:=by rw[zLe hl,e]
 have hlb:l<bs.length:=by rw[h.len];exact hl
 have hb:bs[l]?=some bs[l]:=zLe hlb;cases o with
 |dead=>simp[PO.okL]
 |row rows=>
  intro r hr x hx;have hrow:=h.row l _ rows hb hm;cases hg:bs[l].blk with
  |none=>rw[hrow.nil hg]at hr;cases hr
  |some g=>
   obtain⟨cur,_,_,_,_,c5⟩:=hrow.blk g hg;obtain⟨i,hi,ei⟩:=List.mem_iff_getElem.1 hr;obtain⟨j,hj,ej⟩:=List.mem_iff_getElem.1 hx;obtain⟨u,_,_,hu⟩:=c5 i j r x (by rw[zLe hi,ei]) (by rw[zLe hj,ej]);rw[←h.len];exact yt hu
 |map es=>
  intro p hp;obtain⟨g,arr,_,_,_,c4⟩:=h.mp l _ es hb hm;obtain⟨i,hi,ei⟩:=List.mem_iff_getElem.1 hp;obtain⟨v,_,hv⟩:=c4 i p.1 p.2 (by rw[zLe hi,ei]);rw[←h.len];exact yt hv
section
variable{P:Program}{G:Glob}{f:FuncId}{args:TE}{mem:TP}{out:MOut}
theorem bP(he:Enters P f)(h:zW mem.length mem->zv P G f args mem out):zv P G f args mem out:=
 ⟨he,fun w0 ok0 ok bs w vs gh hold hG hok ho hf=>(h (gK ho.mok)).2 w0 ok0 ok bs w vs gh hold hG hok ho hf⟩
variable{fn:Func}{T:TypeId}{n:Nat}{x:Operand}
theorem xC{c:Code}(hf:P.funcs[f]?=some fn)(hb:fn.body=some c)(hnm:(fn.name== "runtime.NumGoroutine")=false)(hlen':Nat.ble args.length fn.ntmps=true)
  (h:∀gh hold,zW mem.length mem->qp (r:=none) P G c ⟨⟨fn.ntmps,[],gh,false,hold⟩,frE args,mem⟩ (CL P fn gh hold mem.length out)):zv P G f args mem out:=
 bP ⟨fn,hf,hnm,by simp[hb]⟩ fun hk=>y3 hf hb hnm hlen' fun gh hold=>h gh hold hk
theorem uu{c:Code}(hf:P.funcs[f]?=some fn)(hb:fn.body=some c)(hnm:(fn.name== "runtime.NumGoroutine")=false)(hlen':Nat.ble args.length fn.ntmps=true)
  (h:∀gh hold,zW mem.length mem->qp (r:=none) P G c ⟨⟨fn.ntmps,[],gh,false,hold⟩,frE args,mem⟩ (AS P fn gh hold mem.length out)):zv P G f args mem out:=
 bP ⟨fn,hf,hnm,by simp[hb]⟩ fun hk=>lm hf hb hnm hlen' fun gh hold=>h gh hold hk
theorem yv{fr:Nat->EV}{o:Oper}(ho:o.op=.makeMap T none)(hn:mem.length=n):OpB P G fr mem o (.mpv n) (mem++[.map []]):=fun N fr2 he hd=>by
 subst hn;exact vR (P:=P) (G:=G) (st:=⟨N,fr2,mem⟩) ho hd
variable{fr:Nat->EV}{o:Oper}
theorem oP{U E:TypeId}{l i j:Nat}{rows:List (TE)}(ho:o.op=.binOp .eql T x (.const (.pointer none)) U)(hx:evO fr x=.pp l n i j)(hm:mem[l]?=some (.row rows))(hn:rows.length=n)(ht:P.underlying T=some (.pointer E)):OpY P G fr mem o (B false):=
 qb fun ok bs w a _ _ hf=>by
  have h:=hf x (by simp[ho,Op.operands]);rw[hx]at h;simp only[FitsE]at h;obtain⟨b,hb,h⟩:=h;obtain⟨g,hg,e⟩:=(h rows hm).2 hn;refine⟨.bool false,?_,qA Y⟩;have e2:a.eval (.const (.pointer none))=.pointer none:=rfl;have hgd:(eqGuard .eql T x (.const (.pointer none)) (.pointer (some ⟨g,i*b.size+j,none⟩)) (.pointer none)).run P w=.ok () w:=by simp[eqGuard]
  have hd:∀d:Nat,(Op.equalIn (d+1) T (.pointer (some ⟨g,i*b.size+j,none⟩)) (.pointer none)).run P w=.ok false w:=fun d=>by simp[Op.equalIn,run_underlying ht]
  have hb:(binOp .eql T (.pointer (some ⟨g,i*b.size+j,none⟩)) (.pointer none)).run P w=.ok (.bool false) w:=by
   simp only[binOp];simp[Op.equal,Op.maxDepth,hd 9999]
  simp only[execOp,ho,e,e2,Sem.run_bind,hgd,hb,Result.andThen_ok];rfl
theorem y8{parts:Array (Nat × Operand)}{size:Nat}{zs:List Value}{qs:List (Nat × TE)}{cs:TE}(ho:o.op=.build T parts)(hs:wL P T size zs)
  (hz:zs.all Value.oneCell'=true) (hq:vc mem fr parts.toList qs) (hf:xA (fun i=>some (i*size,size)) (zs.map fun v=>.pub (.v v)) qs=some cs) (hn:∀x∈cs,x≠ .pub .top):OpY P G fr mem o (.mix cs):=
 qb fun ok bs w a _ _ hfit=>by
  obtain⟨us,h1,h2,h3⟩:=ac ho (dQ hs) hz hq hf hn hfit;exact⟨_,h1,by simp only[FitsE];exact⟨us,Y,h2,h3⟩⟩
theorem qy{y:Operand}{cs:TE}{c:EV}{p:Int}(ho:o.op=.index T x y)(hx:evO fr x=.mix cs)(hy:evO fr y=I p)(ht:vy P T n 1=true)
  (hel:∀e,P.underlying T=some (.array n e)->zS P e false 1=true) (hp:0<=p) (hlt:p<n) (hc:cs[p.toNat]?=some c):OpY P G fr mem o c:=
 qb fun ok bs w a _ _ hfit=>by
  have h:=hfit x (by simp[ho,Op.operands]);have h2:=wH (hfit y (by simp[ho,Op.operands])) hy;rw[hx]at h;simp only[FitsE]at h;obtain⟨vs,e,_,h3⟩:=h;obtain⟨el,he,hs⟩:=nv ht;obtain⟨u,h4,h5⟩:=h3.get hc;have hin:0<=p/\p<(n:Int):=⟨hp,hlt⟩;have hlt':p.toNat<vs.length:=(zLg h4).1;have h4':vs[p.toNat]=u:=(zLg h4).2;refine⟨u,?_,h5⟩;simp[execOp,ho,e,h2,Instr.index,asIntOf,run_underlying he,hin,hs,part,yf (hel el he),hlt',h4']
end
mutual
/-- What stands in a slot, seen from outside. -/
inductive DV(mem:TP):EV->AV->Prop
 |pub {x y:AV}:AVle x y->DV mem (.pub x) y
 |top {e:EV}:DV mem e .top
 |psl {l n:Nat} {rows:List (TE)} {vs:List (TA)}:mem[l]?=some (.row rows)->rows.length=n->DVR mem rows vs->DV mem (.psl l n) (.sl vs)
 |pp {l n i j:Nat} {rows:List (TE)} {r:TE} {cs:TA}:mem[l]?=some (.row rows)->rows.length=n->rows[i]?=some r->DVL mem (r.drop j) cs->DV mem (.pp l n i j) (.ptr cs)
 |mix {cs:TE} {ys:TA}:DVL mem cs ys->DV mem (.mix cs) (.agg ys)
 |fnm {f:FuncId} {fs cs:TE} {gs hs:TA}:DVL mem fs gs->DVL mem cs hs->DV mem (.fnm f fs cs) (.fn f gs hs)
 |mpv {l:Nat} {es:List (Value × EV)} {xs:TA}:mem[l]?=some (.map es)->DVL mem (es.map (·.2)) xs->DV mem (.mpv l) (.mp (es.map (·.1)) xs)
inductive DVL(mem:TP):TE->TA->Prop
 |nil:DVL mem [] []
 |cons {c:EV} {y:AV} {cs:TE} {ys:TA}:DV mem c y->DVL mem cs ys->DVL mem (c::cs) (y::ys)
inductive DVR(mem:TP):List (TE)->List (TA)->Prop
 |nil:DVR mem [] []
 |cons {r:TE} {v:TA} {rs:List (TE)} {vs:List (TA)}:DVL mem r v->DVR mem rs vs->DVR mem (r::rs) (v::vs)
end
section
variable{ok ok':Nat->Prop}{w:World}{bs:List PB}{mem:TP}{n:Nat}
def FL(ok':Nat->Prop)(w:World)(ok:Nat->Prop)(bs:List PB)(mem:TP)(cs:TE)(ys:TA):Prop:=cs.length=ys.length/\∀(i:Nat)(c:EV)(y:AV),cs[i]?=some c->ys[i]?=some y->∀u,FitsE ok w bs mem c u->Fits ok' w y u
theorem FL.fits{cs:TE}{ys:TA}(h:FL ok' w ok bs mem cs ys):∀{us:List Value},FitsEL ok w bs mem cs us->FitsL ok' w ys us:=fun{us} hf=>by
 have hl:=hf.length;refine FitsL.of_get (by rw[hl,h.1]) fun i x u hx hu=>?_;have hi:i<cs.length:=by have:=(zLg hx).1;have:=h.1;omega
 obtain⟨u',h1,h2⟩:=hf.get (zLe hi);rw[h1]at hu;injection hu with hu;subst hu
 exact h.2 i _ x (zLe hi) hx _ h2
theorem mU(hmo:MemOK n ok w bs mem)(hk:∀b,ok b->ok' b)(hp:∀b,n<=b->b<w.heap.size->ok' b):∀{e:EV}{x:AV},DV mem e x->∀u,FitsE ok w bs mem e u->Fits ok' w x u:=fun{e x} h=>by
 refine DV.rec (mem:=mem) (motive_1:=fun e x _=>∀u,FitsE ok w bs mem e u->Fits ok' w x u) (motive_2:=fun cs ys _=>FL ok' w ok bs mem cs ys)
  (motive_3:=fun rs vs _=>rs.length=vs.length/\∀(i:Nat)(r:TE)(v:TA),rs[i]?=some r->vs[i]?=some v->FL ok' w ok bs mem r v) ?_ ?_ ?_ ?_ ?_ ?_ ?_ ?_ ?_ ?_ ?_ h
 ·intro x y hle u hf;simp only[FitsE]at hf;exact hle _ _ _ (hf.mono hk (fun _ _=>rfl))
 ·intro e u _;simp only[Fits]
 ·intro l k rows vs hm hn _ ih u hf;simp only[FitsE]at hf;obtain⟨b,hb,hf⟩:=hf;have e:=(hf rows hm).2 hn;have hr:=hmo.row l b rows hb hm;have hlv:rows.length=vs.length:=ih.1;simp only[Fits];cases hg:b.blk with
  |none=>
   have h0:=hr.nil hg;subst h0;have hv:vs=[]:=List.eq_nil_of_length_eq_zero (by simpa using hlv.symm);subst hv;simp only[PB.sl,hg]at e;exact⟨none,0,0,by rw[e];rfl,sI,by simp[maxLen],sI,sI⟩
  |some g=>
   obtain⟨cur,c1,c2,c3,c4,c5⟩:=hr.blk g hg;simp only[PB.sl,hg]at e
   have hsz:∀r∈vs,r.length=b.size:=fun r hr'=>by
    obtain⟨i,hi,ei⟩:=List.mem_iff_getElem.1 hr';have hi2:i<rows.length:=oM;have:=ih.2 i rows[i] r (zLe hi2) (by rw[zLe hi,ei]);rw[←this.1];exact hr.size _ (zLm hi2)
   refine⟨_,b.cap,b.size,by rw[e,←hn,hlv],oM,c4,hsz,fun _=>⟨g,0,Y,hp g (hmo.own l b _ g hb hm hg).1 (hmo.own_lt hb hm hg),FitsR.of_get hsz fun i r hri=>FitsC.of_get fun j x hx=>?_⟩⟩;have hi:i<vs.length:=(zLg hri).1;have hi2:i<rows.length:=oM;have hfl:=ih.2 i rows[i] r (zLe hi2) hri;have hj:j<r.length:=(zLg hx).1;have hj2:j<(rows[i]).length:=by rw[hfl.1];exact hj
   obtain⟨u',d1,d2,d3⟩:=c5 i j rows[i] (rows[i])[j] (zLe hi2) (zLe hj2);refine⟨u',?_,d2,hfl.2 j _ x (zLe hj2) hx _ d3⟩;rw[cell_of_row w g _ cur _ _ c1];simpa using d1
 ·intro l k i j rows r cs hm hn hr _ ih u hf;simp only[FitsE]at hf;obtain⟨b,hb,hf⟩:=hf;obtain⟨g,hg,e⟩:=(hf rows hm).2 hn;have hrow:=hmo.row l b rows hb hm;obtain⟨cur,c1,c2,c3,c4,c5⟩:=hrow.blk g hg;simp only[Fits];refine⟨g,i*b.size+j,e,hp g (hmo.own l b _ g hb hm hg).1 (hmo.own_lt hb hm hg),FitsC.of_get fun q x hx=>?_⟩;have hq:q<cs.length:=(zLg hx).1;have hq2:q<(r.drop j).length:=by rw[ih.1];exact hq
  have hq3:(r.drop j)[q]?=some (r.drop j)[q]:=zLe hq2;have hq4:r[j+q]?=some (r.drop j)[q]:=by rw[←hq3,List.getElem?_drop]
  obtain⟨u',d1,d2,d3⟩:=c5 i (j+q) r _ hr hq4;refine⟨u',?_,d2,ih.2 q _ x hq3 hx _ d3⟩;rw[cell_of_row w g _ cur _ _ c1,Nat.add_assoc];exact d1
 ·intro cs ys _ ih u hf;simp only[FitsE]at hf;obtain⟨vs,e,h1,h2⟩:=hf;simp only[Fits];exact⟨vs,e,h1,ih.fits h2⟩
 ·intro f fs cs gs hs _ _ ih1 ih2 u hf;simp only[FitsE]at hf;obtain⟨us,vs,e,h1,h2⟩:=hf;simp only[Fits];exact⟨us,vs,e,ih1.fits h1,ih2.fits h2⟩
 ·intro l es xs hm _ ih u hf;simp only[FitsE]at hf;obtain⟨b,hb,hf⟩:=hf;obtain⟨g,hg,e⟩:=hf es hm;obtain⟨g',arr,a1,a2,a3,a4⟩:=hmo.mp l b es hb hm;rw[hg]at a1;injection a1 with a1;subst a1
  simp only[Fits];have hle:xs.length=es.length:=by rw[←ih.1];simp
  refine⟨g,arr,es.length,e,hp g (hmo.own' l b _ g hb hm Y hg).1 (hmo.live_lt hb hm Y hg),a2,⟨a3.symm,fun i e' he=>?_⟩,?_,FitsL.of_get (by simp[a3,hle]) fun i x u hx hu=>?_⟩
  ·have hi:i<es.length:=by rw[←a3];exact(zLr.1 he).1
   obtain⟨v,b1,_⟩:=a4 i es[i].1 es[i].2 (zLe hi);rw[b1]at he;injection he with he;rw[←he]
  ·apply List.ext_getElem?;intro i;rw[zLq,zLq,Array.getElem?_toList]
   by_cases hi:i<es.length
   ·obtain⟨v,b1,_⟩:=a4 i es[i].1 es[i].2 (zLe hi);rw[b1,zLe hi];rfl
   ·rw[Array.getElem?_eq_none oM,List.getElem?_eq_none oM];rfl
  ·have hi:i<es.length:=by have:=(zLg hx).1;omega
   obtain⟨v,b1,b2⟩:=a4 i es[i].1 es[i].2 (zLe hi)
   have:u=v:=by
    rw[zLq,Array.getElem?_toList,b1]at hu;simpa using hu.symm
   subst this;exact ih.2 i es[i].2 x (by rw[zLq,zLe hi];rfl) hx _ b2
 ·exact⟨Y,fun i c y h=>by simp at h⟩
 ·intro c y cs ys _ _ ih1 ih2;refine⟨by simp[ih2.1],fun i c' y' h1 h2=>?_⟩;cases i with
  |zero=>simp at h1 h2;subst h1;subst h2;exact ih1
  |succ i=>exact ih2.2 i c' y' (by simpa using h1) (by simpa using h2)
 ·exact⟨Y,fun i r v h=>by simp at h⟩
 ·intro r v rs vs _ _ ih1 ih2;refine⟨by simp[ih2.1],fun i c' y' h1 h2=>?_⟩;cases i with
  |zero=>simp at h1 h2;subst h1;subst h2;exact ih1
  |succ i=>exact ih2.2 i c' y' (by simpa using h1) (by simpa using h2)
variable{P:Program}{G:Glob}{fr:Nat->EV}{o:Oper}
def oI(mem:TP)(fr:Nat->EV):List Operand->TA->Prop
 |[],[]=>True
 |x::xs,c::cs=>DV mem (evO fr x) c/\oI mem fr xs cs
 |_,_=>False
theorem kP(hmo:MemOK n ok w bs mem){a:Act}:∀{l:List Operand}{cs:TA},(∀y∈l,FitsE ok w bs mem (evO fr y) (a.eval y))->oI mem fr l cs->FitsL (fun b=>b<w.heap.size) w cs (l.map a.eval)
 |[],[],_,_=>by simp[FitsL]
 |x::xs,c::cs,hf,hh=>by
  simp only[List.map_cons,FitsL];exact⟨_,_,Y,mU hmo (fun b hb=>hmo.lt b hb) (fun b _ hb=>hb) hh.1 _ (hf x sI),kP hmo (fun y hy=>hf y (by simp[hy])) hh.2⟩
 |[],_::_,_,hh=>hh.elim
 |_::_,[],_,hh=>hh.elim
theorem EE(hmo:MemOK n ok w bs mem){cs:TE}{ys:TA}{us:List Value}(h:DVL mem cs ys)(hf:FitsEL ok w bs mem cs us):FitsL (fun b=>b<w.heap.size) w ys us:=by
 have h1:=mU hmo (ok':=fun b=>b<w.heap.size) (fun b hb=>hmo.lt b hb) (fun b _ hb=>hb) (DV.fnm (f:=0) DVL.nil h) (.func (.func 0) #[] us.toArray) (by simp only[FitsE];exact⟨[],us,rfl,by simp[FitsEL],hf⟩);simp only[Fits]at h1;obtain⟨us',vs',e,_,h2⟩:=h1;injection e with _ _ e2
 have:us=vs':=by simpa using zLz Array.toList e2
 subst this;exact h2
theorem jc{args:Array Operand}{tys:Array TypeId}{f:FuncId}{av:TA}{r:AV}(ho:o.op=.call {callee:=.value (.func f),args:=args,argTypes:=tys})(ha:oI mem fr args.toList av)(hr:r.flat=true)(hc:ACall P G f av r):OpY P G fr mem o (.pub r):=by
 intro n ok bs w a hG hn hm hfit K Q hK;have h4:FitsL (fun b=>b<w.heap.size) w av (args.toList.map a.eval):=kP hm (fun y hy=>hfit y (by simp only[ho,Op.operands,Call.operands,Array.mem_append];exact .inr (by simpa using hy))) ha;unfold Oper.wp;rw[jt (us:=[]) (vs:=[]) ho hc.1 rfl];simp only[Oper.upon];refine(hc.2 _ w _ hG (fun b hb=>hb) (by simpa using h4)).mono fun en w' ⟨u,h5,h6,h7⟩=>?_;subst h5;refine hK u w' h6 ?_;simp only[FitsE];exact ak hr h7
theorem ACall.d{f:FuncId}{args:TE}{av:TA}{r:AV}(h:ACall P G f av r)(hd:DVL mem args av)(hr:r.flat=true):zv P G f args mem (.ret (.pub r) mem):=
 ⟨h.1,fun w0 ok0 ok bs w vs gh hold hG hok ho hfit=>(h.2 (fun b=>b<w.heap.size) w vs (G.stable _ _ hG ho.below) (fun b hb=>hb) (EE ho.mok hd hfit)).mono fun e w' ⟨u,he,hb,hu⟩=>by
  refine⟨okN ok w w',bs,⟨q9 ho.below ho.below.size hb,fun b hb'=>.inl (ho.up b hb'),fun b hb'=>?_,ho.mok.grow hb,fun p hp=>(ho.gh p hp).grow ho.mok.lt hb,fun p hp=>⟨(ho.hold p hp).1,?_⟩⟩,u,he,by simpa only[FitsE]using ak hr hu⟩
  ·rcases hb' with h|h
   ·exact ho.dn b h
   ·exact .inr (zL6 ho.below.size h.1)
  ·rw[hb.block _ (zLr.1 (ho.hold p hp).2).1];exact(ho.hold p hp).2⟩
variable{f:FuncId}{args:TE}{out:MOut}
theorem Rh{w0:World}{ok0:Nat->Prop}{st:ASt}{a:Act}(h:Sit w0 ok0 st a w):zW st.mem.length st.mem:=by
 obtain⟨_,_,_,ok,bs,_,_,h5,_⟩:=h;exact gK h5
variable{c:Code}{fn:Func}{k:Nat}
theorem uY{r:Option Nat}{st:ASt}{Q:Exit->ASt->Prop}(h:qp (r:=r) P G c st (fun e st=>zW st.mem.length st.mem->Q e st)):qp (r:=r) P G c st Q:=fun w0 ok0 a w hG hok hs=>
 wpIn_mono (h w0 ok0 a w hG hok hs) fun e a' w' ⟨st',h1,h2⟩=>⟨st',h1,h2 (Rh h1)⟩
theorem DI(hf:P.funcs[f]?=some fn)(hb:fn.body=some c)(hnm:(fn.name== "runtime.NumGoroutine")=false)(hlen':Nat.ble args.length fn.ntmps=true)
  (h:∀gh hold,zW mem.length mem->qp (r:=none) P G c ⟨⟨fn.ntmps,[],gh,false,hold⟩,frE args,mem⟩ (fun e st=>zW st.mem.length st.mem->CL P fn gh hold mem.length out e st)):zv P G f args mem out:=
 xC hf hb hnm hlen' fun gh hold hk=>uY (h gh hold hk)
theorem jd(hf:P.funcs[f]?=some fn)(hb:fn.body=some c)(hnm:(fn.name== "runtime.NumGoroutine")=false)(hlen':Nat.ble args.length fn.ntmps=true)
  (h:∀gh hold,zW mem.length mem->qp (r:=none) P G c ⟨⟨fn.ntmps,[],gh,false,hold⟩,frE args,mem⟩ (fun e st=>zW st.mem.length st.mem->AS P fn gh hold mem.length out e st)):zv P G f args mem out:=
 uu hf hb hnm hlen' fun gh hold hk=>uY (h gh hold hk)
theorem dK:∀{l m:TP},zW k (l++m)->zW k l
 |[],_,_=>trivial
 |_::_,_,h=>⟨h.1,dK h.2⟩
theorem iI{l:TP}:zW k l↔∀o∈l,o.okL k:=
 ⟨fun h o ho=>by
  obtain⟨i,hi,e⟩:=List.mem_iff_getElem.1 ho;exact wi h (by rw[zLe hi,e]),fun h=>dA h⟩
theorem qY{i:Nat}{l:TP}{x:PO}(h:zW k l)(hx:x.okL k):zW k (l.set i x):=iI.2 fun o ho=>by
 rcases List.mem_or_eq_of_mem_set ho with ho|rfl
 ·exact iI.1 h o ho
 ·exact hx
end
section
variable{A xs:TP}{n k:Nat}{o:PO}
theorem ql(h:A[k]?=some o):(A++xs)[k]?=some o:=by
 rw[zLf (zLg h).1];exact h
theorem jk(hn:A.length=n):(A++xs)[n+k]?=xs[k]?:=by
 rw[zL4 oM];congr 1;omega
variable{x:PO}
theorem jX(h:k<A.length):(A++xs).set k x=A.set k x++xs:=List.set_append_left _ _ h
theorem aS(hn:A.length=n):(A++xs).set (n+k) x=A++xs.set k x:=by
 rw[List.set_append_right _ _ oM];congr 2;omega
theorem zT{i:Nat}{y:PO}(hne:i≠k)(h:A[k]?=some y):(A.set i x)[k]?=some y:=by rw[zLn hne];exact h
theorem zj{y:PO}(h:A[k]?=some y):(A.set k x)[k]?=some x:=zLi (zLg h).1
end
mutual
theorem DV.app{mem xs:TP}:∀{e:EV}{x:AV},DV mem e x->DV (mem++xs) e x
 |_,_,.pub h=>.pub h
 |_,_,.top=>.top
 |_,_,.psl h1 h2 h3=>.psl (ql h1) h2 (DVR.app h3)
 |_,_,.pp h1 h2 h3 h4=>.pp (ql h1) h2 h3 (DVL.app h4)
 |_,_,.mix h=>.mix (DVL.app h)
 |_,_,.fnm h1 h2=>.fnm (DVL.app h1) (DVL.app h2)
 |_,_,.mpv h1 h2=>.mpv (ql h1) (DVL.app h2)
theorem DVL.app{mem xs:TP}:∀{cs:TE}{ys:TA},DVL mem cs ys->DVL (mem++xs) cs ys
 |_,_,.nil=>.nil
 |_,_,.cons h1 h2=>.cons (DV.app h1) (DVL.app h2)
theorem DVR.app{mem xs:TP}:∀{rs:List (TE)}{vs:List (TA)},DVR mem rs vs->DVR (mem++xs) rs vs
 |_,_,.nil=>.nil
 |_,_,.cons h1 h2=>.cons (DVL.app h1) (DVR.app h2)
end
theorem DV.r{x:AV}:DV mem (.pub x) x:=.pub (AVle.refl _)
theorem DVL.pubs:∀(l:TA),DVL mem (l.map .pub) l
 |[]=>.nil
 |_::l=>.cons .r (DVL.pubs l)
theorem DVR.pubs:∀(l:List (TA)),DVR mem (l.map (·.map .pub)) l
 |[]=>.nil
 |_::l=>.cons (DVL.pubs _) (DVR.pubs l)
theorem DVL.len:∀{cs:TE}{ys:TA},DVL mem cs ys->cs.length=ys.length
 |_,_,.nil=>rfl
 |_,_,.cons _ h=>by simp[DVL.len h]
section
variable{P:Program}{G:Glob}{fr:Nat->EV}{mem:TP}{o:Oper}
variable{x:Operand}{cs:TA}{E T U:TypeId}{m mem':TP}{k l:Nat}{r':List (TE)}{e':List (Value × EV)}{f:FuncId}{args:Array Operand}{tys:Array TypeId}
theorem yx(ho:o.op=.nilCheck x)(hx:evO fr x=.pub (.ptr cs)):OpY P G fr mem o (.pub (.ptr cs)):=
 qb fun ok bs w a _ _ hfit=>by
  have h:=hfit x (by simp[ho,Op.operands]);rw[hx]at h;simp only[FitsE,Fits]at h;obtain⟨b,off,e,h1,h2⟩:=h;exact⟨.pointer (some ⟨b,off,none⟩),by simp[execOp,ho,e],by simp only[FitsE,Fits];exact⟨b,off,Y,h1,h2⟩⟩
theorem tp(ho:o.op=.binOp .eql T x (.const (.pointer none)) U)(hx:evO fr x=.pub (.ptr cs))(ht:P.underlying T=some (.pointer E)):OpY P G fr mem o (B false):=
 qb fun ok bs w a _ _ hf=>by
  have h:=hf x (by simp[ho,Op.operands]);rw[hx]at h;simp only[FitsE,Fits]at h;obtain⟨g,off,e,_⟩:=h;refine⟨.bool false,?_,qA Y⟩;have e2:a.eval (.const (.pointer none))=.pointer none:=rfl;have hgd:(eqGuard .eql T x (.const (.pointer none)) (.pointer (some ⟨g,off,none⟩)) (.pointer none)).run P w=.ok () w:=by simp[eqGuard]
  have hd:∀d:Nat,(Op.equalIn (d+1) T (.pointer (some ⟨g,off,none⟩)) (.pointer none)).run P w=.ok false w:=fun d=>by simp[Op.equalIn,run_underlying ht]
  have hb:(binOp .eql T (.pointer (some ⟨g,off,none⟩)) (.pointer none)).run P w=.ok (.bool false) w:=by
   simp only[binOp];simp[Op.equal,Op.maxDepth,hd 9999]
  simp only[execOp,ho,e,e2,Sem.run_bind,hgd,hb,Result.andThen_ok];rfl
theorem sY(ho:o.op=.binOp .eql T x (.const (.pointer none)) U)(hx:evO fr x=.pub (.v (.pointer none)))(ht:P.underlying T=some (.pointer E)):OpY P G fr mem o (B true):=
 qb fun ok bs w a _ _ hf=>by
  have e:=wH (hf x (by simp[ho,Op.operands])) hx;refine⟨.bool true,?_,qA Y⟩;have e2:a.eval (.const (.pointer none))=.pointer none:=rfl;have hgd:(eqGuard .eql T x (.const (.pointer none)) (.pointer none) (.pointer none)).run P w=.ok () w:=by simp[eqGuard]
  have hd:∀d:Nat,(Op.equalIn (d+1) T (.pointer none) (.pointer none)).run P w=.ok true w:=fun d=>by simp[Op.equalIn,run_underlying ht]
  have hb:(binOp .eql T (.pointer none) (.pointer none)).run P w=.ok (.bool true) w:=by
   simp only[binOp];simp[Op.equal,Op.maxDepth,hd 9999]
  simp only[execOp,ho,e,e2,Sem.run_bind,hgd,hb,Result.andThen_ok];rfl
variable{st:ASt}
def Like(mem mem':TP)(l:Nat):Prop:=mem'[l]?=mem[l]?∨(∃e e',mem[l]?=some (.map e)/\mem'[l]?=some (.map e'))∨∃r r',mem[l]?=some (.row r)/\mem'[l]?=some (.row r')/\r.length<=r'.length
theorem Like.rows(h:Like mem mem' l)(hr:mem'[l]?=some (.row r')):∃r,mem[l]?=some (.row r)/\r.length<=r'.length:=by
 rcases h with h|⟨e,e',_,h⟩|⟨r,r2,h1,h2,h3⟩
 ·exact⟨r',by rw[←h];exact hr,zLl _⟩
 ·rw[h]at hr;simp at hr
 ·rw[h2]at hr;simp at hr;subst hr;exact⟨r,h1,h3⟩
theorem Like.map(h:Like mem mem' l)(hr:mem'[l]?=some (.map e')):∃e,mem[l]?=some (.map e):=by
 rcases h with h|⟨e,e',h,_⟩|⟨r,r2,_,h2,_⟩
 ·exact⟨e',by rw[←h];exact hr⟩
 ·exact⟨e,h⟩
 ·rw[h2]at hr;simp at hr
theorem Like.refl(mem:TP)(l:Nat):Like mem mem l:=.inl rfl
theorem Like.set{x:PO}(h:Like mem (mem.set k x) k)(l:Nat):Like mem (mem.set k x) l:=by
 by_cases e:k=l
 ·subst e;exact h
 ·exact .inl (zLn e)
theorem Like.trans{m1 m2 m3:TP}(h1:Like m1 m2 l)(h2:Like m2 m3 l):Like m1 m3 l:=by
 rcases h2 with e|⟨x,y,a,c⟩|⟨x,y,a,c,d⟩
 ·rcases h1 with f|⟨x,y,a,c⟩|⟨x,y,a,c,d⟩
  ·exact .inl (e.trans f)
  ·exact .inr (.inl ⟨x,y,a,e.trans c⟩)
  ·exact .inr (.inr ⟨x,y,a,e.trans c,d⟩)
 ·obtain⟨z,hz⟩:=h1.map a;exact .inr (.inl ⟨z,y,hz,c⟩)
 ·obtain⟨z,hz,hl⟩:=h1.rows a;exact .inr (.inr ⟨z,y,hz,c,zL6 hl d⟩)
theorem yl{r:List (TE)}(h:m[k]?=some (.row r))(hl:r.length<=r'.length)(l:Nat):Like m (m.set k (.row r')) l:=Like.set (.inr (.inr ⟨r,r',h,by simp[(zLg h).1],hl⟩)) l
theorem yU{e:List (Value × EV)}(h:m[k]?=some (.map e))(l:Nat):Like m (m.set k (.map e')) l:=Like.set (.inr (.inl ⟨e,e',h,by simp[(zLg h).1]⟩)) l
theorem rY{xs:TP}(h:l<m.length):Like m (m++xs) l:=.inl (zLf h)
theorem nw{ok ok':Nat->Prop}{w w':World}{bs bs':List PB}{e:EV}(hl:bs'.length=mem'.length)(hbl:bs.length=mem.length)(hle:mem.length<=mem'.length)(hk:∀l,l<mem.length->Like mem mem' l)(h:FitsE ok w bs mem e undef):FitsE ok' w' bs' mem' e undef:=by
 have get:∀{l:Nat}{b:PB},bs[l]?=some b->l<mem.length/\∃b',bs'[l]?=some b':=fun{l b} hb=>by
  have h1:l<bs.length:=(zLg hb).1;exact⟨oM,bs'[l],zLe oM⟩
 cases e with
 |pub y=>
  have:=bq (ok':=ok') (w':=w') h;simpa only[FitsE,yw]using this
 |psl l n=>
  simp only[FitsE]at h⊢;obtain⟨b,hb,h⟩:=h;obtain⟨h1,b',hb'⟩:=get hb;refine⟨b',hb',fun rows hr=>?_⟩;obtain⟨rows0,hr0,hlen⟩:=(hk l h1).rows hr;have hle1:=(h rows0 hr0).1;refine⟨zL6 hle1 hlen,fun hn=>?_⟩;have:=(h rows0 hr0).2 oM;unfold PB.sl at this;split at this<;>exact absurd this (by simp[undef])
 |pp l n i j=>
  simp only[FitsE]at h⊢;obtain⟨b,hb,h⟩:=h;obtain⟨h1,b',hb'⟩:=get hb;refine⟨b',hb',fun rows hr=>?_⟩;obtain⟨rows0,hr0,hlen⟩:=(hk l h1).rows hr;have hle1:=(h rows0 hr0).1;refine⟨zL6 hle1 hlen,fun hn=>?_⟩;obtain⟨g,_,e⟩:=(h rows0 hr0).2 oM;exact absurd e (by simp[undef])
 |ppT l n T=>
  simp only[FitsE]at h⊢;obtain⟨b,hb,h⟩:=h;obtain⟨h1,b',hb'⟩:=get hb;refine⟨b',hb',fun rows hr=>?_⟩;obtain⟨rows0,hr0,hlen⟩:=(hk l h1).rows hr;have hle1:=(h rows0 hr0).1;refine⟨zL6 hle1 hlen,fun hn=>?_⟩;obtain⟨g,_,_,_,e⟩:=(h rows0 hr0).2 oM;exact absurd e (by simp[undef])
 |pslT l n T=>
  simp only[FitsE]at h⊢;obtain⟨b,hb,h⟩:=h;obtain⟨h1,b',hb'⟩:=get hb;refine⟨b',hb',fun rows hr=>?_⟩;obtain⟨rows0,hr0,hlen⟩:=(hk l h1).rows hr;have hle1:=(h rows0 hr0).1;refine⟨zL6 hle1 hlen,fun hn=>?_⟩;have:=((h rows0 hr0).2 oM).1;unfold PB.sl at this;split at this<;>exact absurd this (by simp[undef])
 |mpv l=>
  simp only[FitsE]at h⊢;obtain⟨b,hb,h⟩:=h;obtain⟨h1,b',hb'⟩:=get hb;refine⟨b',hb',fun es hr=>?_⟩;obtain⟨es0,hr0⟩:=(hk l h1).map hr;obtain⟨g,_,e⟩:=h es0 hr0;exact absurd e (by simp[undef])
 |mix cs=>
  simp only[FitsE]at h;obtain⟨vs,e,_⟩:=h;exact absurd e (by simp[undef])
 |fnm f fs cs=>
  simp only[FitsE]at h;obtain⟨us,vs,e,_⟩:=h;exact absurd e (by simp[undef])
 |tpl cs=>
  simp only[FitsE]at h⊢;obtain⟨vs,e,h⟩:=h
  have hv:vs=[]:=by
   cases vs with
   |nil=>rfl
   |cons a l=>exact absurd e (by simp[undef])
  subst hv;cases cs with
  |nil=>exact⟨[],e,by simp[FitsEL]⟩
  |cons c cs=>simp[FitsEL]at h
theorem KF{fs cs av:TE}{r:EV}{fop:Operand}(ho:o.op=.call {callee:=.value fop,args:=args,argTypes:=tys})(hd:qB o st.n=true)(hf:iO (evO st.fr fop) f fs cs)(ha:kS st.fr args.toList av)
  (hc:zv P G f (fs++av++cs) st.mem (.ret r mem')) (hle:st.mem.length<=mem'.length) (hk:∀l,l<st.mem.length->Like st.mem mem' l):OpM P G st o ⟨st.n,qc st.fr o.dst r,mem'⟩:=by
 intro w0 ok0 a w hG hok hs K Q hK;have hsz:=hs.size;obtain⟨args',hex,hcall⟩:=yF ho hf ha hc hG hok hs;obtain⟨g0,_,_,ok,bs,_,_,g5,g6⟩:=hs;unfold Oper.wp;rw[hex];simp only[Oper.upon];refine hcall.mono fun en w' ⟨ok',bs',q2,q3,q1,q4,q5,q6,u,he,hu⟩=>?_;subst he
 have q7:Slots ok' w' bs' mem' st.n st.fr a:=by
  refine⟨fun t=>?_,q5.2⟩;have h:=q5.1 t;unfold xf at h;cases hb:Nat.blt t st.n.n with
  |true=>rw[hb]at h;exact h
  |false=>
   have hge:¬t<st.n.n:=fun ht=>by rw[show Nat.blt t st.n.n=true by simpa[Nat.blt_eq]using ht]at hb;cases hb
   have hud:a.tmps.getD t undef=undef:=by simp[zLw,Array.getElem?_eq_none (by omega:a.tmps.size<=t)]
   have h7:=g6.1 t;rw[hud]at h7⊢;exact nw q4.len g5.len hle hk h7
 refine hK _ _ ⟨(size_put ..).trans hsz,?_,q1,ok',bs',q2,q3,q4,qP q7 hu (fun d e=>by rw[hsz];exact(zo hd d e).1)⟩
 have hn:=q6 (a.put o.dst u).tmps (fun t ht=>by
  cases hdd:o.dst with
  |none=>rfl
  |some d=>
   have hne:t≠d:=fun e=>(zo hd d hdd).2 (e▸ht);simp only[Act.put,jy,hne,false_and,if_false])
 have e:({a with tmps:=(a.put o.dst u).tmps}:Act)=a.put o.dst u:=by
  unfold Act.put;split<;>rfl
 rw[e]at hn;exact hn
theorem qO{mem:TP}{av:TE}{r:EV}(ho:o.op=.call {callee:=.value (.func f),args:=args,argTypes:=tys})(ha:kS fr args.toList av)
  (hc:zv P G f av mem (.ret r mem')) (hle:mem.length<=mem'.length) (hk:∀l,l<mem.length->Like mem mem' l):OpB P G fr mem o r mem':=fun n fr2 he hd=>
 KF (st:=⟨n,fr2,mem⟩) (fs:=[]) (cs:=[]) ho hd ⟨rfl,rfl,rfl⟩ (aN (fun y hy=>he y (by simp only[ho,Op.operands,Call.operands];first|exact zL3 _ hy|(simp;exact .inr (by simpa using hy))|(simp;simpa using hy))) ha) (by simpa using hc) hle hk
/-- Where a field lies. -/
class Fld(P:Program)(T k:Nat)(off:outParam Nat):Prop where
 h:zO P T k off=true
/-- A type of several cells. -/
class TyA(P:Program)(T:Nat)(size:outParam Nat):Prop where
 h:zS P T true size=true
/-- A type of one cell. -/
class Ty1(P:Program)(T:Nat):Prop where
 h:zS P T false 1=true
/-- A slice's type. -/
class USl(P:Program)(T:Nat)(E:outParam Nat):Prop where
 h:P.underlying T=some (.slice E)
def aV:TE->Option (TA)
 |[]=>some []
 | .pub x::l=>(aV l).map (x:: ·)
 |_=>none
theorem eK:∀{l:TE}{cs:TA},aV l=some cs->l=cs.map .pub
 |[],cs,h=>by simp only[aV,zLs]at h;subst h;rfl
 | .pub x::l,cs,h=>by
  simp only[aV,zL7]at h;obtain⟨a,h1,rfl⟩:=h;rw[eK h1];rfl
 | .psl .. ::_,_,h=>by simp[aV]at h
 | .pp .. ::_,_,h=>by simp[aV]at h
 | .ppT .. ::_,_,h=>by simp[aV]at h
 | .pslT .. ::_,_,h=>by simp[aV]at h
 | .mix _::_,_,h=>by simp[aV]at h
 | .fnm .. ::_,_,h=>by simp[aV]at h
 | .mpv _::_,_,h=>by simp[aV]at h
 | .tpl _::_,_,h=>by simp[aV]at h
theorem tj{n i j size:Nat}{rows:List (TE)}{r:TE}(ho:o.op=.load T x)(hx:evO fr x=.pp l n i j)(hm:mem[l]?=some (.row rows))(hn:rows.length=n)(hr:rows[i]?=some r)
  (ht:zS P T true size=true) (hl:Nat.ble (j+size) r.length=true) (hc:aV ((r.drop j).take size)=some cs):OpY P G fr mem o (.pub (.agg cs)):=
 wb ho hx hm hn hr (zLb hl) (eK hc) ht
theorem sw{first caps:Array Operand}{fs:TA}(ho:o.op=.makeFunc (.func f) first caps)(hf:aV (first.toList.map (evO fr))=some fs)(hc:aV (caps.toList.map (evO fr))=some cs):OpY P G fr mem o (.pub (.fn f fs cs)):=
 bf ho (eK hf) (eK hc)
def opK:Op->Nat
 | .move _=>0
 | .assign _=>1
 | .load ..=>2
 | .fieldAddr ..=>3
 | .nilCheck _=>4
 | .extract ..=>5
 | .pick ..=>6
 | .unOp ..=>7
 | .binOp ..=>8
 | .call _=>9
 | .box ..=>10
 | .makeFunc ..=>11
 |_=>12
theorem kK(n:Nat){x:EV}(_h:opK o.op=n)(h:OpY P G fr mem o x):OpY P G fr mem o x:=h
theorem yA{x:EV}(h:OpY P G fr mem o x:=by
  first
  |exact kK 0 rfl (by first
   |exact zX rfl rfl
   |exact xF rfl rfl
   |exact JI rfl rfl
   |exact e9 rfl rfl)
  |exact kK 1 rfl (by first
   |exact xP rfl rfl
   |exact By rfl rfl
   |exact Da rfl rfl
   |exact lI rfl rfl)
  |exact kK 2 rfl (by first
   |exact zl rfl rfl rfl Ty1.h
   |exact zg rfl rfl rfl rfl rfl rfl Ty1.h
   |exact qk rfl rfl TyA.h (by exact zLb rfl)
   |exact tj rfl rfl rfl rfl rfl TyA.h rfl rfl
   |exact j7 rfl rfl rfl rfl rfl (by exact zLb rfl) rfl TyA.h)
  |exact kK 3 rfl (by first
   |exact zf rfl rfl Fld.h
   |exact ze rfl rfl rfl rfl Fld.h)
  |exact kK 4 rfl (by first
   |exact yx rfl rfl
   |exact zr rfl rfl rfl rfl)
  |exact kK 5 rfl (by first
   |exact jD rfl rfl rfl
   |exact um rfl rfl rfl)
  |exact kK 6 rfl (by first
   |exact vB rfl rfl rfl rfl
   |exact ju rfl rfl rfl rfl
   |exact wm rfl rfl (fun _=>rfl) (fun _=>rfl))
  |exact kK 7 rfl (by first
   |exact q0 rfl rfl)
  |exact kK 8 rfl (by first
   |exact y6 rfl rfl rfl
   |exact bE rfl rfl rfl
   |exact yq rfl rfl rfl
   |exact g9 rfl rfl rfl
   |exact vr rfl rfl rfl
   |exact fM rfl rfl rfl
   |exact vA rfl rfl rfl ⟨by omega,by omega⟩
   |exact vA rfl rfl rfl ⟨by simp;omega,by simp;omega⟩
   |exact j4 rfl rfl rfl ⟨by omega,by omega⟩
   |exact j4 rfl rfl rfl ⟨by simp;omega,by simp;omega⟩
   |exact y7 rfl rfl rfl ⟨by omega,by omega⟩)
  |exact kK 9 rfl (by first
   |exact zM rfl rfl rfl USl.h
   |exact jJ rfl rfl rfl rfl USl.h
   |exact jJ rfl rfl rfl (by simp) USl.h
   |exact Ul rfl rfl rfl
   |exact U2 rfl rfl rfl)
  |exact kK 10 rfl (by first
   |exact lX (cs:=[_]) rfl (jT rfl)
   |exact lX (cs:=[_]) rfl (lL rfl)
   |exact lX (cs:=[_]) rfl (GH rfl)
   |exact lX rfl (zF rfl)
   |exact lX (cs:=[_]) rfl (uV rfl)
   |exact lX (cs:=[_]) rfl (Ip rfl))
  |exact kK 11 rfl (by first
   |exact sw rfl rfl rfl
   |exact rJ rfl)):OpY P G fr mem o x:=h
theorem yG{c:Bool}(hc:c=true){x:EV}(h:OpY P G fr mem o x:=by
  first
  |exact yA
  |exact kK 0 rfl (by first
   |exact zX rfl (zLc hg)
   |exact xF rfl (zLc hg)
   |exact e9 rfl (zLc hg))
  |exact kK 1 rfl (by first
   |exact lI rfl (zLc hg))
  |exact kK 2 rfl (by first
   |exact zl rfl (zLc hg) rfl Ty1.h
   |exact zg rfl (zLc hg) rfl rfl rfl rfl Ty1.h
   |exact qk rfl (zLc hg) TyA.h (by exact zLb rfl))
  |exact kK 3 rfl (by first
   |exact zf rfl (zLc hg) Fld.h
   |exact ze rfl (zLc hg) rfl rfl Fld.h)
  |exact kK 4 rfl (by first
   |exact yx rfl (zLc hg))
  |exact kK 5 rfl (by first
   |exact jD rfl (zLc hg) rfl)
  |exact kK 7 rfl (by first
   |exact q0 rfl (zLc hg))
  |exact kK 8 rfl (by first
   |exact vA rfl (zLc hg) (zLc hg) ⟨by omega,by omega⟩
   |exact vA rfl (zLc hg) (zLc hg) ⟨by simp at hg;omega,by simp at hg;omega⟩
   |exact vA rfl (zLc hg) rfl ⟨by omega,by omega⟩
   |exact vA rfl (zLc hg) rfl ⟨by simp at hg;omega,by simp at hg;omega⟩
   |exact vA rfl rfl (zLc hg) ⟨by omega,by omega⟩
   |exact vA rfl rfl (zLc hg) ⟨by simp at hg;omega,by simp at hg;omega⟩
   |exact j4 rfl (zLc hg) (zLc hg) ⟨by omega,by omega⟩
   |exact j4 rfl (zLc hg) (zLc hg) ⟨by simp at hg;omega,by simp at hg;omega⟩
   |exact j4 rfl (zLc hg) rfl ⟨by omega,by omega⟩
   |exact j4 rfl (zLc hg) rfl ⟨by simp at hg;omega,by simp at hg;omega⟩
   |exact j4 rfl rfl (zLc hg) ⟨by omega,by omega⟩
   |exact j4 rfl rfl (zLc hg) ⟨by simp at hg;omega,by simp at hg;omega⟩
   |exact y7 rfl (zLc hg) (zLc hg) ⟨by omega,by omega⟩
   |exact y7 rfl (zLc hg) (zLc hg) ⟨by simp at hg;omega,by simp at hg;omega⟩
   |exact y7 rfl (zLc hg) rfl ⟨by omega,by omega⟩
   |exact y7 rfl (zLc hg) rfl ⟨by simp at hg;omega,by simp at hg;omega⟩
   |exact y7 rfl rfl (zLc hg) ⟨by omega,by omega⟩
   |exact y7 rfl rfl (zLc hg) ⟨by simp at hg;omega,by simp at hg;omega⟩
   |exact y6 rfl (zLc hg) (zLc hg)
   |exact y6 rfl (zLc hg) rfl
   |exact y6 rfl rfl (zLc hg)
   |exact bE rfl (zLc hg) (zLc hg)
   |exact bE rfl (zLc hg) rfl
   |exact bE rfl rfl (zLc hg)
   |exact yq rfl (zLc hg) (zLc hg)
   |exact yq rfl (zLc hg) rfl
   |exact yq rfl rfl (zLc hg)
   |exact g9 rfl (zLc hg) (zLc hg)
   |exact g9 rfl (zLc hg) rfl
   |exact g9 rfl rfl (zLc hg)
   |exact vr rfl (zLc hg) (zLc hg)
   |exact vr rfl (zLc hg) rfl
   |exact vr rfl rfl (zLc hg)
   |exact fM rfl (zLc hg) (zLc hg)
   |exact fM rfl (zLc hg) rfl
   |exact fM rfl rfl (zLc hg))
  |exact kK 9 rfl (by first
   |exact zM rfl rfl (zLc hg) USl.h
   |exact jJ rfl (zLc hg) rfl (by simp) USl.h)):OpY P G fr mem o x:=h
theorem cEx{e:EV}{l:TE}(h:qn mem e l:=by
  first
  |exact jT rfl
  |exact lL rfl
  |exact GH rfl
  |exact zF rfl
  |exact jW rfl rfl (by first|(simp;done)|(simp;omega))
  |exact ta rfl
  |exact uV rfl
  |exact Ip rfl
  |exact ul rfl rfl
  |exact Xk rfl
  |exact wE rfl rfl rfl
  |exact ji rfl):qn mem e l:=h
theorem zk{i:Nat}{l:TE}{ps:List (Nat × Operand)}{qs:List (Nat × TE)}(h:vc mem fr ps qs)(g:qn mem (evO fr x) l:=by exact cEx):vc mem fr ((i,x)::ps) ((i,l)::qs):=⟨_,_,rfl,g,h⟩
end
def Imp(q p:Prop):Prop:=q->p
section
variable{r:Option Nat}{P:Program}{G:Glob}{ops:Array Oper}{l:List Oper}{st:ASt}{Q:Exit->ASt->Prop}{o:Oper}
variable{x:EV}{K:ASt->Prop}{id k:Nat}{C:TP->Prop}{hows:Nat->How}{fr:Nat->EV}{mem:TP}{rest:List Oper}
theorem i_y(hg:jq o=true)(hd:qB o st.n=true)(ho:OpY P G st.fr st.mem o x):Imp (qq (r:=r) P G ops l ⟨st.n,qc st.fr o.dst x,st.mem⟩ Q) (qq (r:=r) P G ops (o::l) st Q):=fun k=>jp hg hd ho k
theorem Ax{c:Bool}(hn:jl ops st.n=true)(hg:qe ops st.fr o=some c)(hd:qB o st.n=true)(ho:c=true->OpY P G st.fr st.mem o x):
  Imp (qq (r:=r) P G ops l ⟨st.n,qc st.fr o.dst (if c=true then x else .pub (.tup [])),st.mem⟩ Q) (qq (r:=r) P G ops (o::l) st Q):=fun k=>fH hn hg hd ho k
theorem UV:Imp (Q .normal st) (qq (r:=r) P G ops [] st Q):=fun k=>H5 k
theorem zaV:Imp (K st) (aF K Q .normal st):=fun k=>k
theorem UY:Imp (Q .ret st) (aF K Q .ret st):=fun k=>k
theorem RP:Imp (Q (.exit id) st) (aF K Q (.exit id) st):=fun k=>k
theorem NT{x y:Code}:Imp (qp (r:=r) P G x st (aF (fun st'=>qp (r:=r) P G y st' Q) Q)) (qp (r:=r) P G (.seq x y) st Q):=fun k=>Hj k
theorem rc:Imp (qq (r:=r) P G l.toArray l st Q) (qp (r:=r) P G (.region id l.toArray false) st Q):=fun k=>lQ k
theorem NC:Imp (Q .ret st) (qp (r:=r) P G .ret st Q):=fun k=>Ea k
theorem Fo:Imp (Q .normal st) (qp (r:=r) P G .skip st Q):=fun k=>J5 k
theorem Gh:Imp (Q (.exit id) st) (qp (r:=r) P G (.exit id) st Q):=fun k=>uZ k
theorem Bo{c:Code}:Imp (qp (r:=r) P G c st (yN id Q)) (qp (r:=r) P G (.block id c) st Q):=fun k=>Gl k
theorem Ud:Imp (Q .normal st) (yN id Q .normal st):=fun k=>k
theorem Xn:Imp (Q .ret st) (yN id Q .ret st):=fun k=>k
theorem VW:Imp (Q .normal st) (yN id Q (.exit id) st):=fun k=>J3 k
theorem i_h{Q:(Nat->EV)->TP->Prop}{e:EV}(hk:hows k=.here)(hg:qe ops fr o=some true)(ho:OpY P G fr mem o e):
  Imp (wt P G ops C hows Q (k+1) rest (qc fr o.dst e) mem) (wt P G ops C hows Q k (o::rest) fr mem):=fun h=>zK hk hg ho h
theorem i_s{Q:(Nat->EV)->TP->Prop}{e:EV}(hk:hows k=.stable)(hg:qe ops fr o=some true)(ho:∀m,C m->OpY P G fr m o e):
  Imp (wt P G ops C hows Q (k+1) rest (qc fr o.dst e) mem) (wt P G ops C hows Q k (o::rest) fr mem):=fun h=>zC hk hg ho h
theorem Q6{Q:(Nat->EV)->TP->Prop}:Imp (Q fr mem) (wt P G ops C hows Q k [] fr mem):=fun h=>h
theorem i_q{Q:(Nat->EV)->Prop}(hg:o.guard=none)(ho:OpY P G fr mem o x):Imp (jV P G ops mem Q rest (qc fr o.dst x)) (jV P G ops mem Q (o::rest) fr):=fun h=>zH hg ho h
theorem XV{Q:(Nat->EV)->Prop}{c:Bool}(hg:qe ops fr o=some c)(ho:c=true->OpY P G fr mem o x):
  Imp (jV P G ops mem Q rest (qc fr o.dst (if c=true then x else .pub (.tup [])))) (jV P G ops mem Q (o::rest) fr):=fun h=>zq hg ho h
theorem O5{Q:(Nat->EV)->Prop}:Imp (Q fr) (jV P G ops mem Q [] fr):=fun h=>h
end
theorem nW(h:Imp q p:=by
  first
  |((with_reducible apply i_y);rfl;rfl;exact yA)
  |((with_reducible apply Ax);rfl;rfl;rfl;exact(fun hg=>yG hg))
  |((with_reducible apply i_h);rfl;rfl;exact yA)
  |((with_reducible apply i_s);rfl;rfl;exact(fun m hm=>yA))
  |((with_reducible apply i_q);rfl;exact yA)
  |((with_reducible apply XV);rfl;exact(fun hg=>yG hg))
  |(with_reducible exact UV)
  |(with_reducible exact zaV)
  |(with_reducible exact NT)
  |(with_reducible exact rc)
  |(with_reducible exact Q6)
  |(with_reducible exact O5)
  |(with_reducible exact NC)
  |(with_reducible exact Fo)
  |(with_reducible exact Bo)
  |(with_reducible exact Gh)
  |(with_reducible exact UY)
  |(with_reducible exact RP)
  |(with_reducible exact Ud)
  |(with_reducible exact VW)
  |(with_reducible exact Xn)
  |exact NT
  |exact rc
  |exact NC
  |exact Fo
  |exact Bo
  |exact Gh
  |(apply i_y;rfl;rfl;exact yA)
  |(apply Ax;rfl;rfl;rfl;exact(fun hg=>yG hg))):Imp q p:=h
theorem Z(k:q)(h:Imp q p:=by exact nW):p:=h k
theorem nW2{r:Prop}(h:Imp q p:=by exact nW)(g:Imp r q:=by exact nW):Imp r p:=fun k=>h (g k)
theorem nW3{r:Prop}(h:Imp q p:=by exact nW2)(g:Imp r q:=by exact nW):Imp r p:=fun k=>h (g k)
theorem nW4{r:Prop}(h:Imp q p:=by exact nW2)(g:Imp r q:=by exact nW2):Imp r p:=fun k=>h (g k)
theorem nW5{r:Prop}(h:Imp q p:=by exact nW3)(g:Imp r q:=by exact nW2):Imp r p:=fun k=>h (g k)
theorem nW6{r:Prop}(h:Imp q p:=by exact nW3)(g:Imp r q:=by exact nW3):Imp r p:=fun k=>h (g k)
theorem nW7{r:Prop}(h:Imp q p:=by exact nW4)(g:Imp r q:=by exact nW3):Imp r p:=fun k=>h (g k)
theorem nW8{r:Prop}(h:Imp q p:=by exact nW4)(g:Imp r q:=by exact nW4):Imp r p:=fun k=>h (g k)
theorem nW9{r:Prop}(h:Imp q p:=by exact nW5)(g:Imp r q:=by exact nW4):Imp r p:=fun k=>h (g k)
theorem nW10{r:Prop}(h:Imp q p:=by exact nW5)(g:Imp r q:=by exact nW5):Imp r p:=fun k=>h (g k)
theorem nW11{r:Prop}(h:Imp q p:=by exact nW6)(g:Imp r q:=by exact nW5):Imp r p:=fun k=>h (g k)
theorem nW12{r:Prop}(h:Imp q p:=by exact nW6)(g:Imp r q:=by exact nW6):Imp r p:=fun k=>h (g k)
theorem nW13{r:Prop}(h:Imp q p:=by exact nW7)(g:Imp r q:=by exact nW6):Imp r p:=fun k=>h (g k)
theorem nW14{r:Prop}(h:Imp q p:=by exact nW7)(g:Imp r q:=by exact nW7):Imp r p:=fun k=>h (g k)
theorem nW15{r:Prop}(h:Imp q p:=by exact nW8)(g:Imp r q:=by exact nW7):Imp r p:=fun k=>h (g k)
theorem nW16{r:Prop}(h:Imp q p:=by exact nW8)(g:Imp r q:=by exact nW8):Imp r p:=fun k=>h (g k)
theorem nW17{r:Prop}(h:Imp q p:=by exact nW9)(g:Imp r q:=by exact nW8):Imp r p:=fun k=>h (g k)
theorem nW18{r:Prop}(h:Imp q p:=by exact nW9)(g:Imp r q:=by exact nW9):Imp r p:=fun k=>h (g k)
theorem nW19{r:Prop}(h:Imp q p:=by exact nW10)(g:Imp r q:=by exact nW9):Imp r p:=fun k=>h (g k)
theorem nW20{r:Prop}(h:Imp q p:=by exact nW10)(g:Imp r q:=by exact nW10):Imp r p:=fun k=>h (g k)
theorem nW21{r:Prop}(h:Imp q p:=by exact nW11)(g:Imp r q:=by exact nW10):Imp r p:=fun k=>h (g k)
theorem nW22{r:Prop}(h:Imp q p:=by exact nW11)(g:Imp r q:=by exact nW11):Imp r p:=fun k=>h (g k)
theorem nW25{r:Prop}(h:Imp q p:=by exact nW13)(g:Imp r q:=by exact nW12):Imp r p:=fun k=>h (g k)
theorem nW26{r:Prop}(h:Imp q p:=by exact nW13)(g:Imp r q:=by exact nW13):Imp r p:=fun k=>h (g k)
theorem nW27{r:Prop}(h:Imp q p:=by exact nW14)(g:Imp r q:=by exact nW13):Imp r p:=fun k=>h (g k)
theorem nW28{r:Prop}(h:Imp q p:=by exact nW14)(g:Imp r q:=by exact nW14):Imp r p:=fun k=>h (g k)
theorem nW29{r:Prop}(h:Imp q p:=by exact nW15)(g:Imp r q:=by exact nW14):Imp r p:=fun k=>h (g k)
theorem nW30{r:Prop}(h:Imp q p:=by exact nW15)(g:Imp r q:=by exact nW15):Imp r p:=fun k=>h (g k)
theorem nW35{r:Prop}(h:Imp q p:=by exact nW18)(g:Imp r q:=by exact nW17):Imp r p:=fun k=>h (g k)
theorem nW36{r:Prop}(h:Imp q p:=by exact nW18)(g:Imp r q:=by exact nW18):Imp r p:=fun k=>h (g k)
theorem Z2(k:q)(h:Imp q p:=by exact nW2):p:=h k
theorem Z3(k:q)(h:Imp q p:=by exact nW3):p:=h k
theorem Z4(k:q)(h:Imp q p:=by exact nW4):p:=h k
theorem Z5(k:q)(h:Imp q p:=by exact nW5):p:=h k
theorem Z6(k:q)(h:Imp q p:=by exact nW6):p:=h k
theorem Z7(k:q)(h:Imp q p:=by exact nW7):p:=h k
theorem Z8(k:q)(h:Imp q p:=by exact nW8):p:=h k
theorem Z9(k:q)(h:Imp q p:=by exact nW9):p:=h k
theorem Z10(k:q)(h:Imp q p:=by exact nW10):p:=h k
theorem Z11(k:q)(h:Imp q p:=by exact nW11):p:=h k
theorem Z12(k:q)(h:Imp q p:=by exact nW12):p:=h k
theorem Z13(k:q)(h:Imp q p:=by exact nW13):p:=h k
theorem Z14(k:q)(h:Imp q p:=by exact nW14):p:=h k
theorem Z15(k:q)(h:Imp q p:=by exact nW15):p:=h k
theorem Z16(k:q)(h:Imp q p:=by exact nW16):p:=h k
theorem Z17(k:q)(h:Imp q p:=by exact nW17):p:=h k
theorem Z18(k:q)(h:Imp q p:=by exact nW18):p:=h k
theorem Z19(k:q)(h:Imp q p:=by exact nW19):p:=h k
theorem Z20(k:q)(h:Imp q p:=by exact nW20):p:=h k
theorem Z21(k:q)(h:Imp q p:=by exact nW21):p:=h k
theorem Z22(k:q)(h:Imp q p:=by exact nW22):p:=h k
theorem Z25(k:q)(h:Imp q p:=by exact nW25):p:=h k
theorem Z26(k:q)(h:Imp q p:=by exact nW26):p:=h k
theorem Z27(k:q)(h:Imp q p:=by exact nW27):p:=h k
theorem Z28(k:q)(h:Imp q p:=by exact nW28):p:=h k
theorem Z29(k:q)(h:Imp q p:=by exact nW29):p:=h k
theorem Z30(k:q)(h:Imp q p:=by exact nW30):p:=h k
theorem Z35(k:q)(h:Imp q p:=by exact nW35):p:=h k
theorem Z36(k:q)(h:Imp q p:=by exact nW36):p:=h k
theorem aR(h:p:=by exact⟨.inr rfl,AVle.refl _⟩):p:=h
section
variable{P:Program}{G:Glob}{st:ASt}{o:Oper}{ops:Array Oper}{l:List Oper}{Q:Exit->ASt->Prop}
variable{rr:Option Nat}{args:Array Operand}{tys:Array TypeId}{f:FuncId}{fn:Func}
theorem yc{av:TA}{r:AV}(hc:ACall P G f av r)(k:qq (r:=rr) P G ops l ⟨st.n,qc st.fr o.dst (.pub r),st.mem⟩ Q)(hg:jq o=true:=by rfl)(hd:qB o st.n=true:=by rfl)
  (ho:o.op=.call {callee:=.value (.func f),args:=args,argTypes:=tys}:=by rfl) (ha:aE st.fr args.toList av:=by repeat' (first|exact trivial|rfl|refine⟨?_,?_⟩)):qq (r:=rr) P G ops (o::l) st Q:=
 jp hg hd (zi ho ha hc) k
theorem yd{c:Bool}{av:TA}{r:AV}(hg:qe ops st.fr o=some c)(hc:c=true->ACall P G f av r)(k:qq (r:=rr) P G ops l ⟨st.n,qc st.fr o.dst (if c=true then .pub r else .pub (.tup [])),st.mem⟩ Q)(hn:jl ops st.n=true:=by rfl)(hd:qB o st.n=true:=by rfl)
  (ho:o.op=.call {callee:=.value (.func f),args:=args,argTypes:=tys}:=by rfl) (ha:c=true->aE st.fr args.toList av:=by intro hg;repeat' (first|exact trivial|exact zLc hg|rfl|refine⟨?_,?_⟩)):qq (r:=rr) P G ops (o::l) st Q:=
 fH hn hg hd (fun h=>zi ho (ha h) (hc h)) k
theorem mc{av:TE}{r:EV}{mem':TP}(hc:zv P G f av st.mem (.ret r mem'))(k:qq (r:=rr) P G ops l ⟨st.n,qc (xf st.n.n st.fr) o.dst r,mem'⟩ Q)(hg:jq o=true:=by rfl)(hd:qB o st.n=true:=by rfl)
  (ho:o.op=.call {callee:=.value (.func f),args:=args,argTypes:=tys}:=by rfl) (ha:kS st.fr args.toList av:=by repeat' (first|exact trivial|rfl|refine⟨?_,?_⟩)):qq (r:=rr) P G ops (o::l) st Q:=
 zm hg (qS (fs:=[]) (cs:=[]) ho hd ⟨rfl,rfl,rfl⟩ ha (by simpa using hc)) k
theorem aC{c:Code}{args:TA}{r:AV}(hf:P.funcs[f]?=some fn)(h:qp (r:=none) P G c ⟨fn.ntmps,sD args,[]⟩ (fun e st=>(e=.normal∨e=.ret)/\RetE P fn st r))(hb:fn.body=some c:=by rfl)(hnm:(fn.name== "runtime.NumGoroutine")=false:=by kernel_rfl)
  (hlen':Nat.ble args.length fn.ntmps=true:=by rfl):ACall P G f args r:=pT hf hb hnm hlen' h
theorem mW{c:Code}{args:TE}{mem:TP}{out:MOut}(hf:P.funcs[f]?=some fn)
  (h:∀gh hold,zW mem.length mem->qp (r:=none) P G c ⟨⟨fn.ntmps,[],gh,false,hold⟩,frE args,mem⟩ (fun e st=>zW st.mem.length st.mem->CL P fn gh hold mem.length out e st)) (hb:fn.body=some c:=by rfl) (hnm:(fn.name== "runtime.NumGoroutine")=false:=by kernel_rfl)
  (hlen':Nat.ble args.length fn.ntmps=true:=by rfl):zv P G f args mem out:=DI hf hb hnm hlen' h
end
end Go.Av
end
