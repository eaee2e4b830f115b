import Derived.Test.YtigbomcjnlikjaaGreatDoorPlatH
set_option linter.unusedVariables false
set_option linter.unusedSimpArgs false
set_option maxRecDepth 100000
set_option maxHeartbeats 9000000
section
namespace Go.Av
open Go.RowKit
section
variable{P:Program}{G:Glob}{ops:Array Oper}{mem:TP}{pv:AV}
variable{fr:Nat->EV}{Q:(Nat->EV)->Prop}{r:Option Nat}
theorem Gq{o:Oper}{y:Operand}{i:Nat}(hi:o.op.operands[i]?=some y)(hy:evO fr y=.psl mem.length 0):OpY P G fr mem o (.psl mem.length 0):=by
 intro B ok bs w a _ _ hmo hf;have h:=hf y (Array.mem_of_getElem? hi);rw[hy]at h;simp only[FitsE]at h;obtain⟨b,hb,_⟩:=h;have:=(zLg hb).1;rw[hmo.len]at this;exact absurd this (Nat.lt_irrefl _)
theorem Ho{o:Oper}{rest:List Oper}{args:Array Operand}{tys:Array TypeId}{f:FuncId}{av:TA}(hg:o.guard=none)(ho:o.op=.call {callee:=.value (.func f),args:=args,argTypes:=tys})
  (ha:aE fr args.toList av) (hc:XCall P G f av (.pan pv)) (h:eu pv P G ops mem Q rest (qc fr o.dst (.psl mem.length 0))):eu pv P G ops mem Q (o::rest) fr:=
 Oi hg (Qa ho (.psl mem.length 0) ha hc) h
theorem gW:∀{ls:List (Nat × EV)}{l:List Oper}{i:Nat}{o:Oper}{fr:Nat->EV}{x:EV},(ls.all fun p=>l.all fun o=>match o.dst with|some d=>!(Nat.beq d p.1)|none=>true)=true->l.toArray[i]?=some o->wS fr ls->wS (qc fr o.dst x) ls
 |[],_,_,_,_,_,_,_,h=>h
 |p::ls,l,i,o,fr,x,hn,ho,h=>by
  simp only[List.all_cons,zLa]at hn;refine⟨?_,gW hn.2 ho h.2⟩;have hm:=zLu.1 hn.1 o (by simpa using zLo (by simpa using ho));cases hd:o.dst with
  |none=>exact h.1
  |some d=>
   rw[hd]at hm;simp only[Bool.not_eq_true']at hm;rw[vi,zLy (fun e=>by rw[e]at hm;simp at hm)];exact h.1
variable{md:Region.Mode}
theorem yB{w0:World}{ok0:Nat->Prop}{n:NS}{Q':Exit->Act->World->Prop}(hG:G.holds w0)(hok:∀b,ok0 b->b<w0.heap.size)(hn:jl ops n=true)
  (hQ:∀fr a w,Sit w0 ok0 ⟨n,fr,mem⟩ a w->Q fr->Q' .normal a w) (I:(Nat->EV)->Prop) (hI:∀(i:Nat)(o:Oper) fr x,ops[i]?=some o->I fr->I (qc fr o.dst x)) (hP:∀fr a w u,I fr->Sit w0 ok0 ⟨n.pan pv u,fr,mem⟩ a w->Q' (.panic (pnc u)) a w):∀(fuel:Nat)(listed:Array Bool)(fr:Nat->EV)(a:Act)(w:World),Sit w0 ok0 ⟨n,fr,mem⟩ a w->I fr->
  fP pv P G md ops mem Q fuel listed fr->wpAnyIn (FW r) 0 P md ops Q' fuel listed a w
 |0,_,_,_,_,hs,_,h=>⟨h.1,hQ _ _ _ hs h.2⟩
 |fuel+1,_,fr,a,w,hs,hi0,h=>⟨fun h0=>hQ _ _ _ hs (h.1 h0),fun i hi=>by
   have h1:=h.2 i hi;unfold qOpZ at h1;unfold wpOpIn;split
   ·rename_i ho;simp only[ho]at h1;exact yB hG hok hn hQ I hI hP fuel _ _ _ _ hs hi0 h1
   ·rename_i o ho
    simp only[ho]at h1;have hd:DOK o.dst n:=kq hn i o ho;obtain⟨_,_,_,_,_,h6⟩:=hs.ex;have hsz:=hs.size
    have hwant:∀b,qe ops fr o=some b->Region.wanted o (yielded ops a.tmps)=b:=fun b hb=>
     vf h6.1 (fun j o t h1 h2=>by rw[hsz];exact wa hn j o t h1 h2) hb
    rcases h1 with⟨hw,x,hx,hK⟩|⟨hw,hK⟩
    ·rw[zLc (hwant true hw)];exact jR (wy hn i o ho) (hx.toM (st:=⟨n,fr,mem⟩) hd w0 ok0 a w hG hok hs _ _ (fun a' w' hs'=>yB hG hok hn hQ I hI hP fuel _ _ a' w' hs' (hI i o _ _ ho hi0) hK) fun a' w' u hs'=>hP _ _ _ _ hi0 hs')
    ·rw[zLy (by rw[hwant false hw];simp)];obtain⟨h0,h1,h2,ok,bs,h3,h4,h5,h6⟩:=hs;exact⟨fun _ _=>trivial,yB hG hok hn hQ I hI hP fuel _ _ _ _ (Sit.put h0 h1 h2 h3 h4 h5 h6 (Below.refl _ _) (by simp[j6,FitsE,Fits,FitsL,undef]) hd) (hI i o _ _ ho hi0) hK⟩⟩
theorem B6{id:Nat}{l:List Oper}{st:ASt}{Q:Exit->ASt->Prop}(pv:AV)(hm:P.follows .mixedOrders=true)(hB:Region.lexB .any l.toArray=true)(hn:jl l.toArray st.n=true)
  (ls:List (Nat × EV)) (hls:wS st.fr ls) (hnd:(ls.all fun p=>l.all fun o=>match o.dst with|some d=>!(Nat.beq d p.1)|none=>true)=true) (hP:∀u,Q (.panic (pnc u)) ⟨st.n.pan pv u,frL ls,st.mem⟩)
  (h:eu pv P G l.toArray st.mem (fun fr=>Q .normal ⟨st.n,fr,st.mem⟩∨∃d,fr d=.psl st.mem.length 0) l st.fr):qp (r:=r) P G (.region id l.toArray true) st Q:=by
 intro w0 ok0 a w hG hok hs;simp only[Region.lexB,zLa]at hB;refine wpIn_region_any hm ?_
 have hs':Sit w0 ok0 st a {w with drawn:=w.drawn+1}:=by
  obtain⟨h0,h1,h2,ok,bs,h3,h4,h5,h6⟩:=hs;have hb:Below w.heap.size w w.drew:=(Below.refl _ _).drew;refine⟨h0,h1.keep (.of_below hb),q9 h2 h2.size hb,okN ok w w.drew,bs,fun b hb=>.inl (h3 b hb),fun b hb=>?_,h5.grow hb,h6.map fun _ _ h=>h.grow h5.lt hb⟩;rcases hb with hb|hb
  ·exact h4 b hb
  ·exact .inr (zL6 h2.size hb.1)
 refine yB (G:=G) (mem:=st.mem) (n:=st.n) (pv:=pv) (Q:=fun fr=>Q .normal ⟨st.n,fr,st.mem⟩∨∃d,fr d=.psl st.mem.length 0) hG hok hn (fun fr a w hs hq=>hq.elim (fun hq=>⟨_,hs,hq⟩) fun⟨d,hd⟩=>by
   obtain⟨_,_,_,ok,bs,_,_,h5,h6⟩:=hs;have:=h6.1 d;simp only[hd,FitsE]at this;obtain⟨b,hb,_⟩:=this;have:=(zLg hb).1;rw[h5.len]at this;exact absurd this (Nat.lt_irrefl _)) (fun fr=>wS fr ls) (fun i o fr x ho hf=>gW hnd ho hf) (fun fr a w u hi hs=>⟨_,rP _ hi _ _ _ _ hs,hP u⟩) _ _ st.fr a _ hs' hls ?_
 have:=iD (md:=.any) l 0 (Array.replicate l.toArray.size false) st.fr sI (by simpa using hB.2) h;simpa using this
end
theorem l9{n:NS}{fr:Nat->EV}{mem:TP}{k i j:Nat}{rows:List (TE)}{r:TE}(hm:mem[k]?=some (.row rows))(hr:rows[i]?=some r)(hc:r[j]?=some (.pub (.v (.slice none 0 0)))):
  Weak ⟨n,fr,mem⟩ ⟨n,fr,mem.set k (.row (rows.set i (r.set j (.psl mem.length 0))))++[.row []]⟩:=by
 intro w0 ok0 a w ⟨h0,h1,h2,ok,bs,h3,h4,h5,h6⟩;simp only at h5 h6;have hlen:=h5.len;have hkm:k<mem.length:=(zLg hm).1;have ht:=Turn.push h5.len ⟨none,0,0,0⟩ (.row []);have h5':=h5.push (b:=⟨none,0,0,0⟩) (rows:=[]) (Below.refl _ _) h2.size ⟨sI,fun _=>rfl,fun g hg=>(by simp at hg),fun g hg=>(by simp at hg)⟩ (fun g hg=>by simp at hg);have hm1:(mem++[.row []])[k]?=some (.row rows):=by rw[zLf hkm];exact hm
 have hkb:k<(bs++[(⟨none,0,0,0⟩:PB)]).length:=by simp;omega
 have hb:(bs++[(⟨none,0,0,0⟩:PB)])[k]?=some (bs++[(⟨none,0,0,0⟩:PB)])[k]:=zLe hkb;have hrow:=h5'.row k _ rows hb hm1;have hi:i<rows.length:=(zLg hr).1;have hj:j<r.length:=(zLg hc).1
 have hturn:=h5'.turn (w':=w) (rows':=rows.set i (r.set j (.psl mem.length 0))) hb hm1 (zLl _) (fun _ _ _=>rfl) sI (fun _=>rfl) (fun g hg=>.inl hg) h2.size (fun hfit=>by
  refine⟨fun r' hr'=>?_,fun hnone=>?_,fun g hg=>(by have:=hrow.pos g hg;simpa using this),fun g hg=>?_⟩
  ·rcases List.mem_or_eq_of_mem_set hr' with h|h
   ·exact hrow.size r' h
   ·rw[h,zL2];exact hrow.size r (zLo hr)
  ·have:=hrow.nil hnone;subst this;simp at hi
  ·obtain⟨cur,c1,c2,c3,c4,c5⟩:=hrow.blk g hg;refine⟨cur,c1,c2,by simpa using c3,c4,fun i' j' r' x hr' hx=>?_⟩
   by_cases hii:i=i'
   ·subst hii;rw[zLi hi]at hr';injection hr' with hr'
    subst hr'
    by_cases hjj:j=j'
    ·subst hjj;rw[zLi hj]at hx;injection hx with hx
     subst hx;obtain⟨u,d1,d2,d3⟩:=c5 i j r _ hr hc;refine⟨u,d1,d2,?_⟩;simp only[FitsE,Fits]at d3;simp only[FitsE];refine⟨⟨none,0,0,0⟩,?_,fun rows' hr'=>?_⟩
     ·rw[zLn oM,←hlen];simp
     ·rw[zLn oM]at hr';simp at hr';subst hr';exact⟨zLl _,fun _=>d3.1⟩
    ·rw[zLn hjj]at hx;obtain⟨u,d1,d2,d3⟩:=c5 i j' r x hr hx;exact⟨u,d1,d2,hfit _ _ d3⟩
   ·rw[zLn hii]at hr';obtain⟨u,d1,d2,d3⟩:=c5 i' j' r' x hr' hx;exact⟨u,d1,d2,hfit _ _ d3⟩)
 obtain⟨hm',hf'⟩:=hturn;have hmem:(mem++[PO.row []]).set k (.row (rows.set i (r.set j (.psl mem.length 0))))=mem.set k (.row (rows.set i (r.set j (.psl mem.length 0))))++[.row []]:=List.set_append_left _ _ hkm;rw[hmem]at hm' hf';exact⟨h0,h1,h2,ok,_,h3,h4,hm',fun t=>hf' _ _ ((h6.1 t).mono (fun _ hb=>hb) (fun _ _=>rfl) ht),fun p hp=>hf' _ _ ((h6.2 p hp).mono (fun _ hb=>hb) (fun _ _=>rfl) ht)⟩
end Go.Av
end
