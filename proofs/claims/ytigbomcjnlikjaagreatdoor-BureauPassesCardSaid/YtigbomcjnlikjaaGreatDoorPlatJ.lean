import Derived.Test.YtigbomcjnlikjaaGreatDoorPlatI
import Derived.Deep.AppendSrc
import Derived.Lib.Builder
import Derived.Lib.UnsafeStr
import Derived.Laws.Externs
set_option linter.unusedVariables false
set_option linter.unusedSimpArgs false
set_option maxRecDepth 100000
set_option maxHeartbeats 9000000
section
namespace Go.Av
open Go.RowKit
section
variable{P:Program}{G:Glob}{st:ASt}{o:Oper}
variable{D E T T' U:TypeId}{p s x:Operand}{w w':World}{bytes k n:Nat}{l:List UInt8}{rows:List (TE)}{ok:Nat->Prop}{bs:List PB}{j:TypeInfo}
theorem oC(ho:o.op=.call {callee:=.builtin .append,args:=#[s,x],argTypes:=#[T,T']}){a:Act}{v:Value}
  (h:(Builtin.append_ #[T,T'] o.type #[a.eval s,a.eval x]).run P w=.ok v w'):(execOp a.eval o).run P w=.ok (.value v) w':=by
 simp[execOp,ho,resolve,invoke,builtin,h]
theorem nq{i:TypeInfo}(ty e0:TypeId)(ht:P.underlying T=some (.slice E))(hi:P.info? E=some i)(w:World)(g sLen sCap:Nat)(cur:Array Value){fz:Nat × Nat}(hg:w.heap[g]?=some (.cells cur e0 fz))(hz:fz=(0,0)∨cur.size<=fz.1)
  (x:Value) (m:Nat) (news:List Value) (hs:Src P i.size T' x m news w)
  (hroom:sLen+m<=sCap) (hfit:sLen*i.size+news.length<=cur.size):
  ∃cur':Array Value,(Builtin.append_ #[T,T'] ty #[.slice (some ⟨g,0,none⟩) sLen sCap,x]).run P w=.ok (.slice (some ⟨g,0,none⟩) (sLen+m) sCap) (w.setRow g cur')/\
   cur'.size=cur.size/\∀t:Nat,cur'[t]?=if sLen*i.size<=t/\t<sLen*i.size+news.length then news[t-sLen*i.size]?else cur[t]?:=by
 obtain⟨cur',h2,h3,h4⟩:=yX (P:=P) g (sLen*i.size) e0 cur news w hg hz hfit hs.one;refine⟨cur',?_,h3,h4⟩;rcases hs.kind with⟨e',hk⟩|hk<;>simp[Builtin.append_,run_underlying ht,run_underlying hk,sizeOf,typeInfo,hi,hs.len,hroom,hs.cells,yY,h2]
theorem o8{size:Nat}(ht:qN P T E size bytes)(ty:TypeId)(w:World)(b:PB)(n:Nat)(cur:Array Value)
  (hb:match b.blk with|none=>n=0|some g=>w.heap[g]?=some (.cells cur b.elem.t (b.elem.fzp cur.size))/\cur.size=b.cap*size/\n<=b.cap/\b.cap<=maxLen)
  (m:Nat) (x:Value) (news:List Value) (hs:∀i,P.info? E=some i->Src P i.size T' x m news w) (hm:0<m)
  (hby:(n+m)*bytes<=140737488355328) (hmax:n+m<=maxLen):
  ∃(w':World)(g':Nat)(cap':Nat)(e':EK)(cur':Array Value),(Builtin.append_ #[T,T'] ty #[b.sl n,x]).run P w=.ok (.slice (some ⟨g',0,none⟩) (n+m) cap') w'/\
   w'.heap[g']?=some (.cells cur' e'.t (e'.fzp cur'.size))/\cur'.size=cap'*size/\n+m<=cap'/\cap'<=maxLen/\(∀t:Nat,t<n*size->cur'[t]?=cur[t]?)/\(∀t:Nat,t<m*size->cur'[n*size+t]?=news[t]?)/\
   (b.blk=some g'∨w.heap.size=g')/\w.grownBy w' b.blk/\(e'.t=E∨e'=b.elem/\b.blk≠none):=by
 obtain⟨hu,i,z,hi,hz,hsz,hbt,hzs,hpos⟩:=ht;have hs:=hs i hi;subst hsz;subst hbt;have hl:news.length=m*i.size:=hs.newsLen;have h63:((n+m:Nat):Int)<=9223372036854775807:=by unfold maxLen at hmax;omega
 have grown:∀(old:Nat)(olds:List Value),olds.length=n*i.size->(∀t:Nat,t<n*i.size->olds[t]?=cur[t]?)->old<n+m->
   (Builtin.append_ #[T,T'] ty #[b.sl n,x]).run P w=.ok (.slice (some ⟨w.heap.size,0,none⟩) (n+m) (grownCap w (n+m) old E)) (w.drew.alloc (.cells ((olds++news).toArray++Builtin.zeroCells z.cells (grownCap w (n+m) old E-(n+m))) E))->
   ∃(w':World)(g':Nat)(cap':Nat)(e':EK)(cur':Array Value),(Builtin.append_ #[T,T'] ty #[b.sl n,x]).run P w=.ok (.slice (some ⟨g',0,none⟩) (n+m) cap') w'/\
   w'.heap[g']?=some (.cells cur' e'.t (e'.fzp cur'.size))/\cur'.size=cap'*i.size/\n+m<=cap'/\cap'<=maxLen/\(∀t:Nat,t<n*i.size->cur'[t]?=cur[t]?)/\(∀t:Nat,t<m*i.size->cur'[n*i.size+t]?=news[t]?)/\
   (b.blk=some g'∨w.heap.size=g')/\w.grownBy w' b.blk/\(e'.t=E∨e'=b.elem/\b.blk≠none):=by
  intro old olds ho hc ho2 hrun;have hge:=grownCap_ge w (n+m) old E;refine⟨_,_,_,(⟨E,false⟩:EK),_,hrun,heap_alloc_new w.drew _,?_,hge,grownCap_le_maxLen w (n+m) old E hmax,fun t ht=>?_,fun t ht=>?_,.inr Y,⟨Y,Y,Y,sI,fun k hk _=>heap_alloc_old w.drew _ hk⟩,.inl Y⟩
  ·simp only[Array.size_append,List.size_toArray,List.length_append,size_zeroCells,hzs,ho,hl,←Nat.add_mul];congr 1;omega
  ·rw[Array.getElem?_append_left (by simp[ho];omega)];rw[List.getElem?_toArray,zLf oM];exact hc t ht
  ·rw[Array.getElem?_append_left (by simp[ho,hl];omega),List.getElem?_toArray,zL4 oM];congr 1;omega
 cases hg:b.blk with
 |none=>
  rw[hg]at hb;simp only at hb;subst hb;have hr:=run_append_grow_src (P:=P) w T T' ty E i z hu hi hz none 0 0 [] (run_firstCells_none w.drew i.size 0 0 0) x m news hs oM oM (growslice_fits oM hby)
  have h:=grown 0 [] sI (fun t ht=>by simp at ht) oM (by
   simp only[PB.sl,hg];exact hr)
  rw[hg]at h;exact h
 |some g=>
  rw[hg]at hb;simp only at hb;obtain⟨hc,hcs,hcn,hcm⟩:=hb
  by_cases hroom:n+m<=b.cap
  ·have hfit:n*i.size+news.length<=cur.size:=by rw[hl,hcs,←Nat.add_mul];exact Nat.mul_le_mul_right _ hroom
   obtain⟨cur',h2,h3,h4⟩:=nq (P:=P) ty b.elem.t hu hi w g n b.cap cur hc (b.elem.free _) x m news hs hroom hfit;refine⟨w.setRow g cur',g,b.cap,b.elem,cur',by simp only[PB.sl,hg];exact h2,(by rw[h3];exact setRow_heap w g cur _ b.elem.t _ hc),by rw[h3];exact hcs,hroom,hcm,fun t ht=>?_,fun t ht=>?_,.inl Y,⟨Y,Y,Y,sI,fun k _ hk=>setRow_other w g k _ (fun e=>hk (by rw[e]))⟩,.inr ⟨Y,sI⟩⟩
   ·rw[h4,zLy oM]
   ·rw[h4,zLc (by rw[hl];omega)];congr 1;omega
  ·have hcur:n*i.size<=cur.size:=by rw[hcs];exact Nat.mul_le_mul_right _ hcn
   have hf:=run_firstCells_some (P:=P) w.drew i.size n ⟨g,0,none⟩ n b.cap (cur.toList.take (n*i.size)) (by simp;omega) (fun j v hv=>by
    rw[yY];have:=cell_of_row w g (0+j) cur _ _ hc;rw[zLx]at hv;split at hv
    ·have h2:w.drew.cell? ⟨g,0+j,none⟩=w.cell? ⟨g,0+j,none⟩:=sI;rw[h2,this];simpa using hv
    ·cases hv)
   have hr:=run_append_grow_src (P:=P) w T T' ty E i z hu hi hz (some ⟨g,0,none⟩) n b.cap (cur.toList.take (n*i.size)) hf x m news hs oM h63 (growslice_fits oM hby)
   have h:=grown b.cap (cur.toList.take (n*i.size)) (by simp;omega) (fun t ht=>by rw[zLx,zLc ht];simp) oM (by
    simp only[PB.sl,hg];exact hr)
   rw[hg]at h;exact h
def jz(l:List UInt8):List (TE):=l.map fun b=>[.pub (.v (.int .u8 (b.toNat:Int)))]
theorem xw:(jz l).length=l.length:=by simp[jz]
theorem oH:∀r∈jz l,r.length=1:=by simp[jz]
theorem FS(l m:List UInt8):jz l++jz m=jz (l++m):=by simp[jz]
theorem my{i:Nat}{b:UInt8}(h:l[i]?=some b):(byteCells ⟨l.toArray⟩)[i]?=some (.int .u8 b.toNat):=by
 simp[byteCells,h]
theorem Dy(ho:o.op=.call {callee:=.builtin .append,args:=#[s,x],argTypes:=#[T,T']})(hd:qB o st.n=true)
  (hs:evO st.fr s=.pslT k n E) (hm:st.mem[k]?=some (.row rows)) (hn:rows.length=n) (hx:evO st.fr x=.pub (.v (.string ⟨l.toArray⟩))) (ht:qN P T E 1 bytes) (hT:P.underlying T'=some .string) (hs1:∀r∈rows,r.length=1) (h0l:l≠[])
  (hby:(n+l.length)*bytes<=140737488355328) (hmax:n+l.length<=maxLen):
  OpM P G st o ⟨st.n,qc st.fr o.dst (.pslT k (n+l.length) E),st.mem.set k (.row (rows++jz l))⟩:=by
 obtain⟨ns,hns⟩:∃ns,ns=jz l:=⟨_,rfl⟩;have hnl:ns.length=(⟨l.toArray⟩:ByteArray).size:=by rw[hns,xw];rfl
 have hll:l.length=ns.length:=by rw[hns,xw]
 have hs2:∀r∈ns,r.length=1:=by rw[hns];exact oH
 rw[←hns];rw[hll]at hby hmax⊢;have hpos:0<ns.length:=by rw[←hll];exact List.length_pos_iff.2 h0l
 intro w0 ok0 a w hG hok hsit K Q hK;obtain⟨h0,h1',h2,ok,bs,h3,h4,h5,h6⟩:=hsit;have hse:=qg (fr:=st.fr) (a:=a) (x:=s) fun t _=>h6.1 t;rw[hs]at hse;simp only[FitsE]at hse;obtain⟨b,hb,hse⟩:=hse;obtain⟨e,heT⟩:=(hse rows hm).2 hn;have ex:=qg (fr:=st.fr) (a:=a) (x:=x) fun t _=>h6.1 t;rw[hx]at ex;simp only[FitsE,Fits]at ex;have ex:=ex.1
 have u2:∀u∈byteCells ⟨l.toArray⟩,u.oneCell'=true:=fun u hu=>by
  obtain⟨_,_,rfl⟩:=zLj.1 hu;rfl
 have u4:∀(i j:Nat)(r:TE)(x:EV),ns[i]?=some r->r[j]?=some x->∃v,(byteCells ⟨l.toArray⟩)[i*1+j]?=some v/\FitsE ok w bs st.mem x v:=fun i j r x hr hx=>by
  rw[hns,jz,zLq,zL7]at hr;obtain⟨c,hc,rfl⟩:=hr;cases j with
  |succ j=>simp at hx
  |zero=>
   simp at hx;subst hx;exact⟨_,by rw[Nat.mul_one];exact my hc,by simp[FitsE,Fits,Value.oneCell']⟩
 have hrow:=h5.row k b rows hb hm;have hkl:k<bs.length:=(zLg hb).1;have hkm:k<st.mem.length:=(zLg hm).1
 obtain⟨cur,hcur⟩:∃cur:Array Value,(match b.blk with|none=>n=0|some g=>w.heap[g]?=some (.cells cur b.elem.t (b.elem.fzp cur.size))/\cur.size=b.cap*1/\n<=b.cap/\b.cap<=maxLen)/\
   ∀(i j:Nat)(r:TE)(x:EV),rows[i]?=some r->r[j]?=some x->∃u,cur[i*1+j]?=some u/\u.oneCell'=true/\FitsE ok w bs st.mem x u:=by
  cases hg:b.blk with
  |none=>
   have:=hrow.nil hg;subst this;exact⟨#[],by simpa using hn.symm,sI⟩
  |some g=>
   obtain⟨cur,c1,c2,c3,c4,c5⟩:=hrow.blk g hg;have hp:=hrow.pos g hg;have hbs:b.size=1:=by rw[←hrow.size rows[0] (zLm hp),hs1 rows[0] (zLm hp)]
   rw[hbs]at c2 c5;exact⟨cur,⟨c1,c2,oM,c4⟩,c5⟩
 obtain⟨hcur1,hcur2⟩:=hcur
 have hkd:∀w',w.grownBy w' b.blk->KD w w':=fun w' r9=>by
  cases hg:b.blk with
  |none=>exact⟨r9.size,fun D o hD _=>by rw[r9.block D (zLr.1 hD).1 (by simp[hg])];exact hD⟩
  |some g=>
   obtain⟨cur,c1,_⟩:=hrow.blk g hg;exact .of_cells c1 r9.size (fun k hk hne=>r9.block k hk (by rw[hg];intro e;injection e with e;exact hne e))
 obtain⟨w',g',cap',e',cur',r1,r2,r3,r4,r5,r6,r7,r8,r9,r10⟩:=o8 (T':=T') ht o.type w b n cur hcur1 ns.length (.string ⟨l.toArray⟩) (byteCells ⟨l.toArray⟩) (fun i hi=>by
  obtain⟨_,i',_,hi',_,hsz,_⟩:=ht;rw[hi']at hi;injection hi with hi;subst hi
  have:=Src.ofString (P:=P) w hT ⟨l.toArray⟩;rw[hsz,hnl];exact this) hpos hby hmax
 have hrun:(execOp a.eval o).run P w=.ok (.value (.slice (some ⟨g',0,none⟩) (n+ns.length) cap')) w':=oC ho (by rw[e,ex];exact r1)
 have hturn:=h5.turn (w':=w') (b':=⟨some g',cap',e',1⟩) (rows':=rows++ns) hb hm r9.size (fun t htt htn=>r9.block t htt htn) sI (fun hl=>by rw[List.length_append]at hl;omega)
  (fun g hg=>by
   simp at hg;subst hg;rcases r8 with h|h
   ·exact .inl h
   ·exact .inr (Nat.le_of_eq h)) h2.size (fun hfit=>by
  refine⟨fun r hr=>?_,fun hnn=>(by simp at hnn),fun _ _=>(by simp;omega),fun g hg=>?_⟩
  ·rcases List.mem_append.1 hr with h|h
   ·exact hs1 r h
   ·exact hs2 r h
  ·simp at hg;subst hg;refine⟨cur',r2,r3,by simpa[hn]using r4,r5,?_⟩;refine cY hs2 (fun i j r x hr hx=>?_) (fun t htt=>by rw[hn];exact r7 t htt) u2 (fun i j r x hr hx=>?_)
   ·obtain⟨u,c1,c2,c3⟩:=hcur2 i j r x hr hx;refine⟨u,?_,c2,hfit _ _ c3⟩;have hi:i<rows.length:=(zLg hr).1
    have hj:j<1:=by
     have:=(zLg hx).1;rwa[hs1 r (zLo hr)]at this
    rw[r6]
    ·exact c1
    ·have h20:(i+1)*1<=n*1:=Nat.mul_le_mul_right _ oM;have h21:(i+1)*1=i*1+1:=Nat.succ_mul i 1;have h22:i*1+j<i*1+1:=Nat.add_lt_add_left hj _;exact Nat.lt_of_lt_of_le h22 (by rw[←h21];exact h20)
   ·obtain⟨v,c1,c2⟩:=u4 i j r x hr hx;exact⟨v,c1,hfit _ _ c2⟩)
 obtain⟨hm',hf'⟩:=hturn;refine qx hrun (hK _ _ ⟨(size_put ..).trans h0,h1'.put (hkd w' r9) (zo hd),?_,ok,bs.set k ⟨some g',cap',e',1⟩,h3,h4,hm',?_⟩)
 ·refine h2.trans ⟨r9.os,r9.tape,r9.output,r9.size,fun t htt=>r9.block t (Nat.lt_of_lt_of_le htt h2.size) fun e=>?_⟩;have:=(h5.own k b rows t hb hm e.symm).1;omega
 ·refine qP (h6.map hf') ?_ (fun d hdd=>by rw[h0];exact jN hd d hdd);simp only[FitsE];refine⟨⟨some g',cap',e',1⟩,by simp[hkl],fun rows' hm''=>?_⟩;rw[zLi hkm]at hm'';injection hm'' with hm''
  injection hm'' with hm''
  subst hm''
  exact⟨by simp[hn],fun _=>⟨Y,fun _=>by
   rcases r10 with h|⟨h,hbn⟩
   ·exact h
   ·show e'.t=E;rw[h];refine heT ?_;rw[←hn];cases hg:b.blk with
    |none=>exact absurd hg hbn
    |some g=>exact hrow.pos g hg⟩⟩
variable{fr:Nat->EV}{mem:TP}
theorem Fj{z:Value}{zs:List Value}(ho:o.op=.alloc T)(hd:qB o st.n=true)(hz:(P.info? T).bind (·.zero)=some z)(hc:z.cells=zs.toArray)(h1:zs.all Value.oneCell'=true)(h2:zs.length=2):
  OpM P G st o ⟨st.n,qc st.fr o.dst (.ppT st.mem.length 1 T),st.mem++[.row [zs.map fun v=>.pub (.v v)]]⟩:=by
 intro w0 ok0 a w hG hok hs K Q hK;obtain⟨h0,h1',h2',ok,bs,h3,h4,h5,h6⟩:=hs
 have hzf:FitsEL ok w bs st.mem (zs.map fun v=>.pub (.v v)) zs:=by
  have:=(FitsEL.pub (bs:=bs) (mem:=st.mem)).2 (xW (ok:=ok) (w:=w) zs h1);simpa[List.map_map,Function.comp_def]using this
 refine qx (w':=w.alloc (.cells zs.toArray T)) (u:=.pointer (some ⟨w.heap.size,0,none⟩)) ?_ (hK _ _ (Sit.push h0 h1' h2' h3 h4 h5 h6 (qu ..) (g7 T h5.len h5.lt (fun v hv=>by rw[zLu]at h1;exact h1 v hv) hzf) (fun g hg=>by simp at hg;omega) ?_ (zo hd)))
 ·cases hi:P.info? T with
  |none=>simp[hi]at hz
  |some i=>
   have hz':i.zero=some z:=by simpa[hi]using hz
   simp[execOp,ho,Instr.alloc,zeroValue,typeInfo,hi,hz',newVar,newRow,hc]
 ·simp only[FitsE];refine⟨⟨some w.heap.size,1,T,zs.length⟩,by rw[←h5.len];simp,fun rows hr=>?_⟩;simp at hr;subst hr;exact⟨zLl _,fun _=>⟨_,Y,Y,.inr (by simp[h2]),Y⟩⟩
theorem wI{n:NS}(d:Tmp){l:Nat}(h:fr d=.ppT l k T):Weak ⟨n,fr,mem⟩ ⟨n,qc fr (some d) (.pp l k 0 0),mem⟩:=by
 intro w0 ok0 a w ⟨h0,h1,h2,ok,bs,h3,h4,h5,h6⟩;refine⟨h0,h1,h2,ok,bs,h3,h4,h5,fun t=>?_,h6.2⟩;simp only[vi]
 by_cases htd:t=d
 ·subst htd;simp only[if_true];have h7:=h6.1 t;simp only at h7;rw[h]at h7;simp only[FitsE]at h7⊢;obtain⟨b,hb,h7⟩:=h7;refine⟨b,hb,fun rows hr=>⟨(h7 rows hr).1,fun hn=>?_⟩⟩;obtain⟨g,e1,_,_,e2⟩:=(h7 rows hr).2 hn;exact⟨g,e1,by simpa using e2⟩
 ·simp only[zLy htd];exact h6.1 t
theorem FD{l:Nat}{u:Value}(hmo:MemOK k ok w bs mem)(h:FitsE ok w bs mem (.ppT l n T) u)(hm:mem[l]?=some (.row rows))(hn:rows.length=n)(h2:∃r∈rows,r.length=2):
  ∃g,u=.pointer (some ⟨g,0,none⟩)/\w.shape? g=some (T,2):=by
 simp only[FitsE]at h;obtain⟨b,hb,h⟩:=h;obtain⟨g,e1,e2,e3,e4⟩:=(h rows hm).2 hn;have hrow:=hmo.row l b rows hb hm;obtain⟨cur,c1,c2,_⟩:=hrow.blk g e1;refine⟨g,e4,?_⟩;obtain⟨r,hr,h2⟩:=h2;have hs:=hrow.size r hr;have e3:b.cap*b.size=2:=e3.elim (fun h=>oM) id;rw[World.shape?,c1,e2];simp[c2,e3]
theorem sO{S:TypeId}{l:Nat}(ho:o.op=.convert S D x)(hx:evO fr x=.ppT l n T)(hm:mem[l]?=some (.row rows))(hn:rows.length=n)(h2:∃r∈rows,r.length=2)(hs:P.underlying S=some (.pointer T))(hd:P.underlying D=some .unsafePointer)(ht:P.info? T=some j)(hj:(j.size !=0)=true):
  OpY P G fr mem o (.ppT l n T):=
 qb fun ok bs w a _⟨k,hmo⟩ hf=>by
  have h:=hf x (by simp[ho,Op.operands]);rw[hx]at h;obtain⟨g,e,hsh⟩:=FD hmo h hm hn h2;refine⟨_,?_,h⟩;have:=Lib.run_to_unsafe w ⟨g,0,none⟩ hs hd ht (by simpa using hj) hsh (Nat.zero_lt_succ 1);simp[execOp,ho,e,this]
theorem mC{S:TypeId}{l:Nat}(ho:o.op=.convert S D x)(hx:evO fr x=.ppT l n T)(hm:mem[l]?=some (.row rows))(hn:rows.length=n)(h2:∃r∈rows,r.length=2)(hs:P.underlying S=some .unsafePointer)(hd:P.underlying D=some (.pointer T))(ht:P.info? T=some j)(hl:liesAt P P.depth T (2/P.cellsOf T) 0 T 1=true):
  OpY P G fr mem o (.ppT l n T):=
 qb fun ok bs w a _⟨k,hmo⟩ hf=>by
  have h:=hf x (by simp[ho,Op.operands]);rw[hx]at h;obtain⟨g,e,hsh⟩:=FD hmo h hm hn h2;refine⟨_,?_,h⟩;have:=Lib.run_from_unsafe w ⟨g,0,none⟩ hs hd ht hsh hl;simp[execOp,ho,e,this]
theorem tG{f:FuncId}{fn:Func}{tys:Array TypeId}{e:EV}(ho:o.op=.call {callee:=.value (.func f),args:=#[x],argTypes:=tys})(hx:evO fr x=e)(hf':P.funcs[f]?=some fn)(hname:(fn.name== "runtime.NumGoroutine")=false)
  (hb:fn.body.isNone=true) (hn:Extern.findNext fn=none) (he:Extern.find fn=some Extern.AbiNoEscape.same):OpY P G fr mem o e:=
 qb fun ok bs w a _ _ hf=>by
  have h:=hf x (by simp[ho,Op.operands,Call.operands]);rw[hx]at h;refine⟨a.eval x,?_,h⟩;have h1:fn.name≠ "runtime.NumGoroutine":=by simpa using hname
  have h2:fn.body=none:=by simpa using hb
  have h3:(Extern.AbiNoEscape.same #[a.eval x]).run P w=.ok (a.eval x) w:=rfl
  have h4:(callFunc f #[a.eval x]).run P w=.ok (.value (a.eval x)) w:=by
   rw[run_callFunc_extern hf' hname hb hn he,h3];rfl
  simp[execOp,ho,resolve,Deferred.ofValue,invoke,h4,show a.eval (.func f)=.func (.func f) #[] #[] from rfl]
theorem Qj{y:Operand}{l i j:Nat}{jj:TypeInfo}(ho:o.op=.binOp .neq T x y U)(hx:evO fr x=.pp l n i j)(hy:evO fr y=.pp l n i j)(hm:mem[l]?=some (.row rows))(hn:rows.length=n)(ht:P.underlying T=some (.pointer E))(hE:P.info? E=some jj):OpY P G fr mem o (B false):=
 qb fun ok bs w a _ _ hf=>by
  have h:=hf x (by simp[ho,Op.operands]);have h':=hf y (by simp[ho,Op.operands]);rw[hx]at h;rw[hy]at h';simp only[FitsE]at h h';obtain⟨b,hb,h⟩:=h;obtain⟨b',hb',h'⟩:=h';rw[hb]at hb';injection hb' with hb'
  subst hb';obtain⟨g,hg,e⟩:=(h rows hm).2 hn;obtain⟨g',hg',e'⟩:=(h' rows hm).2 hn;rw[hg]at hg';injection hg' with hg'
  subst hg';refine⟨.bool false,?_,qA Y⟩;have:=Lib.run_neq_ptr_same (P:=P) w ⟨g,i*b.size+j,none⟩ ht hE;have hgd:(eqGuard .neq T x y (.pointer (some ⟨g,i*b.size+j,none⟩)) (.pointer (some ⟨g,i*b.size+j,none⟩))).run P w=.ok () w:=by simp[eqGuard]
  simp only[execOp,ho,e,e',Sem.run_bind,hgd,this,Result.andThen_ok];rfl
theorem po{l:Nat}(ho:o.op=.call {callee:=.builtin .unsafeSliceData,args:=#[x],argTypes:=#[T]})(hx:evO fr x=.pslT l n E)(hm:mem[l]?=some (.row rows))(hn:rows.length=n)(hp:0<n)(h1:∀r∈rows,r.length=1):OpY P G fr mem o (.ppT l n E):=
 qb fun ok bs w a _⟨k,hmo⟩ hf=>by
  have h:=hf x (by simp[ho,Op.operands,Call.operands]);rw[hx]at h;simp only[FitsE]at h;obtain⟨b,hb,h⟩:=h;obtain⟨e,heT⟩:=(h rows hm).2 hn;have hrow:=hmo.row l b rows hb hm;cases hg:b.blk with
  |none=>
   have:=hrow.nil hg;subst this;simp at hn;omega
  |some g=>
   obtain⟨cur,c1,c2,c3,_⟩:=hrow.blk g hg;simp only[PB.sl,hg]at e;refine⟨.pointer (some ⟨g,0,none⟩),?_,?_⟩
   ·have:=Lib.run_unsafeSliceData_row (P:=P) w #[T] o.type ⟨g,0,none⟩ n b.cap oM;simp[execOp,ho,resolve,invoke,builtin,e,this]
   ·simp only[FitsE];refine⟨b,hb,fun rows' hr=>?_⟩;rw[hm]at hr;injection hr with hr
    injection hr with hr
    subst hr;exact⟨oM,fun _=>⟨g,hg,heT hp,.inl (by rw[←hrow.size _ (zLm (by omega:0<rows.length))];exact h1 _ (zLm _)),Y⟩⟩
theorem ec(w:World)(p:Addr)(n:Nat):(w.freeze p n).heap.size=w.heap.size:=by
 unfold World.freeze;split
 ·rfl
 ·simp
theorem bM(w:World)(p:Addr)(n k:Nat)(h:k≠p.block):(w.freeze p n).heap[k]?=w.heap[k]?:=by
 unfold World.freeze;split
 ·rfl
 ·simp[Array.getElem?_modify,Ne.symm h]
theorem B8{n:NS}{fr:Nat->EV}{w0:World}{ok0:Nat->Prop}{a:Act}{d g:Nat}{b:PB}(h5:MemOK w0.heap.size ok w bs mem)(hb:bs[d]?=some b)(hm:mem[d]?=some (.row rows))(hg:b.blk=some g)
  (hsz:w'.heap.size=w.heap.size) (hw:∀k,k≠g->w'.heap[k]?=w.heap[k]?):MemOK w0.heap.size ok w' bs (mem.set d .dead)/\∀(e:EV)(u:Value),FitsE ok w bs mem e u->FitsE ok w' bs (mem.set d .dead) e u:=by
 have get:∀(l:Nat)(o:PO),(mem.set d .dead)[l]?=some o->o.live=true->mem[l]?=some o/\l≠d:=fun l o h ho=>by
  by_cases e:d=l
  ·subst e
   by_cases hl:d<mem.length
   ·rw[zLi hl]at h;injection h with h;subst h;cases ho
   ·rw[List.getElem?_eq_none (by simp;omega)]at h;cases h
  ·exact⟨by rwa[zLn e]at h,Ne.symm e⟩
 have hng:=(h5.own d b rows g hb hm hg).2;have hok:∀k,ok k->w'.heap[k]?=w.heap[k]?:=fun k hk=>hw k (fun e=>hng (e▸hk));have ht:Turn bs bs mem (mem.set d .dead):=⟨fun l b hb=>⟨b,hb,fun rows h=>⟨rows,(get l _ h rfl).1,zLl _,fun _=>rfl⟩⟩,fun l b b' es hb hb' h=>⟨⟨es,(get l _ h rfl).1⟩,by rw[hb]at hb';injection hb' with hb';exact hb'.symm⟩⟩;have hf:∀(e:EV)(u:Value),FitsE ok w bs mem e u->FitsE ok w' bs (mem.set d .dead) e u:=fun e u h=>h.mono (fun _ hb=>hb) hok ht;have hne:∀(l:Nat)(b':PB)(o:PO)(g':Nat),bs[l]?=some b'->mem[l]?=some o->o.live=true->l≠d->b'.blk=some g'->g'≠g:=fun l b' o g' h1 h2 h3 h4 h6 e=>h4 (h5.dist' l d b' b o _ g' h1 h2 h3 hb hm rfl h6 (e▸hg));refine⟨⟨by simp[h5.len],fun k hk=>by rw[hsz];exact h5.lt k hk,fun l b rows hb h=>?_,fun l b es hb h=>?_,fun l b o g hb h ho=>h5.own' l b o g hb (get l o h ho).1 ho,fun l l' b b' o o' g hb h ho hb' h' ho'=>h5.dist' l l' b b' o o' g hb (get l o h ho).1 ho hb' (get l' o' h' ho').1 ho'⟩,hf⟩
 ·obtain⟨h',hl⟩:=get l _ h rfl;have hr:=h5.row l b rows hb h'
  exact⟨hr.size,hr.nil,hr.pos,fun g' hg'=>by
   obtain⟨cur,c1,c2,c3,c4,c5⟩:=hr.blk g' hg'
   exact⟨cur,(hw g' (hne l b _ g' hb h' Y hl hg')).trans c1,c2,c3,c4,fun i j r x e1 e2=>by
    obtain⟨u,u1,u2,u3⟩:=c5 i j r x e1 e2;exact⟨u,u1,u2,hf _ _ u3⟩⟩⟩
 ·obtain⟨h',hl⟩:=get l _ h rfl;obtain⟨g',arr,g1,g2,g3,g4⟩:=h5.mp l b es hb h'
  exact⟨g',arr,g1,(hw g' (hne l b _ g' hb h' Y hl g1)).trans g2,g3,fun i k x e=>by
   obtain⟨v,v1,v2⟩:=g4 i k x e;exact⟨v,v1,hf _ _ v2⟩⟩
theorem fm(ho:o.op=.call {callee:=.builtin .unsafeString,args:=#[p,x],argTypes:=#[T,T']})(hd:qB o st.n=true)
  (hp:evO st.fr p=.ppT k n E) (hx:evO st.fr x=I (n:Int)) (hm:st.mem[k]?=some (.row (jz l))) (hn:l.length=n) (h0l:l≠[]) (hT:P.underlying T=some (.pointer E)) (hE:P.cellsOf E=1) (hmax:n<=9223372036854775807):
  OpM P G st o ⟨st.n,qc st.fr o.dst (.pub (.v (.string ⟨l.toArray⟩))),st.mem.set k .dead⟩:=by
 intro w0 ok0 a w hG hok hsit K Q hK;obtain⟨h0,h1',h2,ok,bs,h3,h4,h5,h6⟩:=hsit;have hse:=qg (fr:=st.fr) (a:=a) (x:=p) fun t _=>h6.1 t;rw[hp]at hse;simp only[FitsE]at hse;obtain⟨b,hb,hse⟩:=hse;obtain⟨g,hg,heT,_,e⟩:=(hse _ hm).2 (by rw[xw];exact hn);have ex:=qg (fr:=st.fr) (a:=a) (x:=x) fun t _=>h6.1 t;rw[hx]at ex;simp only[FitsE,Fits]at ex;have ex:=ex.1;have hrow:=h5.row k b _ hb hm;obtain⟨cur,c1,c2,c3,c4,c5⟩:=hrow.blk g hg;have hpos:0<l.length:=List.length_pos_iff.2 h0l
 have hbs:b.size=1:=by
  have:=hrow.size ((jz l)[0]'(by rw[xw];exact hpos)) (zLm _);rw[←this];exact oH _ (zLm _)
 have hsh:w.shape? g=some (b.elem.t,b.cap*b.size):=by rw[World.shape?,c1];simp[c2]
 have hlen:l.length<=b.cap*b.size:=by rw[hbs,Nat.mul_one];rw[xw]at c3;exact c3
 have hcell:∀j x,l[j]?=some x->w.cell? ((⟨g,0,none⟩:Addr).add j)=some (.int .u8 x.toNat):=fun j x hj=>by
  obtain⟨u,d1,_,d3⟩:=c5 j 0 [.pub (.v (.int .u8 (x.toNat:Int)))] _ (by simp[jz,hj]) rfl;simp only[FitsE,Fits]at d3;rw[yY,cell_of_row w g _ cur _ _ c1];rw[hbs,Nat.mul_one,Nat.add_zero]at d1;rw[Nat.zero_add,d1,d3.1]
 have hrun:(execOp a.eval o).run P w=.ok (.value (.string ⟨l.toArray⟩)) (w.freeze ⟨g,0,none⟩ l.length):=by
  have:=Lib.run_unsafeString_row (P:=P) w T T' o.type E hT hE g (b.cap*b.size) (by rw[hsh,heT]) l h0l hlen oM hcell;rw[←hn]at ex;simp[execOp,ho,resolve,invoke,builtin,e,ex,this]
 obtain⟨hm',hf'⟩:=B8 (n:=st.n) (fr:=st.fr) (ok0:=ok0) (a:=a) (w':=w.freeze ⟨g,0,none⟩ l.length) h5 hb hm hg (ec ..) (fun k hk=>bM _ _ _ _ hk);have hkd:KD w (w.freeze ⟨g,0,none⟩ l.length):=.of_cells c1 (by rw[ec];exact zLl _) (fun k hk hne=>bM _ _ _ _ hne);refine qx hrun (hK _ _ ⟨(size_put ..).trans h0,h1'.put hkd (zo hd),Lib.below_freeze h2 (h5.own k b _ g hb hm hg).1 _,ok,bs,h3,h4,hm',?_⟩);exact qP (h6.map hf') (by simp[FitsE,Fits,Value.oneCell']) (fun d hdd=>by rw[h0];exact jN hd d hdd)
theorem tu{Z:TypeId}{l:Nat}(ho:o.op=.call {callee:=.builtin .len,args:=#[x],argTypes:=#[T]})(hx:evO fr x=.pslT l n Z)(hm:mem[l]?=some (.row rows))(hn:rows.length=n)
  (hu:P.underlying T=some (.slice U)):OpY P G fr mem o (I (n:Int)):=
 qb fun ok bs w a _ hmo hf=>by
  have h:=hf x (by simp[ho,Op.operands,Call.operands]);rw[hx]at h;simp only[FitsE]at h;obtain⟨b,hb,h⟩:=h;have e:=((h rows hm).2 hn).1;obtain⟨k,hmo⟩:=hmo;have hr:=hmo.row l b rows hb hm;unfold PB.sl at e;cases hk:b.blk with
  |none=>
   rw[hk]at e;simp only at e;have hz:n=0:=by rw[←hn,hr.nil hk];rfl
   subst hz;exact⟨_,by simp[execOp,ho,resolve,invoke,builtin,Builtin.len_,run_underlying hu,e,goInt],qA Y⟩
  |some g=>
   rw[hk]at e;simp only at e;exact⟨_,by simp[execOp,ho,resolve,invoke,builtin,Builtin.len_,run_underlying hu,e,goInt],qA Y⟩
theorem IL{e:EV}(h:e=.pslT k n T)(hm:mem[k]?=some (.row rows))(hn:rows.length=n):qn mem e [.pslT k n T]:=by subst h;exact⟨rfl,rows,hm,hn⟩
theorem dC(ho:o.op=.call {callee:=.builtin .unsafeString,args:=#[p,x],argTypes:=#[T,T']})
  (hp:evO fr p=.ppT k n E) (hx:evO fr x=I (n:Int)) (hm:mem[k]?=some (.row (jz l))) (hn:l.length=n) (h0l:l≠[]) (hT:P.underlying T=some (.pointer E)) (hE:P.cellsOf E=1) (hmax:n<=9223372036854775807):
  OpB P G fr mem o (.pub (.v (.string ⟨l.toArray⟩))) (mem.set k .dead):=fun N fr2 he hd=>
 fm (P:=P) (G:=G) (st:=⟨N,fr2,mem⟩) ho hd ((he p (by simp[ho,Op.operands,Call.operands])).trans hp) ((he x (by simp[ho,Op.operands,Call.operands])).trans hx) hm hn h0l hT hE hmax
end
theorem s7{n:NS}(T:TypeId){fr:Nat->EV}{mem:TP}{k i j:Nat}{rows:List (TE)}{r:TE}(hm:mem[k]?=some (.row rows))(hr:rows[i]?=some r)(hc:r[j]?=some (.pub (.v (.slice none 0 0)))):
  Weak ⟨n,fr,mem⟩ ⟨n,fr,mem.set k (.row (rows.set i (r.set j (.pslT mem.length 0 T))))++[.row []]⟩:=by
 intro w0 ok0 a w ⟨h0,h1,h2,ok,bs,h3,h4,h5,h6⟩;simp only at h5 h6;have hlen:=h5.len;have hkm:k<mem.length:=(zLg hm).1;have ht:=Turn.push h5.len ⟨none,0,0,0⟩ (.row []);have h5':=h5.push (b:=⟨none,0,0,0⟩) (rows:=[]) (Below.refl _ _) h2.size ⟨sI,fun _=>rfl,fun g hg=>(by simp at hg),fun g hg=>(by simp at hg)⟩ (fun g hg=>by simp at hg);have hm1:(mem++[.row []])[k]?=some (.row rows):=by rw[zLf hkm];exact hm
 have hkb:k<(bs++[(⟨none,0,0,0⟩:PB)]).length:=by simp;omega
 have hb:(bs++[(⟨none,0,0,0⟩:PB)])[k]?=some (bs++[(⟨none,0,0,0⟩:PB)])[k]:=zLe hkb;have hrow:=h5'.row k _ rows hb hm1;have hi:i<rows.length:=(zLg hr).1;have hj:j<r.length:=(zLg hc).1
 have hturn:=h5'.turn (w':=w) (rows':=rows.set i (r.set j (.pslT mem.length 0 T))) hb hm1 (zLl _) (fun _ _ _=>rfl) sI (fun _=>rfl) (fun g hg=>.inl hg) h2.size (fun hfit=>by
  refine⟨fun r' hr'=>?_,fun hnone=>?_,fun g hg=>(by have:=hrow.pos g hg;simpa using this),fun g hg=>?_⟩
  ·rcases List.mem_or_eq_of_mem_set hr' with h|h
   ·exact hrow.size r' h
   ·rw[h,zL2];exact hrow.size r (zLo hr)
  ·have:=hrow.nil hnone;subst this;simp at hi
  ·obtain⟨cur,c1,c2,c3,c4,c5⟩:=hrow.blk g hg;refine⟨cur,c1,c2,by simpa using c3,c4,fun i' j' r' x hr' hx=>?_⟩
   by_cases hii:i=i'
   ·subst hii;rw[zLi hi]at hr';injection hr' with hr'
    subst hr'
    by_cases hjj:j=j'
    ·subst hjj;rw[zLi hj]at hx;injection hx with hx
     subst hx;obtain⟨u,d1,d2,d3⟩:=c5 i j r _ hr hc;refine⟨u,d1,d2,?_⟩;simp only[FitsE,Fits]at d3;simp only[FitsE];refine⟨⟨none,0,0,0⟩,?_,fun rows' hr'=>?_⟩
     ·rw[zLn oM,←hlen];simp
     ·rw[zLn oM]at hr';simp at hr';subst hr';exact⟨zLl _,fun _=>⟨d3.1,fun h=>absurd h (Nat.lt_irrefl _)⟩⟩
    ·rw[zLn hjj]at hx;obtain⟨u,d1,d2,d3⟩:=c5 i j' r x hr hx;exact⟨u,d1,d2,hfit _ _ d3⟩
   ·rw[zLn hii]at hr';obtain⟨u,d1,d2,d3⟩:=c5 i' j' r' x hr' hx;exact⟨u,d1,d2,hfit _ _ d3⟩)
 obtain⟨hm',hf'⟩:=hturn;have hmem:(mem++[PO.row []]).set k (.row (rows.set i (r.set j (.pslT mem.length 0 T))))=mem.set k (.row (rows.set i (r.set j (.pslT mem.length 0 T))))++[.row []]:=List.set_append_left _ _ hkm;rw[hmem]at hm' hf';exact⟨h0,h1,h2,ok,_,h3,h4,hm',fun t=>hf' _ _ ((h6.1 t).mono (fun _ hb=>hb) (fun _ _=>rfl) ht),fun p hp=>hf' _ _ ((h6.2 p hp).mono (fun _ hb=>hb) (fun _ _=>rfl) ht)⟩
end Go.Av
end
