import Derived.Test.YtigbomcjnlikjaaGreatDoorPlatE
set_option linter.unusedVariables false
set_option linter.unusedSimpArgs false
set_option maxRecDepth 100000
set_option maxHeartbeats 9000000
section
namespace Go.Av
open Go.RowKit
variable{ok ok':Nat->Prop}{w:World}{bs:List PB}{b:PB}{rows:List (TA)}
theorem tD{bs':List PB}{mem mem':TP}(hfl:∀r∈rows,∀x∈r,∃v,x=AV.v v)(h:PRow ok w bs mem b (rows.map (·.map .pub))):
  PRow ok' w bs' mem' b (rows.map (·.map .pub)):=by
 refine⟨h.size,h.nil,h.pos,fun g hg=>?_⟩;obtain⟨cur,h1,h2,h3,h4,h5⟩:=h.blk g hg;refine⟨cur,h1,h2,h3,h4,fun i j r x hr hx=>?_⟩;obtain⟨u,h6,h7,h8⟩:=h5 i j r x hr hx;refine⟨u,h6,h7,?_⟩;obtain⟨q,hq,rfl⟩:=zLj.1 (zLo hr);obtain⟨y,hy,rfl⟩:=zLj.1 (zLo hx);obtain⟨v,rfl⟩:=hfl q hq y hy;simp only[FitsE,Fits]at h8⊢;exact h8
theorem sX{mem:TP}(h:PRow (fun _=>False) w [] [] b (rows.map (·.map .pub))):PRow ok w bs mem b (rows.map (·.map .pub)):=by
 refine⟨h.size,h.nil,h.pos,fun g hg=>?_⟩;obtain⟨cur,h1,h2,h3,h4,h5⟩:=h.blk g hg;refine⟨cur,h1,h2,h3,h4,fun i j r x hr hx=>?_⟩;obtain⟨u,h6,h7,h8⟩:=h5 i j r x hr hx;refine⟨u,h6,h7,?_⟩;obtain⟨q,hq,rfl⟩:=zLj.1 (zLo hr);obtain⟨y,hy,rfl⟩:=zLj.1 (zLo hx);simp only[FitsE]at h8⊢;exact h8.mono (fun _ hb=>hb.elim) (fun _ _=>rfl)
theorem BV{w':World}{B:Nat}(hr:PRow (fun _=>False) w' [] [] b (rows.map (·.map .pub)))(hn:∀g,b.blk=some g->B<=g)(hk:∀b,B<=b->b<w'.heap.size->ok' b):Fits ok' w' (.sl rows) (b.sl rows.length):=by
 refine fp (n:=B) (ok:=fun _=>False) (bs:=[b]) (mem:=[.row (rows.map (·.map .pub))]) (l:=0) (k:=rows.length) ⟨Y,fun _ h=>h.elim,fun l b' rs h1 h2=>?_,fun l b' es h1 h2=>?_,fun l b' o g h1 h2 ho h3=>?_,fun l l' b1 b2 o o' g h1 h2 _ h3 h4 _ _ _=>?_⟩ (fun _ h=>h.elim) hk ?_ sI Y
 ·cases l with
  |zero=>simp at h1 h2;subst h1;subst h2;exact sX hr
  |succ l=>simp at h1
 ·cases l with
  |zero=>simp at h2
  |succ l=>simp at h1
 ·cases l with
  |zero=>simp at h1;subst h1;exact⟨hn g h3,fun h=>h⟩
  |succ l=>simp at h1
 ·cases l with
  |zero=>cases l' with
   |zero=>rfl
   |succ l'=>simp at h3
  |succ l=>simp at h1
 ·simp only[FitsE];exact⟨b,sI,fun rs h=>by simp at h;subst h;simp⟩
def ClV(mem:TP):TE->TA->Prop
 |[],ys=>ys=[]
 |c::cs,ys=>∃y ys',ys=y::ys'/\((∃v,c=.pub (.v v)/\y=.v v)∨(∃(l n:Nat)(rows:List (TA)),c=.psl l n/\mem[l]?=some (.row (rows.map (·.map .pub)))/\rows.length=n/\(∀r∈rows,∀x∈r,∃v,x=AV.v v)/\y=.sl rows))/\ClV mem cs ys'
def WCall(P:Program)(G:Glob)(f:FuncId)(args:TA)(r:AV):Prop:=
 Enters P f/\∀(ok:Nat->Prop)(w:World)(vs:List Value),G.holds w->(∀b,ok b->b<w.heap.size)->FitsL ok w args vs->Calls P f vs.toArray w fun e w'=>∃u,e=.returned u/\Below w.heap.size w w'/\Fits (fun b=>w.heap.size<=b/\b<w'.heap.size) w' r u
def za1(P:Program)(fn:Func)(st:ASt)(ys:TA):Prop:=st.n.dfs=[]/\∃cs,Eu P fn st (.mix cs)/\ClV st.mem cs ys
section
variable{P:Program}{G:Glob}
variable{ok:Nat->Prop}{w:World}{bs:List PB}{f:FuncId}{args:TA}
theorem K2{B n:Nat}{mem:TP}{l:Nat}{rows:List (TA)}{u:Value}(hmo:MemOK B ok w bs mem)(h:FitsE ok w bs mem (.psl l n) u)(hm:mem[l]?=some (.row (rows.map (·.map .pub))))(hn:rows.length=n)
  (hfl:∀r∈rows,∀x∈r,∃v,x=AV.v v):Fits (fun b=>B<=b/\b<w.heap.size) w (.sl rows) u:=by
 simp only[FitsE]at h;obtain⟨b,hb,h⟩:=h;have e:=(h _ hm).2 (by simpa using hn);have hr:=tD (ok':=fun _=>False) (bs':=[]) (mem':=[]) hfl (hmo.row l b _ hb hm);have:=BV (w':=w) (B:=B) (ok':=fun b=>B<=b/\b<w.heap.size) hr (fun g hg=>(hmo.own l b _ g hb hm hg).1) (fun b h1 h2=>⟨h1,h2⟩);rw[hn]at this;rw[e];exact this
theorem pE{B:Nat}{mem:TP}(hmo:MemOK B ok w bs mem):∀{cs:TE}{ys:TA}{us:List Value},ClV mem cs ys->FitsEL ok w bs mem cs us->FitsL (fun b=>B<=b/\b<w.heap.size) w ys us
 |[],ys,us,h,hf=>by
  simp only[ClV]at h;simp only[FitsEL]at hf;subst h;subst hf;simp[FitsL]
 |c::cs,ys,us,h,hf=>by
  simp only[ClV]at h;simp only[FitsEL]at hf;obtain⟨y,ys',rfl,h1,h2⟩:=h;obtain⟨u,us',rfl,k1,k2⟩:=hf;simp only[FitsL];refine⟨u,us',Y,?_,pE hmo h2 k2⟩;rcases h1 with⟨v,rfl,rfl⟩|⟨l,n,rows,rfl,a,b,c,rfl⟩
  ·simp only[FitsE,Fits]at k1⊢;exact k1
  ·exact K2 hmo k1 a b c
theorem EM{fn:Func}{c:Code}{ys:TA}(hf:P.funcs[f]?=some fn)(hb:fn.body=some c)(hnm:(fn.name== "runtime.NumGoroutine")=false)(hlen':Nat.ble args.length fn.ntmps=true)
  (h:qp (r:=none) P G c ⟨fn.ntmps,sD args,[]⟩ (fun e st=>(e=.normal∨e=.ret)/\za1 P fn st ys)):WCall P G f args (.agg ys):=by
 have hlen:args.length<=fn.ntmps:=zLb hlen';refine⟨⟨fn,hf,hnm,by simp[hb]⟩,fun ok w vs hG hok hfit=>callsIn_wide.1 (callsIn_of_wp_marks (n:=0) hf hb trivial ?_)⟩;refine wpIn_mono (h w ok _ w hG hok (xG hlen hok hfit)) fun e a' w' ⟨st,hs,hq⟩=>?_;obtain⟨h0,h1,h2,ok',bs,h3,h4,h5,h6⟩:=hs;obtain⟨he,hdf,cs,q1,q2⟩:=hq;have h1:=h1.1;rw[hdf]at h1
 have hlv:LeavesInM Fence.wide 0 P fn a'.tmps (fun e w'=>∃u,e=.returned u/\Below w.heap.size w w'/\Fits (fun b=>w.heap.size<=b/\b<w'.heap.size) w' (.agg ys) u) a'.defers .returning w':=kz h1 fun w2 hw2=>by
  obtain⟨u,hu1,hu2⟩:=dM (P:=P) (st:=st) (h5.marked hw2) (tm:=a'.tmps) (fun t=>(h6.1 t).congr hw2.cell) q1;refine⟨u,hu1,u,Y,h2.trans hw2.below,?_⟩;simp only[FitsE]at hu2;obtain⟨us,e,e1,e2⟩:=hu2;simp only[Fits];exact⟨us,e,e1,pE (h5.marked hw2) q2 e2⟩
 rcases he with rfl|rfl<;>exact hlv
variable{fr:Nat->EV}{mem:TP}{o:Oper}
theorem JW{args:Array Operand}{tys:Array TypeId}{av:TA}{r:AV}(ho:o.op=.call {callee:=.value (.func f),args:=args,argTypes:=tys})(ha:oI mem fr args.toList av)(hc:WCall P G f av r):OpY P G fr mem o (.pub r):=by
 intro n ok bs w a hG hn hm hfit K Q hK;have h4:FitsL (fun b=>b<w.heap.size) w av (args.toList.map a.eval):=kP hm (fun y hy=>hfit y (by simp only[ho,Op.operands,Call.operands,Array.mem_append];exact .inr (by simpa using hy))) ha;unfold Oper.wp;rw[jt (us:=[]) (vs:=[]) ho hc.1 rfl];simp only[Oper.upon];refine(hc.2 _ w _ hG (fun b hb=>hb) (by simpa using h4)).mono fun en w' ⟨u,h5,h6,h7⟩=>?_;subst h5;refine hK u w' h6 ?_;simp only[FitsE];exact h7.mono (fun b hb=>.inr hb) (fun _ _=>rfl)
theorem WCall.a{r:AV}(h:WCall P G f args r):ACall P G f args r:=
 ⟨h.1,fun ok w vs hG hok hf=>(h.2 ok w vs hG hok hf).mono fun _ _⟨u,h1,h2,h3⟩=>⟨u,h1,h2,h3.mono (fun b hb=>.inr hb) (fun _ _=>rfl)⟩⟩
end
end Go.Av
end
