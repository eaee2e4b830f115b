import Derived.Test.YtigbomcjnlikjaaGreatDoorPlatC
import Derived.Laws.BytesArg
import GoSem.Core.Utf8
import Derived.Lib.ConvBytes
import Derived.Scope
set_option linter.unusedVariables false
set_option linter.unusedSimpArgs false
set_option maxRecDepth 100000
set_option maxHeartbeats 9000000
section
namespace Go.Av
open Go.RowKit
abbrev eS(l:List UInt8):AV:=.v (.string ⟨l.toArray⟩)
abbrev SL(l:List UInt8):EV:=.pub (eS l)
def nxT(s:ByteArray)(k:Nat):List AV:=if k<s.size then[.v (.bool true),.v (goInt k),.v (.int .i32 ((Utf8.decode s k).1:Int))]else[.v (.bool false)]
def nxK(s:ByteArray)(k:Nat):Nat:=if k<s.size then k+(Utf8.decode s k).2 else k
theorem S1(s:ByteArray):AV.v (.string s)=eS s.data.toList:=by simp[eS]
section
variable{P:Program}{G:Glob}{fr:Nat->EV}{mem:List PO}{o:Oper}
theorem bG(l:List UInt8):(⟨l.toArray⟩:ByteArray).toList=l:=by
 rw[ByteArray.toList_eq]
variable{T U t:TypeId}{x y:Operand}{a b:List UInt8}{d:TypeDesc}{k:IntKind}{n:Int}{s:ByteArray}{ms:Array (String × TypeId)}{f:FuncId}{args av:List AV}{tys:Array TypeId}{fn:Func}{rest:List Oper}{i:Nat}{K:(Nat->EV)->Prop}{oi:Oper}
theorem nJ(ho:o.op=.binOp .add T x y U)(hx:evO fr x=SL a)(hy:evO fr y=SL b)(hl:a.length+b.length<=9223372036854775807):OpY P G fr mem o (SL (a++b)):=
 Be ho hx hy (fun w=>by
  have h1:¬((a.length:Int)+(b.length:Int)>IntKind.i64.max):=by
   have:IntKind.i64.max=9223372036854775807:=dE;omega
  have e:(⟨a.toArray⟩:ByteArray)++⟨b.toArray⟩=⟨(a++b).toArray⟩:=by
   apply ByteArray.ext;simp
  simp[eqGuard,binOp,Op.stringOp,ByteArray.size,e];omega) rfl
theorem dD(ho:o.op=.binOp .eql T x y U)(hx:evO fr x=SL a)(hy:evO fr y=SL b):OpY P G fr mem o (B (a==b)):=
 Be ho hx hy (fun w=>by simp[eqGuard,binOp,Op.stringOp,bG]) rfl
theorem mn(ho:o.op=.binOp .neq T x y U)(hx:evO fr x=SL a)(hy:evO fr y=SL b):OpY P G fr mem o (B (a !=b)):=
 Be ho hx hy (fun w=>by simp[eqGuard,binOp,Op.stringOp,bG,bne]) rfl
theorem vt(ho:o.op=.call {callee:=.builtin .len,args:=#[x],argTypes:=#[T]})(hx:evO fr x=SL a)(hu:P.underlying T=some .string):
  OpY P G fr mem o (I (a.length:Int)):=kl ho hx hu
theorem ve{p:Int}{c:UInt8}(ho:o.op=.index T x y)(hx:evO fr x=SL a)(hy:evO fr y=I p)(ht:P.underlying T=some .string)(hp:0<=p)(hc:a[p.toNat]?=some c):
  OpY P G fr mem o (.pub (.v (.int .u8 c.toNat))):=by
 have hlt:=(zLg hc).1;have h:=rV (P:=P) (G:=G) (mem:=mem) ho hx hy ht hp (by simp[ByteArray.size];omega)
 have e:(((⟨a.toArray⟩:ByteArray)[p.toNat]?).getD 0)=c:=by
  have he:=(zLg hc).2;rw[getElem?_pos _ _ (by simp[ByteArray.size];omega)];simp only[Option.getD_some];exact he
 rw[e]at h;exact h
theorem Dv{α:Type}{l:List α}{f:α->List AV}(ho:o.op=.call {callee:=.builtin .len,args:=#[x],argTypes:=#[T]})(hx:evO fr x=.pub (.sl (l.map f)))(hu:P.underlying T=some (.slice U)):
  OpY P G fr mem o (I (l.length:Int)):=by
 have:=zM (P:=P) (G:=G) (mem:=mem) (ty:=o.type) ho rfl hx hu;rwa[zL8]at this
theorem Ag{S:TypeId}{k':IntKind}(ho:o.op=.convert S T x)(hx:evO fr x=.pub (.v (.int k n)))(hs:P.underlying S=some d)(ht:P.underlying T=some (.int k'))(hw:k'.wrap n=n):
  OpY P G fr mem o (.pub (.v (.int k' n))):=
 qb fun ok bs w a _ _ hf=>by
  have h1:=wH (hf x (by simp[ho,Op.operands])) hx;refine⟨.int k' n,?_,qA Y⟩;simp[execOp,ho,h1,convert,run_underlying hs,run_underlying ht,Conv.intToInt,hw]
theorem D8{p q:Int}(ho:o.op=.binOp .sub T x y U)(hx:evO fr x=.pub (.v (.int k p)))(hy:evO fr y=.pub (.v (.int k q)))(hw:k.wrap (p-q)=p-q):OpY P G fr mem o (.pub (.v (.int k (p-q)))):=
 jP ho hx hy (fun w=>by cases k<;>simp[binOp,Op.intArith,hw]) rfl
theorem wrap_u8(h:0<=n/\n<=255):IntKind.u8.wrap n=n:=by
 rw[IntKind.wrap_u8];omega
theorem wrap_i32(h:-2147483648<=n/\n<=2147483647):IntKind.i32.wrap n=n:=by
 rw[IntKind.wrap_i32];omega
theorem A8(h:-9223372036854775808<=n/\n<=9223372036854775807):IntKind.i64.wrap n=n:=wrap_i64 h.1 h.2
theorem Qp(s:ByteArray)(k:Nat):(nxT s k)[0]?=some (.v (.bool (decide (k<s.size)))):=by
 unfold nxT;split<;>simp[*]
theorem Q8{k:Nat}(h:k<s.size):(nxT s k)[2]?=some (.v (.int .i32 ((Utf8.decode s k).1:Int))):=by
 unfold nxT;rw[zLc h];rfl
theorem Hf(ho:o.op=.binOp .eql T x (.const .nilIface) U)(hx:evO fr x=.pub (.v .nilIface))(ht:P.underlying T=some (.interface ms)):OpY P G fr mem o (B true):=
 qb fun ok bs w a _ _ hf=>by
  have h1:=wH (hf x (by simp[ho,Op.operands])) hx;refine⟨.bool true,?_,qA Y⟩;have e2:a.eval (.const .nilIface)=.nilIface:=rfl;have hg:(eqGuard .eql T x (.const .nilIface) .nilIface .nilIface).run P w=.ok () w:=by simp[eqGuard]
  have hd:∀d:Nat,(Op.equalIn (d+1) T .nilIface .nilIface).run P w=.ok true w:=fun d=>by simp[Op.equalIn,run_underlying ht]
  have hb:(binOp .eql T .nilIface .nilIface).run P w=.ok (.bool true) w:=by
   simp only[binOp];simp[Op.equal,Op.maxDepth,hd 9999]
  simp only[execOp,ho,h1,e2,Sem.run_bind,hg,hb,Result.andThen_ok];rfl
theorem tr{c:AV}(ho:o.op=.binOp .eql T x (.const .nilIface) U)(hx:evO fr x=.pub (.ifc t c))(ht:P.underlying T=some (.interface ms)):OpY P G fr mem o (B false):=
 qb fun ok bs w a _ _ hf=>by
  have h:=hf x (by simp[ho,Op.operands]);rw[hx]at h;simp only[FitsE,Fits]at h;obtain⟨u,e,_⟩:=h;refine⟨.bool false,?_,qA Y⟩;have e2:a.eval (.const .nilIface)=.nilIface:=rfl;have hg:(eqGuard .eql T x (.const .nilIface) (.iface t u) .nilIface).run P w=.ok () w:=by simp[eqGuard]
  have hd:∀d:Nat,(Op.equalIn (d+1) T (.iface t u) .nilIface).run P w=.ok false w:=fun d=>by simp[Op.equalIn,run_underlying ht]
  have hb:(binOp .eql T (.iface t u) .nilIface).run P w=.ok (.bool false) w:=by
   simp only[binOp];simp[Op.equal,Op.maxDepth,hd 9999]
  simp only[execOp,ho,e,e2,Sem.run_bind,hg,hb,Result.andThen_ok];rfl
theorem cS{X:TypeId}{c:AV}(ho:o.op=.typeAssert x X t true)(hx:evO fr x=.pub (.ifc t c))(ht:P.underlying t=some d)(hd:(match d with| .interface _=>true|_=>false)=false):
  OpY P G fr mem o (.pub (.tup [c,.v (.bool true)])):=
 qb fun ok bs w a _ _ hf=>by
  have h:=hf x (by simp[ho,Op.operands]);rw[hx]at h;simp only[FitsE,Fits]at h;obtain⟨u,e,hu⟩:=h;refine⟨.tuple #[u,.bool true],?_,?_⟩
  ·cases d<;>simp_all[execOp,Instr.typeAssert,run_underlying ht]
  ·simp only[FitsE,Fits,FitsL];exact⟨[u,.bool true],Y,u,_,Y,hu,.bool true,[],Y,⟨Y,Y⟩,Y⟩
variable{r:Option Nat}{st:ASt}{ops:Array Oper}{l:List Oper}{Q:Exit->ASt->Prop}
def tQ{α:Type}(pv:AV)(g:α->AV):Option α->Out
 |some y=>.ret (g y)
 |none=>.pan pv
theorem XCall.some{α:Type}{pv:AV}{g:α->AV}{x:Option α}{y:α}(h:XCall P G f args (tQ pv g x))(hx:x=.some y):ACall P G f args (g y):=by
 subst hx;exact XCall.a h
theorem XCall.none{α:Type}{pv:AV}{g:α->AV}{x:Option α}(h:XCall P G f args (tQ pv g x))(hx:x=.none):XCall P G f args (.pan pv):=by
 subst hx;exact h
theorem Oh{α:Type}{args:Array Operand}{pv:AV}{g:α->AV}{x:Option α}(hg:jq o=true)(hd:qB o st.n=true)(ho:o.op=.call {callee:=.value (.func f),args:=args,argTypes:=tys})
  (ha:aE st.fr args.toList av) (hc:XCall P G f av (tQ pv g x)) (hn:x=none->∀u,Q (.panic (pnc u)) ⟨st.n.pan pv u,st.fr,st.mem⟩)
  (hs:∀y,x=some y->qq (r:=r) P G ops l ⟨st.n,qc st.fr o.dst (.pub (g y)),st.mem⟩ Q):qq (r:=r) P G ops (o::l) st Q:=by
 cases hx:x with
 |none=>exact uL hg ho ha (hc.none hx) (hn hx)
 |some y=>exact jp hg hd (zi ho ha (hc.some hx)) (hs y hx)
theorem ce{n n':NS}{mem':List PO}(hn:n=n')(l:List (Nat × EV))(h:wS fr l)(hm:mem=mem'):Weak ⟨n,fr,mem⟩ ⟨n',frL l,mem'⟩:=by subst hn;exact zd l h hm
def PO.okL(k:Nat):PO->Prop
 | .dead=>True
 | .row rows=>∀r∈rows,∀x∈r,EV.lt k x
 | .map es=>∀p∈es,EV.lt k p.2
def zW(k:Nat):List PO->Prop
 |[]=>True
 |o::l=>o.okL k/\zW k l
def fl(k:Nat):List (Nat × EV)->Prop
 |[]=>True
 |p::l=>EV.lt k p.2/\fl k l
theorem wi{k:Nat}:∀{l:List PO}{i:Nat}{o:PO},zW k l->l[i]?=some o->o.okL k
 |[],i,o,_,h=>by simp at h
 |x::xs,i,o,h,hx=>by
  cases i with
  |zero=>simp at hx;subst hx;exact h.1
  |succ i=>exact wi h.2 (by simpa using hx)
theorem bQ{k:Nat}:∀{l:List (Nat × EV)},fl k l->∀t,EV.lt k (frL l t)
 |[],_,t=>by simp[frL,EV.lt]
 |(a,e)::l,h,t=>by
  simp only[frL];cases Nat.beq t a with
  |true=>exact h.1
  |false=>exact bQ h.2 t
theorem AVle.ifc1{x:AV}:AVle (.ifc t (.agg [x])) (.ifc t (.agg [.top])):=fun ok w u h=>by
 simp only[Fits]at h⊢;obtain⟨v,e,vs,ev,h1,hf⟩:=h;refine⟨v,e,vs,ev,h1,?_⟩;simp only[FitsL]at hf⊢;obtain⟨a,b,e1,_,e2⟩:=hf;exact⟨a,b,e1,by simp only[Fits],e2⟩
def Ou(P:Program)(fn:Func)(out:Out)(e:Exit)(st:ASt):Prop:=match out with
 | .ret r=>(e=.normal∨e=.ret)/\RetE P fn st r
 | .pan v=>∃u v',e=.panic (pnc u)/\(EV.pub v',u)∈st.n.gh/\AVle v' v/\st.n.dfs=[]
theorem iy{α:Type}{pv:AV}{g:α->AV}{x:Option α}{y:α}{e:Exit}(hx:x=some y)(he:e=.normal∨e=.ret)(h:RetE P fn st (g y)):Ou P fn (tQ pv g x) e st:=by subst hx;exact⟨he,h⟩
theorem cj{α:Type}{pv v':AV}{g:α->AV}{x:Option α}{u:Value}{n:NS}(hx:x=none)(hv:AVle v' pv)(hd:n.dfs=[]:=by rfl):Ou P fn (tQ pv g x) (.panic (pnc u)) ⟨n.pan v' u,fr,mem⟩:=by
 subst hx;exact⟨u,v',rfl,zL1 ..,hv,hd⟩
theorem oO{c:Code}{out:Out}(hf:P.funcs[f]?=some fn)(hb:fn.body=some c)(hnm:(fn.name== "runtime.NumGoroutine")=false)(hlen':Nat.ble args.length fn.ntmps=true)
  (h:qp (r:=none) P G c ⟨fn.ntmps,sD args,[]⟩ (Ou P fn out)):XCall P G f args out:=by
 cases out with
 |ret r=>exact(pT hf hb hnm hlen' h).x
 |pan v=>
  have hlen:args.length<=fn.ntmps:=zLb hlen';refine⟨⟨fn,hf,hnm,by simp[hb]⟩,fun ok w vs hG hok hfit=>callsIn_wide.1 (callsIn_of_wp_marks (n:=0) hf hb trivial ?_)⟩;refine wpIn_mono (h w ok _ w hG hok (xG hlen hok hfit)) fun e a' w' ⟨st,hs,u,v',he,hu,hv,hd⟩=>?_;obtain⟨h0,h1,h2,ok',bs,h3,h4,h5,h6⟩:=hs;subst he;have h1:=h1.1;rw[hd]at h1;refine yQ h1 fun w2 hw2=>⟨h2.trans hw2.below,u,Y,?_⟩;have:=h6.2 _ hu;simp only[FitsE]at this;refine hv _ _ _ ((this.congr hw2.cell).mono (fun b hb=>?_) (fun _ _=>rfl));rcases h4 b hb with h|h
  ·exact .inl h
  ·exact .inr ⟨h,by rw[hw2.size];exact h5.lt b hb⟩
abbrev itP(b:Nat):EV:=.pub (.v (.pointer (some ⟨b,0,none⟩)))
@[reducible] def NS.held(n:NS)(h:List (Nat × Obj)):NS:=⟨n.n,n.dfs,n.gh,n.mks,h⟩
theorem fj(hg:jq o=true)(hd:qB o st.n=true)(ho:o.op=.range T x)(hx:evO st.fr x=SL a)(ht:P.underlying T=some .string)
  (h:∀b,qq (r:=r) P G ops l ⟨st.n.held ((b,.stringIter ⟨a.toArray⟩ 0)::st.n.hold),qc st.fr o.dst (itP b),st.mem⟩ Q):qq (r:=r) P G ops (o::l) st Q:=by
 intro w0 ok0 a' w hG hok ⟨h0,h1,h2,ok,bs,h3,h4,h5,h6⟩;have hv:=wH (qg (fr:=st.fr) (a:=a') (x:=x) fun t _=>h6.1 t) hx
 have hrun:(execOp a'.eval o).run P w=.ok (.value (.pointer (some ⟨w.heap.size,0,none⟩))) (w.alloc (.stringIter ⟨a.toArray⟩ 0)):=by
  simp[execOp,ho,hv,Instr.range,run_underlying ht]
 have hbel:=qu w (.stringIter ⟨a.toArray⟩ 0);refine wpListIn_plain (j5 hg) fun K hK=>jR (j9 hg)<|qx hrun (hK _ _ (h w.heap.size w0 ok0 _ _ hG hok ?_));obtain⟨k0,k1,k2,ok',bs',k3,k4,k5,k6⟩:=Sit.put (w':=w.alloc (.stringIter ⟨a.toArray⟩ 0)) (x:=itP w.heap.size) (u:=.pointer (some ⟨w.heap.size,0,none⟩)) (dst:=o.dst) h0 h1 h2 h3 h4 h5 h6 hbel (qA rfl) (zo hd);refine⟨k0,⟨k1.1,fun p hp=>?_⟩,k2,ok',bs',k3,k4,k5,k6⟩;rcases List.mem_cons.1 hp with rfl|hp
 ·exact⟨⟨⟨Y,by rw[qZ];exact fun hD=>Nat.lt_irrefl _ (h1.1.marks _ hD).2.1⟩,h2.size⟩,heap_alloc_new w _⟩
 ·exact k1.2 p hp
theorem ot{b k:Nat}{hs:List (Nat × Obj)}(hg:jq o=true)(hd:qB o st.n=true)(ho:o.op=.next y true)(hy:evO st.fr y=itP b)(hh:st.n.hold=(b,.stringIter s k)::hs)(hne:(hs.all fun p=>!(Nat.beq p.1 b))=true)
  (h:qq (r:=r) P G ops l ⟨st.n.held ((b,.stringIter s (nxK s k))::hs),qc st.fr o.dst (.pub (.tup (nxT s k))),st.mem⟩ Q):qq (r:=r) P G ops (o::l) st Q:=by
 intro w0 ok0 a' w hG hok ⟨h0,h1,h2,ok,bs,h3,h4,h5,h6⟩;have hv:=wH (qg (fr:=st.fr) (a:=a') (x:=y) fun t _=>h6.1 t) hy;have hb:=h1.2 (b,.stringIter s k) (by rw[hh];exact zL1 ..);have hbl:w0.heap.size<=b:=hb.1.2;have hbh:w.heap[b]?=some (.stringIter s k):=hb.2;have hlt:=(zLr.1 hbh).1;have hwant:∀(K:Act->World->Prop)(Q:Exit->Act->World->Prop),(∀u w',(execOp a'.eval o).run P w=.ok (.value u) w'->K (a'.put o.dst u) w')->(∃u w',(execOp a'.eval o).run P w=.ok (.value u) w')->o.wp P a' w K Q:=fun K Q hK ⟨u,w',e⟩=>qx e (hK u w' e)
 have hrun:(execOp a'.eval o).run P w=.ok (.value (if k<s.size then .tuple #[.bool true,goInt k,.int .i32 ((Utf8.decode s k).1:Int)]else .tuple #[.bool false])) (if k<s.size then w.putObj b (.stringIter s (nxK s k))else w):=by
  have g1:(getObj b).run P w=.ok (.stringIter s k) w:=by simp[getObj,Sem.run,hbh]
  have g2:∀o',(setObj b o').run P w=.ok () (w.putObj b o'):=fun o'=>by simp[setObj,Sem.run,hbh,World.putObj]
  by_cases hk:k<s.size
  ·simp[execOp,ho,hv,Instr.next,g1,g2,hk,nxK]
  ·simp[execOp,ho,hv,Instr.next,g1,hk]
 obtain⟨w',hw'⟩:∃w',(if k<s.size then w.putObj b (.stringIter s (nxK s k))else w)=w':=⟨_,rfl⟩;obtain⟨u,hu⟩:∃u,(if k<s.size then Value.tuple #[.bool true,goInt k,.int .i32 ((Utf8.decode s k).1:Int)]else .tuple #[.bool false])=u:=⟨_,rfl⟩;rw[hw',hu]at hrun
 have hheap:∀j,j≠b->w'.heap[j]?=w.heap[j]?:=fun j hj=>by
  rw[←hw'];split
  ·exact qR hj
  ·rfl
 have hnew:w'.heap[b]?=some (.stringIter s (nxK s k)):=by
  rw[←hw'];split
  ·exact yy hbh
  ·rename_i hk;simp[nxK,hk,hbh]
 have hsz:w'.heap.size=w.heap.size:=by
  rw[←hw'];split
  ·exact size_put'
  ·rfl
 have hbel:Below w0.heap.size w w':=by
  rw[←hw'];split
  ·exact⟨Y,Y,Y,Nat.le_of_eq size_put'.symm,fun j hj=>qR oM⟩
  ·exact Below.refl _ _
 have hcell:aI w w':=by
  rw[←hw'];split
  ·exact vp hbh Y Y
  ·exact⟨fun _=>rfl,fun _ _ _ h=>h⟩
 have hux:FitsE ok w' bs st.mem (.pub (.tup (nxT s k))) u:=by
  simp only[FitsE,Fits];rw[←hu];unfold nxT;split
  ·exact⟨[.bool true,goInt k,.int .i32 ((Utf8.decode s k).1:Int)],Y,⟨_,_,Y,⟨Y,Y⟩,_,_,Y,⟨Y,Y⟩,_,_,Y,⟨Y,Y⟩,Y⟩⟩
  ·exact⟨[.bool false],Y,⟨_,_,Y,⟨Y,Y⟩,Y⟩⟩
 refine wpListIn_plain (j5 hg) fun K hK=>jR (j9 hg)<|qx hrun (hK _ _ (h w0 ok0 _ _ hG hok ?_))
 have hmo:MemOK w0.heap.size ok w' bs st.mem:=by
  rw[←hw'];split
  ·exact h5.put hbh Y Y
  ·exact h5
 refine⟨(size_put ..).trans h0,⟨?_,fun p hp=>?_⟩,h2.trans hbel,ok,bs,h3,h4,hmo,?_⟩
 ·rw[qZ,hsz]
  have hD:∀{ds:List Deferred}{B:Nat}{l:List Tmp},Dfs st.n.mks w0 w a'.tmps ds B l->(∀t,t∈l->t∈st.n.dfs)->Dfs st.n.mks w0 w' (a'.put o.dst u).tmps ds B l:=by
   intro ds
   induction ds with
   |nil=>intro B l h _;simpa only[Dfs]using h
   |cons d ds ih=>
    intro B l h hl;simp only[Dfs]at h⊢;rcases h with⟨hm,D,e,e1,e2,e3,e4⟩|⟨t,l',rfl,⟨f,us,vs,e,e1⟩,e2⟩
    ·refine .inl ⟨hm,D,e,e1,e2,?_,ih e4 hl⟩;rw[hheap D (fun e=>by subst e;rw[hbh]at e3;cases e3)];exact e3
    ·refine .inr ⟨t,l',Y,⟨f,us,vs,e,?_⟩,ih e2 fun t ht=>hl t (zL3 _ ht)⟩;cases hdd:o.dst with
     |none=>exact e1
     |some d=>
      have hnd:t≠d:=fun e=>(zo hd d hdd).2 (e▸hl t (zL1 ..));simp only[Act.put,jy,hnd,false_and,if_false];exact e1
  exact hD h1.1 fun _ h=>h
 ·rcases List.mem_cons.1 hp with rfl|hp
  ·exact⟨⟨⟨Y,by rw[qZ];exact hb.1.1.2⟩,hbl⟩,hnew⟩
  ·have hpb:p.1≠b:=fun e=>by
    rw[zLu]at hne;have:=hne p hp;simp[e]at this
   have:=h1.2 p (by rw[hh];exact zL3 _ hp);exact⟨by rw[qZ];exact this.1,by rw[hheap _ hpb];exact this.2⟩
 ·exact qP (h6.map fun _ _ h=>h.congr hcell) hux (fun d e=>by rw[h0];exact(zo hd d e).1)
variable{md:Region.Mode}{pv:AV}
def OpP(pv:AV)(P:Program)(G:Glob)(fr:Nat->EV)(mem:List PO)(o:Oper)(x:EV):Prop:=
 ∀(B:Nat)(ok:Nat->Prop)(bs:List PB)(w:World)(a:Act),G.holds w->B<=w.heap.size->MemOK B ok w bs mem->
  (∀y∈o.op.operands,FitsE ok w bs mem (evO fr y) (a.eval y))->
  ∀(K:Act->World->Prop)(Q:Exit->Act->World->Prop),(∀u w',Below w.heap.size w w'->FitsE (okN ok w w') w' bs mem x u->K (a.put o.dst u) w')->
   (∀u w',Below w.heap.size w w'->Fits (okN ok w w') w' pv u->Q (.panic (pnc u)) a w')->o.wp P a w K Q
theorem OpY.p{x:EV}(h:OpY P G fr mem o x):OpP pv P G fr mem o x:=fun B ok bs w a h1 h2 h3 h4 K Q hK _=>h B ok bs w a h1 h2 h3 h4 K Q hK
theorem OpP.of_same{fr':Nat->EV}{x:EV}(h:OpP pv P G fr mem o x)(he:∀y∈o.op.operands,evO fr' y=evO fr y):OpP pv P G fr' mem o x:=by
 intro B ok bs w a hg hB hm hf K Q hK;exact h B ok bs w a hg hB hm (fun y hy=>by rw[←he y hy];exact hf y hy) K Q hK
theorem OpP.toM{x:EV}(h:OpP pv P G st.fr st.mem o x)(hd:DOK o.dst st.n)(w0:World)(ok0:Nat->Prop)(a:Act)(w:World)(hG:G.holds w0)(hok:∀b,ok0 b->b<w0.heap.size)(hs:Sit w0 ok0 st a w)
  (K:Act->World->Prop) (Q:Exit->Act->World->Prop) (hK:∀a' w',Sit w0 ok0 ⟨st.n,qc st.fr o.dst x,st.mem⟩ a' w'->K a' w') (hP:∀a' w' u,Sit w0 ok0 ⟨st.n.pan pv u,st.fr,st.mem⟩ a' w'->Q (.panic (pnc u)) a' w'):o.wp P a w K Q:=by
 obtain⟨h0,h1,h2,ok,bs,h3,h4,h5,h6⟩:=hs
 exact h w0.heap.size ok bs w a (G.stable _ _ hG h2) h2.size h5 (fun y _=>qg fun t _=>h6.1 t) K Q
  (fun u w' hw hx=>hK _ _ (Sit.put h0 h1 h2 h3 h4 h5 h6 hw hx hd)) (fun u w' hw hv=>hP _ _ _ (Sit.pan h0 h1 h2 h3 h4 h5 h6 hw hv))
theorem Qa{fr:Nat->EV}{args:Array Operand}(ho:o.op=.call {callee:=.value (.func f),args:=args,argTypes:=tys})
  (x:EV) (ha:aE fr args.toList av) (hc:XCall P G f av (.pan pv)):OpP pv P G fr mem o x:=by
 intro B ok bs w a hG hB hmo hf K Q hK hP
 have key:∀(l:List Operand)(xs:List AV),(∀y∈l,y∈o.op.operands)->l.map (evO fr)=xs.map .pub->FitsL ok w xs (l.map a.eval):=by
  intro l
  induction l with
  |nil=>intro xs _ h;cases xs with
   |nil=>simp[FitsL]
   |cons=>simp at h
  |cons y l ih=>intro xs hm h;cases xs with
   |nil=>simp at h
   |cons x xs=>
    simp only[List.map_cons,List.cons.injEq]at h;simp only[List.map_cons,FitsL];have:=hf y (hm y sI);rw[h.1]at this;exact⟨_,_,Y,by simpa only[FitsE]using this,ih xs (fun z hz=>hm z (by simp[hz])) h.2⟩
 unfold Oper.wp;rw[jt (us:=[]) (vs:=[]) ho hc.1 rF];simp only[Oper.upon];have hv:=key _ _ (fun y hy=>by simp only[ho,Op.operands,Call.operands];exact Array.mem_append.2 (.inr (by simpa using hy))) (y4 ha);have hcall:=hc.2 ok w (args.toList.map a.eval) hG hmo.lt hv;simp only[List.nil_append,List.append_nil];refine Calls.mono hcall fun en w' ⟨hb,u,he,hu⟩=>?_;subst he;exact hP u w' hb hu
def eu(pv:AV)(P:Program)(G:Glob)(ops:Array Oper)(mem:List PO)(Q:(Nat->EV)->Prop):List Oper->(Nat->EV)->Prop
 |[],fr=>Q fr
 |o::rest,fr=>(qe ops fr o=some true/\∃x,OpP pv P G fr mem o x/\eu pv P G ops mem Q rest (qc fr o.dst x))∨
   (qe ops fr o=some false/\eu pv P G ops mem Q rest (qc fr o.dst j6))
theorem PS{Q:(Nat->EV)->Prop}(h:Q fr):eu pv P G ops mem Q [] fr:=h
theorem Oi{Q:(Nat->EV)->Prop}{x:EV}(hg:o.guard=none)(ho:OpP pv P G fr mem o x)(h:eu pv P G ops mem Q rest (qc fr o.dst x)):
  eu pv P G ops mem Q (o::rest) fr:=.inl ⟨by simp[qe,hg],x,ho,h⟩
def qOpZ(pv:AV)(P:Program)(G:Glob)(ops:Array Oper)(mem:List PO)(i:Nat)(K:(Nat->EV)->Prop)(fr:Nat->EV):Prop:=
 match ops[i]?with
 |none=>K fr
 |some o=>(qe ops fr o=some true/\∃x,OpP pv P G fr mem o x/\K (qc fr o.dst x))∨(qe ops fr o=some false/\K (qc fr o.dst j6))
theorem BL{K':(Nat->EV)->Prop}(h:∀f,K f->K' f)(hh:qOpZ pv P G ops mem i K fr):qOpZ pv P G ops mem i K' fr:=by
 unfold qOpZ at*;split
 ·rename_i ho;simp only[ho]at hh;exact h _ hh
 ·rename_i o ho
  simp only[ho]at hh;rcases hh with⟨h1,x,h2,h3⟩|⟨h1,h2⟩
  ·exact .inl ⟨h1,x,h2,h _ h3⟩
  ·exact .inr ⟨h1,h _ h2⟩
def fP(pv:AV)(P:Program)(G:Glob)(md:Region.Mode)(ops:Array Oper)(mem:List PO)(Q:(Nat->EV)->Prop):Nat->Array Bool->(Nat->EV)->Prop
 |0,listed,fr=>Region.ready md ops listed=[]/\Q fr
 |fuel+1,listed,fr=>
  (Region.ready md ops listed=[]->Q fr)/\
  ∀i∈Region.ready md ops listed,qOpZ pv P G ops mem i (fP pv P G md ops mem Q fuel (listed.setIfInBounds i true)) fr
def YieldsZ(pv:AV)(P:Program)(G:Glob)(ops:Array Oper)(mem:List PO)(o:Oper)(x:EV)(fr:Nat->EV):Prop:=
 (qe ops fr o=some true/\OpP pv P G fr mem o x)∨(qe ops fr o=some false/\x=j6)
theorem YieldsZ.qOpZ{x:EV}(hi:ops[i]?=some o)(hy:YieldsZ pv P G ops mem o x fr)(h:K (qc fr o.dst x)):qOpZ pv P G ops mem i K fr:=by
 unfold Av.qOpZ;simp only[hi];rcases hy with⟨hw,hv⟩|⟨hw,rfl⟩
 ·exact .inl ⟨hw,x,hv,h⟩
 ·exact .inr ⟨hw,h⟩
theorem tM(hi:ops[i]?=some o)(h:qOpZ pv P G ops mem i K fr):∃x,YieldsZ pv P G ops mem o x fr/\K (qc fr o.dst x):=by
 unfold qOpZ at h;simp only[hi]at h;rcases h with⟨h1,x,h2,h3⟩|⟨h1,h2⟩
 ·exact⟨x,.inl ⟨h1,h2⟩,h3⟩
 ·exact⟨j6,.inr ⟨h1,Y⟩,h2⟩
theorem D2{j:Nat}{oj:Oper}{v:EV}(hj:ops[j]?=some oj)(hap:oi.apart ops oj=true){fr:Nat->EV}
  (hy:YieldsZ pv P G ops mem oi v fr) (h:qOpZ pv P G ops mem j K (qc fr oi.dst v)):
  qOpZ pv P G ops mem j (fun f=>YieldsZ pv P G ops mem oi v f/\K (qc f oi.dst v)) fr:=by
 obtain⟨h1,h2,h3⟩:=Oper.apart_spec hap
 have keep:∀u,YieldsZ pv P G ops mem oi v (qc fr oj.dst u):=fun u=>by
  rcases hy with⟨hw,hv⟩|⟨hw,e⟩
  ·exact .inl ⟨by rw[qU h3];exact hw,hv.of_same (vl h3)⟩
  ·exact .inr ⟨by rw[qU h3];exact hw,e⟩
 unfold qOpZ at*;simp only[hj]at*;rw[qU h1]at h;rcases h with⟨hw,u,hu,hn⟩|⟨hw,hn⟩
 ·refine .inl ⟨hw,u,hu.of_same (fun y hy=>(vl h1 y hy).symm),keep u,?_⟩;rw[←vQ fr v u h2];exact hn
 ·refine .inr ⟨hw,keep _,?_⟩;rw[←vQ fr v j6 h2];exact hn
theorem na{Q:(Nat->EV)->Prop}{v:EV}(hi:ops[i]?=some oi):
  ∀(fuel:Nat)(listed:Array Bool)(fr:Nat->EV),
   (∀(j:Nat)(oj:Oper),ops[j]?=some oj->j≠i->listed.getD j true=false->(∀e∈oj.after,Region.binds md e=true->e.on≠i)->oi.apart ops oj=true)->
   i∈Region.ready md ops listed->YieldsZ pv P G ops mem oi v fr->
   fP pv P G md ops mem Q fuel (listed.setIfInBounds i true) (qc fr oi.dst v)->fP pv P G md ops mem Q (fuel+1) listed fr:=by
 intro fuel
 induction fuel with
 |zero=>
  intro listed fr _ hr hy H;refine⟨fun h=>(by rw[h]at hr;cases hr),fun j hj=>?_⟩
  by_cases hji:j=i
  ·subst hji;exact hy.qOpZ hi H
  ·have:=ready_mono hj hji;rw[H.1]at this;cases this
 |succ fuel ih=>
  intro listed fr hfree hr hy H;refine⟨fun h=>(by rw[h]at hr;cases hr),fun j hj=>?_⟩
  by_cases hji:j=i
  ·subst hji;exact hy.qOpZ hi H
  ·have h1:=H.2 j (ready_mono hj hji);obtain⟨hjun,oj,hoj,hall⟩:=mem_ready.1 hj
   have hnot:∀e∈oj.after,Region.binds md e=true->e.on≠i:=fun e he hb heq=>by
    have h1:=hall e he hb;have h0:=(mem_ready.1 hr).1;rw[heq]at h1;rcases Nat.lt_or_ge i listed.size with h'|h'
    ·simp[h']at h0 h1;rw[h0]at h1;cases h1
    ·simp[Array.getElem?_eq_none h']at h1
   have h2:=D2 hoj (hfree j oj hoj hji hjun hnot) hy h1
   have hfree':∀(k:Nat)(ok:Oper),ops[k]?=some ok->k≠i->(listed.setIfInBounds j true).getD k true=false->
     (∀e∈ok.after,Region.binds md e=true->e.on≠i)->oi.apart ops ok=true:=fun k ok hk hki hun hno=>by
    refine hfree k ok hk hki ?_ hno
    by_cases hjk:j=k
    ·subst hjk;exact hjun
    ·rw[getD_set_ne true hjk]at hun;exact hun
   refine BL (fun f h3=>ih (listed.setIfInBounds j true) f hfree' (ready_mono hr (Ne.symm hji)) h3.1 ?_) h2;rw[Array.setIfInBounds_comm _ _ hji];exact h3.2
theorem iD{Q:(Nat->EV)->Prop}:∀(l:List Oper)(k:Nat)(listed:Array Bool)(fr:Nat->EV),(∀(j:Nat),l[j]?=ops[k+j]?)->
  Region.lexFrom md ops l.length k listed=true->eu pv P G ops mem Q l fr->fP pv P G md ops mem Q l.length listed fr
 |[],_,_,_,_,hB,h=>⟨by simpa[Region.lexFrom]using hB,h⟩
 |o::l,k,listed,fr,hl,hB,h=>by
  have h0:ops[k]?=some o:=by simpa using(hl 0).symm
  simp only[List.length_cons,Region.lexFrom,zLa]at hB;obtain⟨⟨hr,hf⟩,hB'⟩:=hB;have hst:qOpZ pv P G ops mem k (eu pv P G ops mem Q l) fr:=by unfold qOpZ;simp only[h0];exact h
  obtain⟨v,hy,hK⟩:=tM h0 hst
  exact na h0 l.length listed fr (Region.free_spec h0 hf) (by simpa using hr) hy
   (iD l (k+1) _ _ (fun j=>by have:=hl (j+1);simpa[Nat.add_assoc,Nat.add_comm 1 j]using this) hB' hK)
theorem tn{Q:(Nat->EV)->Prop}{x:EV}(hg:o.guard=none)(ho:OpY P G fr mem o x)(h:eu pv P G ops mem Q rest (qc fr o.dst x)):
  eu pv P G ops mem Q (o::rest) fr:=Oi hg ho.p h
end
section
variable{P:Program}{G:Glob}{st:ASt}{o:Oper}
variable{fr:Nat->EV}{mem:List PO}
end
def vg{α:Type}[DecidableEq α](a:α):List α->Option Nat
 |[]=>none
 |b::t=>if b=a then some 0 else(vg a t).map (· +1)
structure KeyT(P:Program)(kt:TypeId){α:Type}[DecidableEq α](enc:α->Value):Prop where
 check:∀(b:Bool)(a:α)(w:World),(Instr.checkKey b 10000 kt (enc a)).run P w=.ok () w
 find:∀(a:α)(l:List MapEntry)(as:List α)(w:World),l.map (·.key)=as.map enc->(Instr.findKey kt (enc a) l).run P w=.ok ((vg a as).bind fun j=>(l[j]?).map fun e=>(j,e.val)) w
 bits:∀a:α,Instr.sameBits 10000 (enc a) (enc a)=true
section
variable{α:Type}[DecidableEq α]
theorem Bj{a:α}:∀{l:List α}{j:Nat},vg a l=some j->l[j]?=some a
 |[],j,h=>by simp[vg]at h
 |b::t,j,h=>by
  simp only[vg]at h;split at h
  ·rename_i e;injection h with h;subst h;subst e;rfl
  ·rw[zL7]at h;obtain⟨i,hi,rfl⟩:=h;simpa using Bj hi
variable{kind:TypeDesc}{P:Program}{kt:TypeId}
theorem ip{enc:α->Value}(hs:∀a b,Instr.sameNow kind (enc a) (enc b)=some (decide (b=a)))(a:α):∀(l:List MapEntry)(as:List α)(i:Nat),l.map (·.key)=as.map enc->
  Instr.findNow kind (enc a) l i=some ((vg a as).bind fun j=>(l[j]?).map fun e=>(i+j,e.val))
 |[],[],i,_=>rfl
 |[],_::_,i,h=>by simp at h
 |_::_,[],i,h=>by simp at h
 |e::l,b::as,i,h=>by
  simp only[List.map_cons,List.cons.injEq]at h;simp only[Instr.findNow,h.1,hs,vg]
  by_cases hb:b=a
  ·simp[hb]
  ·rw[decide_eq_false hb,zLy hb];simp only;rw[ip hs a l as (i+1) h.2];congr 1;cases vg a as with
   |none=>rfl
   |some j=>
    simp only[Option.map_some,Option.bind_some,List.getElem?_cons_succ];cases l[j]?with
    |none=>rfl
    |some e'=>simp;omega
theorem aH{enc:α->Value}(hs:∀a b(w:World),(Op.equal kt (enc a) (enc b)).run P w=.ok (decide (b=a)) w)(a:α):∀(l:List MapEntry)(as:List α)(i:Nat)(w:World),l.map (·.key)=as.map enc->
  (Instr.findAsking kt (enc a) l i).run P w=.ok ((vg a as).bind fun j=>(l[j]?).map fun e=>(i+j,e.val)) w
 |[],[],i,w,_=>rfl
 |[],_::_,i,w,h=>by simp at h
 |_::_,[],i,w,h=>by simp at h
 |e::l,b::as,i,w,h=>by
  simp only[List.map_cons,List.cons.injEq]at h;simp only[Instr.findAsking,h.1,Sem.run_bind,hs,Result.andThen_ok,vg]
  by_cases hb:b=a
  ·simp[hb]
  ·rw[decide_eq_false hb,zLy hb];simp only[Bool.false_eq_true,if_false];rw[aH hs a l as (i+1) w h.2];congr 1;cases vg a as with
   |none=>rfl
   |some j=>
    simp only[Option.map_some,Option.bind_some,List.getElem?_cons_succ];cases l[j]?with
    |none=>rfl
    |some e'=>simp;omega
theorem pO{enc:α->Value}(hu:P.underlying kt=some kind)(hs:∀a b,Instr.sameNow kind (enc a) (enc b)=some (decide (b=a)))
  (hc:∀(b:Bool)(a:α)(w:World),(Instr.checkKey b 10000 kt (enc a)).run P w=.ok () w) (hb:∀a:α,Instr.sameBits 10000 (enc a) (enc a)=true):KeyT P kt enc:=
 ⟨hc,fun a l as w h=>by
  have:=ip hs a l as 0 h;simp only[Nat.zero_add]at this;simp[Instr.findKey,run_underlying hu,this],hb⟩
theorem rB{enc:α->Value}(hu:P.underlying kt=some kind)(hn:∀a b,Instr.sameNow kind (enc a) (enc b)=none)(hs:∀a b(w:World),(Op.equal kt (enc a) (enc b)).run P w=.ok (decide (b=a)) w)
  (hc:∀(b:Bool)(a:α)(w:World),(Instr.checkKey b 10000 kt (enc a)).run P w=.ok () w) (hb:∀a:α,Instr.sameBits 10000 (enc a) (enc a)=true):KeyT P kt enc:=
 ⟨hc,fun a l as w h=>by
  have:=aH hs a l as 0 w h;simp only[Nat.zero_add]at this;cases l with
  |nil=>
   cases as with
   |nil=>simp[Instr.findKey,run_underlying hu,Instr.findNow,vg]
   |cons=>simp at h
  |cons e l=>
   cases as with
   |nil=>simp at h
   |cons b as=>
    have h':=h;simp only[List.map_cons,List.cons.injEq]at h';have hf:Instr.findNow kind (enc a) (e::l) 0=none:=by simp only[Instr.findNow,h'.1,hn]
    simp only[Instr.findKey,Sem.run_bind,run_underlying hu,Result.andThen_ok,hf];exact this,hb⟩
theorem gy{d:TypeDesc}(hu:P.underlying kt=some d)(v:Value)(hd:(match d with| .interface _=>false| .array ..=>false| .struct _=>false|_=>true)=true)(b:Bool)(w:World):(Instr.checkKey b 10000 kt v).run P w=.ok () w:=by
 rw[show(10000:Nat)=9999+1 from rfl];unfold Instr.checkKey;simp only[Sem.run_bind,run_underlying hu,Result.andThen_ok];cases d<;>first|(simp at hd;done)|(cases v<;>rfl)
theorem bytes_beq(a b:List UInt8):((⟨a.toArray⟩:ByteArray)==⟨b.toArray⟩)=(a==b):=by
 show(a.toArray==b.toArray)=(a==b);simp
theorem oR{k:IntKind}(hu:P.underlying kt=some (.int k)):KeyT P kt (fun n:Int=>Value.int k n):=
 pO hu (fun a b=>by
   simp only[Instr.sameNow,if_true];congr 1;rw[Bool.eq_iff_iff];simp only[beq_iff_eq,zLd];exact eq_comm) (fun b a w=>gy hu _ Y b w) (fun a=>by show(k==k&&a==a)=true;simp)
theorem H9(hu:P.underlying kt=some .string):KeyT P kt (fun l:List UInt8=>Value.string ⟨l.toArray⟩):=
 pO hu (fun a b=>by
   simp only[Instr.sameNow,bytes_beq];congr 1;rw[Bool.eq_iff_iff];simp only[beq_iff_eq,zLd];exact eq_comm) (fun b a w=>gy hu _ Y b w) (fun a=>by show((⟨a.toArray⟩:ByteArray)==⟨a.toArray⟩)=true;rw[bytes_beq];simp)
def wY{β:Type}(a:α)(d:β):List (α × β)->β
 |[]=>d
 |(b,x)::t=>if b=a then x else wY a d t
def aZ{β:Type}(a:α):List (α × β)->Bool
 |[]=>false
 |(b,_)::t=>if b=a then true else aZ a t
def xu{β:Type}(a:α)(x:β):List (α × β)->List (α × β)
 |[]=>[(a,x)]
 |(b,y)::t=>if b=a then(a,x)::t else(b,y)::xu a x t
def wM(enc:α->Value)(es:List (α × EV)):PO:=.map (es.map fun p=>(enc p.1,p.2))
theorem bW{β:Type}(a:α)(d:β):∀(es:List (α × β)),(vg a (es.map (·.1))=none->wY a d es=d/\aZ a es=false)/\∀j,vg a (es.map (·.1))=some j->∃x,es[j]?=some (a,x)/\wY a d es=x/\aZ a es=true
 |[]=>by simp[vg,wY,aZ]
 |(b,y)::t=>by
  obtain⟨h1,h2⟩:=bW a d t;simp only[List.map_cons,vg,wY,aZ]
  by_cases hb:b=a
  ·subst hb;simp
  ·simp only[zLy hb,Option.map_eq_none_iff,zL7];refine⟨h1,fun j ⟨i,hi,e⟩=>?_⟩;subst e;simpa using h2 i hi
theorem uz{β:Type}(a:α)(x:β):∀(es:List (α × β)),(vg a (es.map (·.1))=none->xu a x es=es++[(a,x)])/\∀j,vg a (es.map (·.1))=some j->xu a x es=es.set j (a,x)
 |[]=>by simp[vg,xu]
 |(b,y)::t=>by
  obtain⟨h1,h2⟩:=uz a x t;simp only[List.map_cons,vg,xu]
  by_cases hb:b=a
  ·subst hb;simp
  ·simp only[zLy hb,Option.map_eq_none_iff,zL7];refine⟨fun h=>by rw[h1 h];rfl,fun j ⟨i,hi,e⟩=>?_⟩;subst e;rw[h2 i hi];rfl
end
def mS(x:AV)(v:Value):Prop:=∀(ok:Nat->Prop)(w:World)(u:Value),Fits ok w x u->u=v
theorem jr{x:Value}:mS (.v x) x:=fun ok w u h=>by simp only[Fits]at h;exact h.1
variable{ok:Nat->Prop}{w w' w0:World}{cs:List Frame}{tm:Array Value}{k:Nat}{n:NS}{fr:Nat->EV}{rows:List (List EV)}{r:List EV}{a:Act}{P:Program}{b:Frame}{c:Code}
theorem lu:∀{l:List Value}{us:List Value},FitsL ok w (l.map .v) us->us=l
 |[],us,h=>by simpa only[List.map_nil,FitsL]using h
 |x::xs,us,h=>by
  simp only[List.map_cons,FitsL,Fits]at h;obtain⟨u,us',rfl,⟨rfl,_⟩,h2⟩:=h;rw[lu h2]
theorem cu{cs:List AV}{l:List Value}(h:cs=l.map .v):mS (.agg cs) (.agg l.toArray):=fun ok w u hf=>by
 subst h;simp only[Fits]at hf;obtain⟨vs,rfl,_,h2⟩:=hf;rw[lu h2]
section
variable{P:Program}{G:Glob}{fr:Nat->EV}{mem:List PO}{o:Oper}{st:ASt}{α:Type}{enc:α->Value}
variable{ok:Nat->Prop}{w:World}{bs:List PB}{l:Nat}{u z:Value}{T et kt:TypeId}{i x:Operand}{kx:AV}
theorem nI{B:Nat}{es:List (α × EV)}(hmo:MemOK B ok w bs mem)(h:FitsE ok w bs mem (.mpv l) u)(hm:mem[l]?=some (wM enc es)):
  ∃b g arr,bs[l]?=some b/\b.blk=some g/\u=.map (some g)/\w.heap[g]?=some (.map arr es.length)/\arr.toList.map (·.key)=(es.map (·.1)).map enc/\arr.size=es.length/\
   ∀(i:Nat)(k:α)(x:EV),es[i]?=some (k,x)->∃v,arr[i]?=some ⟨enc k,v,i⟩/\FitsE ok w bs mem x v:=by
 simp only[FitsE]at h;obtain⟨b,hb,h⟩:=h;obtain⟨g,hg,hu⟩:=h _ hm;obtain⟨g',arr,h1,h2,h3,h4⟩:=hmo.mp l b _ hb hm;rw[hg]at h1;injection h1 with h1;subst h1
 have h5:∀(i:Nat)(k:α)(x:EV),es[i]?=some (k,x)->∃v,arr[i]?=some ⟨enc k,v,i⟩/\FitsE ok w bs mem x v:=fun i k x hx=>h4 i (enc k) x (by rw[zLq,hx];rfl);refine⟨b,g,arr,hb,hg,hu,by simpa using h2,?_,by simpa using h3,h5⟩;have hlen:arr.size=es.length:=by simpa using h3
 apply List.ext_getElem?;intro i;rw[List.map_map,zLq,zLq]
 by_cases hi:i<es.length
 ·obtain⟨v,h6,_⟩:=h5 i es[i].1 es[i].2 (zLe hi);rw[Array.getElem?_toList,h6,zLe hi];rfl
 ·rw[List.getElem?_eq_none (by simpa using oM),List.getElem?_eq_none oM];rfl
variable[DecidableEq α]
theorem gU(hK:KeyT P kt enc){arr:Array MapEntry}{es:List (α × EV)}(hk:arr.toList.map (·.key)=(es.map (·.1)).map enc)(a:α)(w:World):
  (Instr.findKey kt (enc a) arr.toList).run P w=.ok ((vg a (es.map (·.1))).bind fun j=>(arr.toList[j]?).map fun e=>(j,e.val)) w:=hK.find a _ _ w hk
theorem BO{es:List (α × EV)}{a:α}(ho:o.op=.lookup T x i false)(hx:evO fr x=.mpv l)(hm:mem[l]?=some (wM enc es))(hi:evO fr i=.pub kx)(hk:mS kx (enc a))
  (hT:P.underlying T=some (.map kt et)) (hK:KeyT P kt enc) (hz:(P.info? et).bind (·.zero)=some z):OpY P G fr mem o (wY a (.pub (ofV z)) es):=
 qb fun ok bs w act _ hmo hf=>by
  obtain⟨B,hmo⟩:=hmo;have h1:=hf x (by simp[ho,Op.operands]);rw[hx]at h1;obtain⟨b,g,arr,_,_,hu,hg,hkeys,hlen,hent⟩:=nI hmo h1 hm;have h2:=hf i (by simp[ho,Op.operands]);rw[hi]at h2;simp only[FitsE]at h2;have hkv:=hk _ _ _ h2;have hobj:(getObj g).run P w=.ok (.map arr es.length) w:=by simp[getObj,Sem.run,hg]
  have hfind:=gU hK hkeys a w;obtain⟨g1,g2⟩:=bW a (EV.pub (ofV z)) es;cases hix:vg a (es.map (·.1))with
  |none=>
   rw[hix]at hfind
   have hzv:(zeroValue et).run P w=.ok z w:=by
    rw[Option.bind_eq_some_iff]at hz;obtain⟨inf,hi1,hi2⟩:=hz;simp[zeroValue,typeInfo,hi1,hi2]
   refine⟨z,?_,by rw[(g1 hix).1];simp only[FitsE];exact vX z⟩;simp only[execOp,ho,Instr.lookup,Sem.run_bind,run_underlying hT,Result.andThen_ok,hu,hobj,hkv,hK.check,hfind,Option.bind_none,hzv,Sem.run_pure];simp
  |some j=>
   rw[hix]at hfind;obtain⟨y,hy,hget,_⟩:=g2 j hix;obtain⟨v,hv,hfv⟩:=hent j a y hy;have hvl:arr.toList[j]?=some ⟨enc a,v,j⟩:=by rw[Array.getElem?_toList];exact hv
   refine⟨v,?_,by rw[hget];exact hfv⟩;simp only[execOp,ho,Instr.lookup,Sem.run_bind,run_underlying hT,Result.andThen_ok,hu,hobj,hkv,hK.check,hfind,Option.bind_some,hvl,Option.map_some,Sem.run_pure];simp
theorem dP{es:List (α × AV)}{a:α}(ho:o.op=.lookup T x i true)(hx:evO fr x=.mpv l)(hm:mem[l]?=some (wM enc (es.map fun p=>(p.1,.pub p.2))))(hi:evO fr i=.pub kx)(hk:mS kx (enc a))
  (hT:P.underlying T=some (.map kt et)) (hK:KeyT P kt enc) (hz:(P.info? et).bind (·.zero)=some z):OpY P G fr mem o (.pub (.tup [wY a (ofV z) es,.v (.bool (aZ a es))])):=
 qb fun ok bs w act _ hmo hf=>by
  obtain⟨B,hmo⟩:=hmo;have h1:=hf x (by simp[ho,Op.operands]);rw[hx]at h1;obtain⟨b,g,arr,_,_,hu,hg,hkeys,hlen,hent⟩:=nI hmo h1 hm;have h2:=hf i (by simp[ho,Op.operands]);rw[hi]at h2;simp only[FitsE]at h2;have hkv:=hk _ _ _ h2;have hobj:(getObj g).run P w=.ok (.map arr (es.map fun p=>(p.1,EV.pub p.2)).length) w:=by simp[getObj,Sem.run,hg]
  have hfind:=gU hK hkeys a w;have hmm:(es.map fun p=>(p.1,EV.pub p.2)).map (·.1)=es.map (·.1):=by simp[Function.comp_def]
  rw[hmm]at hfind;obtain⟨g1,g2⟩:=bW a (ofV z) es;cases hix:vg a (es.map (·.1))with
  |none=>
   rw[hix]at hfind
   have hzv:(zeroValue et).run P w=.ok z w:=by
    rw[Option.bind_eq_some_iff]at hz;obtain⟨inf,hi1,hi2⟩:=hz;simp[zeroValue,typeInfo,hi1,hi2]
   refine⟨.tuple #[z,.bool false],?_,?_⟩
   ·simp only[execOp,ho,Instr.lookup,Sem.run_bind,run_underlying hT,Result.andThen_ok,hu,hobj,hkv,hK.check,hfind,Option.bind_none,hzv,Sem.run_pure];simp
   ·rw[(g1 hix).1,(g1 hix).2];simp only[FitsE,Fits];exact⟨[z,.bool false],Y,by simp only[FitsL,Fits];exact⟨_,_,Y,vX z,_,_,Y,⟨Y,Y⟩,Y⟩⟩
  |some j=>
   rw[hix]at hfind;obtain⟨y,hy,hget,hhas⟩:=g2 j hix;obtain⟨v,hv,hfv⟩:=hent j a (.pub y) (by rw[zLq,hy];rfl);have hvl:arr.toList[j]?=some ⟨enc a,v,j⟩:=by rw[Array.getElem?_toList];exact hv
   refine⟨.tuple #[v,.bool true],?_,?_⟩
   ·simp only[execOp,ho,Instr.lookup,Sem.run_bind,run_underlying hT,Result.andThen_ok,hu,hobj,hkv,hK.check,hfind,Option.bind_some,hvl,Option.map_some,Sem.run_pure];simp
   ·rw[hget,hhas];simp only[FitsE]at hfv;simp only[FitsE,Fits];exact⟨[v,.bool true],Y,by simp only[FitsL,Fits];exact⟨_,_,Y,hfv,_,_,Y,⟨Y,Y⟩,Y⟩⟩
theorem Sit.pushO{w0:World}{ok0:Nat->Prop}{k:NS}{fr:Nat->EV}{mem:List PO}{a:Act}{w':World}{e:EV}{dst:Option Tmp}{b:PB}{o:PO}
  (h0:a.tmps.size=k.n) (h1:Nod w0 w a k) (h2:Below w0.heap.size w0 w)
  (h3:∀b,ok0 b->ok b) (h4:∀b,ok b->ok0 b∨w0.heap.size<=b) (h5:MemOK w0.heap.size ok w bs mem) (h6:Slots ok w bs mem k fr a)
  (hw:Below w.heap.size w w') (hrow:∀rows,o=.row rows->PRow ok w' (bs++[b]) (mem++[o]) b rows) (hmap:∀es,o=.map es->JV ok w' (bs++[b]) (mem++[o]) b es) (hnew:∀g,b.blk=some g->w.heap.size<=g)
  (he:FitsE ok w' (bs++[b]) (mem++[o]) e u) (hd:DOK dst k):Sit w0 ok0 ⟨k,qc fr dst e,mem++[o]⟩ (a.put dst u) w':=by
 refine⟨(size_put ..).trans h0,h1.put (.of_below hw) hd,q9 h2 h2.size hw,ok,bs++[b],h3,h4,h5.pushO hw h2.size hrow hmap hnew,?_⟩;exact qP (h6.map fun _ _ h=>h.mono (fun _ hb=>hb) (fun b hb=>hw.block b (h5.lt b hb)) (Turn.push h5.len b _)) he (fun d e=>by rw[h0];exact(hd d e).1)
theorem vR(ho:o.op=.makeMap T none)(hd:qB o st.n=true):OpM P G st o ⟨st.n,qc st.fr o.dst (.mpv st.mem.length),st.mem++[.map []]⟩:=by
 intro w0 ok0 a w hG hok hsit K Q hK;obtain⟨h0,h1,h2,ok,bs,h3,h4,h5,h6⟩:=hsit;have hrun:(execOp a.eval o).run P w=.ok (.value (.map (some w.heap.size))) (w.alloc (.map #[] 0)):=by simp[execOp,ho,Instr.makeMap,newObj,Sem.run]
 refine qx hrun (hK _ _ (Sit.pushO (b:=⟨some w.heap.size,0,0,0⟩) h0 h1 h2 h3 h4 h5 h6 (qu ..) (fun rows e=>by cases e) (fun es e=>?_) (fun g hg=>by simp at hg;omega) ?_ (zo hd)))
 ·injection e with e
  subst e;exact⟨w.heap.size,#[],Y,heap_alloc_new w _,Y,sI⟩
 ·simp only[FitsE];refine⟨⟨some w.heap.size,0,0,0⟩,by rw[←h5.len];simp,fun es hes=>⟨w.heap.size,Y,Y⟩⟩
theorem qt{y:Operand}{es:List (α × EV)}{a:α}{v:EV}(ho:o.op=.mapUpdate T x i y∨o.op=.insert T x i y)(hd:o.dst=none)(hx:evO st.fr x=.mpv l)(hm:st.mem[l]?=some (wM enc es))(hi:evO st.fr i=.pub kx)(hk:mS kx (enc a))
  (hT:P.underlying T=some (.map kt et)) (hK:KeyT P kt enc) (hv:evO st.fr y=v):OpM P G st o ⟨st.n,st.fr,st.mem.set l (wM enc (xu a v es))⟩:=by
 intro w0 ok0 act w hG hok hsit K Q hKK;obtain⟨h0,h1,h2,ok,bs,h3,h4,h5,h6⟩:=hsit;have ex:=qg (fr:=st.fr) (a:=act) (x:=x) fun t _=>h6.1 t;rw[hx]at ex;obtain⟨b,g,arr,hb,hbg,hu,hg,hkeys,hlen,hent⟩:=nI h5 ex hm;have ei:=qg (fr:=st.fr) (a:=act) (x:=i) fun t _=>h6.1 t;rw[hi]at ei;simp only[FitsE]at ei;have hkv:=hk _ _ _ ei;have ey:=qg (fr:=st.fr) (a:=act) (x:=y) fun t _=>h6.1 t;rw[hv]at ey;have hobj:(getObj g).run P w=.ok (.map arr es.length) w:=by simp[getObj,Sem.run,hg]
 have hfind:=gU hK hkeys a w;have hlt:=(zLr.1 hg).1;have hset:∀(arr':Array MapEntry)(c:Nat),(setObj g (.map arr' c)).run P w=.ok () {w with heap:=w.heap.setIfInBounds g (.map arr' c)}:=fun arr' c=>by simp[setObj,Sem.run,hg]
 obtain⟨s1,s2⟩:=uz a v es
 have exec:∀(s:Sem Unit),Instr.mapUpdate T (act.eval x) (act.eval i) (act.eval y)=s->execOp act.eval o=(do s;pure .skip):=fun s hs=>by
  rcases ho with ho|ho<;>simp[execOp,ho,hs]
 -- behind the update
 have fin:∀(arr':Array MapEntry)(es':List (α × EV)),arr'.size=es'.length->
   (∀(j:Nat)(k:α)(z:EV),es'[j]?=some (k,z)->(∃u,arr'[j]?=some ⟨enc k,u,j⟩/\∃e,(e=z)/\FitsE ok w bs st.mem e u))->
   (execOp act.eval o).run P w=.ok .skip {w with heap:=w.heap.setIfInBounds g (.map arr' es'.length)}->xu a v es=es'->o.wp P act w K Q:=fun arr' es' hl' he' hrun hes=>by
  have hother:∀k,k≠g->(w.heap.setIfInBounds g (.map arr' es'.length))[k]?=w.heap[k]?:=fun k hk=>zL9 (Ne.symm hk)
  have hturn:=h5.turnO (w':={w with heap:=w.heap.setIfInBounds g (.map arr' es'.length)}) (b':=b) (o':=wM enc es') hb hm rfl sI (fun k _ hk=>hother k (fun e=>hk (by rw[e,hbg])))
   ⟨fun r e=>(by cases e),fun es e=>⟨⟨_,rfl⟩,rfl⟩⟩ (fun g' hg'=>.inl hg') h2.size (fun hfit=>⟨fun r e=>(by cases e),fun es2 e=>by
    injection e with e
    subst e;refine⟨g,arr',hbg,by simp[hlt],by simpa using hl',fun j k z hz=>?_⟩;rw[zLq,zL7]at hz;obtain⟨⟨k',z'⟩,hz,e⟩:=hz;injection e with e1 e2
    subst e1;subst e2;obtain⟨u,hu1,e,rfl,hu2⟩:=he' j k' z' hz;exact⟨u,hu1,hfit _ _ hu2⟩⟩)
  obtain⟨hm',hf'⟩:=hturn
  have hbs:bs.set l b=bs:=by
   apply List.ext_getElem?;intro t
   by_cases ht:l=t
   ·subst ht;rw[hb];simp[(zLg hb).1]
   ·rw[zLn ht]
  rw[hbs]at hm' hf';unfold Oper.wp;rw[hrun];simp only[Oper.upon];have hpn:act.put o.dst undef=act:=by rw[hd];rfl
  rw[hpn];refine hKK _ _ ?_;rw[hes];have hnot:∀p,w.heap[g]?=some p->still p=true->False:=fun p hp hs=>by rw[hg]at hp;injection hp with hp;subst hp;cases hs
  refine⟨h0,h1.keep ⟨sI,fun D p hD hp=>?_⟩,h2.trans ⟨Y,Y,Y,sI,fun k hk=>hother k (fun e=>?_)⟩,ok,bs,h3,h4,hm',h6.map hf'⟩
  ·rw[hother D (fun e=>hnot p (by rw[←e];exact hD) hp)];exact hD
  ·have:=(h5.own' l b _ g hb hm rfl hbg).1;omega
 cases hix:vg a (es.map (·.1))with
 |none=>
  rw[hix]at hfind;refine fin (arr.push {key:=enc a,val:=act.eval y,born:=es.length}) (es++[(a,v)]) (by simp[hlen]) (fun j k z hz=>?_) ?_ (s1 hix)
  ·rw[List.getElem?_append]at hz;split at hz
   ·rename_i hj
    obtain⟨u,hu1,hu2⟩:=hent j k z hz;refine⟨u,?_,z,Y,hu2⟩;rw[Array.getElem?_push,zLy oM];exact hu1
   ·rename_i hj
    have hj0:j-es.length=0:=by have:=(zLg hz).1;simp at this;omega
    rw[hj0]at hz;simp at hz;obtain⟨rfl,rfl⟩:=hz;have hje:j=es.length:=oM;subst hje;refine⟨act.eval y,?_,v,Y,ey⟩;rw[Array.getElem?_push,zLc hlen.symm]
  ·rw[exec _ rfl];simp only[Instr.mapUpdate,Sem.run_bind,run_underlying hT,Result.andThen_ok,hu,hobj,hkv,hK.check,hfind,Option.bind_none,hset,Sem.run_pure];simp
 |some j=>
  rw[hix]at hfind;have hja:=Bj hix;rw[zLq,zL7]at hja;obtain⟨⟨a',y0⟩,hy0,rfl⟩:=hja;obtain⟨u0,hu0,_⟩:=hent j a' y0 hy0;have hvl:arr.toList[j]?=some ⟨enc a',u0,j⟩:=by rw[Array.getElem?_toList];exact hu0
  have hjl:j<es.length:=(zLg hy0).1;refine fin (arr.modify j fun q=>{q with key:=enc a',val:=act.eval y}) (es.set j (a',v)) (by simp[hlen]) (fun j' k z hz=>?_) ?_ (s2 j hix)
  ·by_cases hjj:j=j'
   ·subst hjj;rw[zLi hjl]at hz;injection hz with hz
    injection hz with e1 e2
    subst e1;subst e2;refine⟨act.eval y,?_,v,Y,ey⟩;rw[Array.getElem?_modify,zLc rfl,hu0];rfl
   ·rw[zLn hjj]at hz;obtain⟨u,hu1,hu2⟩:=hent j' k z hz;refine⟨u,?_,z,Y,hu2⟩;rw[Array.getElem?_modify,zLy hjj];exact hu1
  ·have hstay:(Instr.keyThatStays (((arr[j]?).map (·.key)).getD (enc a')) (enc a')).run P w=.ok (enc a') w:=by
    rw[hu0];simp[Instr.keyThatStays,hK.bits]
   rw[exec _ rfl];simp only[Instr.mapUpdate,Sem.run_bind,run_underlying hT,Result.andThen_ok,hu,hobj,hkv,hK.check,hfind,Option.bind_some,hvl,Option.map_some,hstay,hset,Sem.run_pure];simp
end
section
variable{P:Program}{G:Glob}{α:Type}{enc:α->Value}
variable{o:Oper}
variable[DecidableEq α]
variable{o:Oper}
end
section
variable{P:Program}{G:Glob}{α:Type}{enc:α->Value}{o:Oper}
theorem um{fr:Nat->EV}{mem:List PO}{x:Operand}{l:List EV}{i:Nat}{c:EV}(ho:o.op=.extract x i)(hx:evO fr x=.tpl l)(hc:l[i]?=some c):OpY P G fr mem o c:=
 qb fun ok bs w a _ _ hfit=>by
  have h:=hfit x (by simp[ho,Op.operands]);rw[hx]at h;simp only[FitsE]at h;obtain⟨vs,e,h2⟩:=h;obtain⟨u,h3,h4⟩:=h2.get hc;have h5:i<vs.length:=(zLg h3).1;have h6:vs[i]=u:=(zLg h3).2;exact⟨u,by simp[execOp,ho,e,Instr.extract,h5,h6],h4⟩
variable[DecidableEq α]
end
inductive MOut where
 |ret (r:EV) (mem:List PO)
 |pan (v:AV) (mem:List PO)
def MOut.mem:MOut->List PO
 | .ret _ m=>m
 | .pan _ m=>m
structure Own(w0:World)(ok0:Nat->Prop)(mem:List PO)(gh:List (EV × Value))(hold:List (Nat × Obj))(ok:Nat->Prop)(bs:List PB)(w:World):Prop where
 below:Below w0.heap.size w0 w
 up:∀b,ok0 b->ok b
 dn:∀b,ok b->ok0 b∨w0.heap.size<=b
 mok:MemOK w0.heap.size ok w bs mem
 gh:∀p∈gh,FitsE ok w bs mem p.1 p.2
 hold:∀p∈hold,(still p.2=true/\w0.heap.size<=p.1)/\w.heap[p.1]?=some p.2
def zv(P:Program)(G:Glob)(f:FuncId)(args:List EV)(mem:List PO)(out:MOut):Prop:=
 Enters P f/\∀(w0:World)(ok0 ok:Nat->Prop)(bs:List PB)(w:World)(vs:List Value)(gh:List (EV × Value))(hold:List (Nat × Obj)),G.holds w0->(∀b,ok0 b->b<w0.heap.size)->Own w0 ok0 mem gh hold ok bs w->FitsEL ok w bs mem args vs->
  Calls P f vs.toArray w (fun e w'=>∃ok' bs',Own w0 ok0 out.mem gh hold ok' bs' w'/\∃u,match out with
   | .ret r m=>e=.returned u/\FitsE ok' w' bs' m r u
   | .pan v _=>e=.panicked (pnc u)/\Fits ok' w' v u)
section
variable{P:Program}{G:Glob}
def GU(P:Program)(st:ASt):ResultVar->EV->Prop
 | .tmp t,e=>st.fr t=e
 | .cell p T,e=>Fq P st.mem T (st.fr p) e
def lP(P:Program)(st:ASt):List ResultVar->List EV->Prop
 |[],es=>es=[]
 |v::vs,es=>∃e es',es=e::es'/\GU P st v e/\lP P st vs es'
def Eu(P:Program)(fn:Func)(st:ASt)(r:EV):Prop:=match fn.results.toList with
 |[v]=>GU P st v r
 |vs=>∃xs:List AV,r=.pub (.tup xs)/\lP P st vs (xs.map .pub)
variable{w w0:World}{ok:Nat->Prop}{bs:List PB}{n:Nat}{st:ASt}{tm:Array Value}{fn:Func}{mk:Bool}{F:Fence}{R:Ending->World->Prop}
theorem pP(hmo:MemOK n ok w bs st.mem)(hf:∀t,FitsE ok w bs st.mem (st.fr t) (tm.getD t undef)){v:ResultVar}{e:EV}(h:GU P st v e):
  ∃u,(kA tm v).run P w=.ok u w/\FitsE ok w bs st.mem e u:=by
 cases v with
 |tmp t=>
  simp only[GU]at h;exact⟨_,Y,h▸hf t⟩
 |cell p T=>
  simp only[GU]at h;obtain⟨ad,v,h1,h2,h3⟩:=AY hmo (hf p) h;exact⟨v,by simp only[kA,h1,asAddr,Sem.run_bind,Sem.run_pure,Result.andThen_ok,h2],h3⟩
theorem dF(hmo:MemOK n ok w bs st.mem)(hf:∀t,FitsE ok w bs st.mem (st.fr t) (tm.getD t undef)):∀{vs:List ResultVar}{es:List EV},lP P st vs es->
  ∃us:List Value,(vs.mapM (kA tm)).run P w=.ok us w/\FitsEL ok w bs st.mem es us/\us.length=vs.length
 |[],es,h=>by
  simp only[lP]at h;subst h;exact⟨[],sI,by simp[FitsEL],Y⟩
 |v::vs,es,h=>by
  simp only[lP]at h;obtain⟨e,es',rfl,h1,h2⟩:=h;obtain⟨u,h3,h4⟩:=pP hmo hf h1;obtain⟨us,h5,h6,h7⟩:=dF hmo hf h2;refine⟨u::us,?_,by simp only[FitsEL];exact⟨u,us,Y,h4,h6⟩,by simp[h7]⟩;rw[List.mapM_cons];simp only[Sem.run_bind,Sem.run_pure,h3,Result.andThen_ok,h5]
theorem dM(hmo:MemOK n ok w bs st.mem)(hf:∀t,FitsE ok w bs st.mem (st.fr t) (tm.getD t undef)){r:EV}(h:Eu P fn st r):
  ∃u,(results fn tm).run P w=.ok u w/\FitsE ok w bs st.mem r u:=by
 have e:∀vs:List Value,(fn.results.toList.mapM (kA tm)).run P w=.ok vs w->
   (results fn tm).run P w=.ok (if h:vs.toArray.size=1 then vs.toArray[0]else .tuple vs.toArray) w:=by
  intro vs hv;rw[bm,Array.mapM_eq_mapM_toList];simp only[Sem.run_bind,Sem.run_map];rw[hv];simp
 unfold Eu at h;split at h
 ·rename_i v hv
  obtain⟨u,h1,h2⟩:=pP hmo hf h;refine⟨u,?_,h2⟩
  have:=e [u] (by
   rw[hv,List.mapM_cons];simp only[Sem.run_bind];rw[h1];simp)
  simpa using this
 ·rename_i vs hne
  obtain⟨xs,rfl,hl⟩:=h;obtain⟨us,h1,h2,h4⟩:=dF hmo hf hl;refine⟨.tuple us.toArray,?_,by simp only[FitsE,Fits];exact⟨us,Y,FitsEL.pub.1 h2⟩⟩;have h3:=e us h1
  have hlen:us.length≠1:=by
   intro h5;rw[h4]at h5
   match hq:fn.results.toList,h5 with
   |[v],_=>exact hne v hq
  simpa[hlen]using h3
theorem yP:∀{ds:List Deferred}{B:Nat}{w:World},Dfs mk w0 w tm ds B []->
  (∀w2,MK w0 w w2->(∀k,k∉marksOf ds->w2.heap[k]?=w.heap[k]?)->∃v,(results fn tm).run P w2=.ok v w2/\R (.returned v) w2)->LeavesInM F n P fn tm R ds .returning w
 |[],B,w,_,h=>h w (MK.refl w0 w) (fun _ _=>rfl)
 |d::ds,B,w,hd,h=>by
  simp only[Dfs]at hd;rcases hd with⟨_,D,rfl,h1,h2,h3,h4⟩|⟨t,l',e,_⟩
  ·refine⟨sI,.inl ⟨D,_,Y,run_takeDeferred h3,yP (B:=D) (h4.low (zLl _)) fun w2 hw2 hk=>h w2 (hw2.step h1 h3) fun k hkn=>?_⟩⟩;simp only[marksOf,List.mem_cons,not_or]at hkn;rw[hk k hkn.2];simp[World.putObj,zL9 (Ne.symm hkn.1)]
  ·cases e
theorem ym{ch:List PanicEntry}:∀{ds:List Deferred}{B:Nat}{w:World},Dfs mk w0 w tm ds B []->
  (∀w2,MK w0 w w2->(∀k,k∉marksOf ds->w2.heap[k]?=w.heap[k]?)->R (.panicked ch) w2)->LeavesInM F n P fn tm R ds (.panicking ch) w
 |[],B,w,_,h=>h w (MK.refl w0 w) (fun _ _=>rfl)
 |d::ds,B,w,hd,h=>by
  simp only[Dfs]at hd;rcases hd with⟨_,D,rfl,h1,h2,h3,h4⟩|⟨t,l',e,_⟩
  ·refine⟨sI,.inl ⟨D,_,Y,run_takeDeferred h3,ym (B:=D) (h4.low (zLl _)) fun w2 hw2 hk=>h w2 (hw2.step h1 h3) fun k hkn=>?_⟩⟩;simp only[marksOf,List.mem_cons,not_or]at hkn;rw[hk k hkn.2];simp[World.putObj,zL9 (Ne.symm hkn.1)]
  ·cases e
def CL(P:Program)(fn:Func)(gh:List (EV × Value))(hold:List (Nat × Obj))(k0:Nat)(out:MOut)(e:Exit)(st:ASt):Prop:=
 (∃more,st.mem=out.mem++more)/\zW out.mem.length out.mem/\k0<=out.mem.length/\st.n.dfs=[]/\(∀p∈gh,p∈st.n.gh)/\(∀p∈hold,p∈st.n.hold)/\match out with
  | .ret r m=>(e=.normal∨e=.ret)/\r.lt m.length/\Eu P fn st r
  | .pan v _=>∃u v',e=.panic (pnc u)/\(EV.pub v',u)∈st.n.gh/\AVle v' v
mutual
theorem EV.lt_mono{k k':Nat}(h:k<=k'):∀{e:EV},e.lt k->e.lt k'
 | .pub _,_=>by simp only[EV.lt]
 | .psl l _,hl=>by simp only[EV.lt]at hl⊢;omega
 | .pp l _ _ _,hl=>by simp only[EV.lt]at hl⊢;omega
 | .ppT l _ _,hl=>by simp only[EV.lt]at hl⊢;omega
 | .pslT l _ _,hl=>by simp only[EV.lt]at hl⊢;omega
 | .mpv l,hl=>by simp only[EV.lt]at hl⊢;omega
 | .tpl cs,hl=>by simp only[EV.lt]at hl⊢;exact EV.ltL_mono h hl
 | .mix cs,hl=>by simp only[EV.lt]at hl⊢;exact EV.ltL_mono h hl
 | .fnm _ fs cs,hl=>by simp only[EV.lt]at hl⊢;exact⟨EV.ltL_mono h hl.1,EV.ltL_mono h hl.2⟩
theorem EV.ltL_mono{k k':Nat}(h:k<=k'):∀{l:List EV},EV.ltL k l->EV.ltL k' l
 |[],_=>by simp only[EV.ltL]
 |x::xs,hl=>by simp only[EV.ltL]at hl⊢;exact⟨EV.lt_mono h hl.1,EV.ltL_mono h hl.2⟩
end
theorem y3{f:FuncId}{c:Code}{args:List EV}{mem:List PO}{out:MOut}(hf:P.funcs[f]?=some fn)(hb:fn.body=some c)(hnm:(fn.name== "runtime.NumGoroutine")=false)(hlen':Nat.ble args.length fn.ntmps=true)
  (h:∀gh hold,qp (r:=none) P G c ⟨⟨fn.ntmps,[],gh,false,hold⟩,frE args,mem⟩ (CL P fn gh hold mem.length out)):zv P G f args mem out:=by
 have hlen:=zLb hlen';refine⟨⟨fn,hf,hnm,by simp[hb]⟩,fun w0 ok0 ok bs w vs gh hold hG hok ⟨o1,o2,o3,o4,o5,o6⟩ hfit=>callsIn_wide.1 (callsIn_of_wp_marks (n:=0) hf hb trivial ?_)⟩;have hl:=hfit.length;refine wpIn_mono (h gh hold w0 ok0 _ w hG hok ?_) fun e a' w' ⟨st,hs,hq⟩=>?_
 ·refine⟨by simp[hl];omega,⟨Y,fun p hp=>⟨⟨⟨(o6 p hp).1.1,by simp[marksOf]⟩,(o6 p hp).1.2⟩,(o6 p hp).2⟩⟩,o1,ok,bs,o2,o3,o4,fun t=>?_,o5⟩;show FitsE ok w bs mem (match args[t]?with|some x=>x|none=>.pub .top) _
  by_cases ht:t<args.length
  ·rw[zLe ht];obtain⟨u,h1,h2⟩:=hfit.get (zLe ht);have h3:t<vs.length:=(zLg h1).1;have h4:vs[t]=u:=(zLg h1).2;simp only[zLw];rw[Array.getElem?_append_left (by simpa using h3)];simp[h3,h4,h2]
  ·rw[List.getElem?_eq_none oM];simp[FitsE,Fits]
 ·obtain⟨⟨more,hmore⟩,hmk,hk0,hdf,hgh,hho,hout⟩:=hq;obtain⟨h0,h1,h2,ok',bs',h3,h4,h5,h6⟩:=hs;have h1m:=h1.1;rw[hdf]at h1m;have hlen5:=h5.len
  -- behind the marks, and without what lies behind
  have cut:∀(w2:World)(X:List (EV × Value)),MK w0 w' w2->(∀k,k∉marksOf a'.defers->w2.heap[k]?=w'.heap[k]?)->(∀p∈X,FitsE ok' w2 bs' st.mem p.1 p.2)->(∀p∈X,p.1.lt out.mem.length)->
    ∃okx bs2,Own w0 ok0 out.mem gh hold okx bs2 w2/\∀p∈X,FitsE okx w2 bs2 out.mem p.1 p.2:=fun w2 X hw2 hkk hX hXl=>by
   have htk:st.mem.take out.mem.length=out.mem:=by rw[hmore];simp
   have hghl:∀p∈gh,p.1.lt out.mem.length:=fun p hp=>EV.lt_mono hk0 (by have:=yt (o5 p hp);rwa[o4.len]at this)
   have hsit:Sit w0 ok0 ⟨⟨a'.tmps.size,[],X++gh,st.n.mks,[]⟩,fun _=>.pub .top,st.mem⟩ {a' with defers:=[]} w2:=by
    refine⟨rfl,⟨rfl,fun p hp=>by cases hp⟩,h2.trans hw2.below,ok',bs',h3,h4,h5.marked hw2,fun t=>by simp[FitsE,Fits],fun p hp=>?_⟩;rcases List.mem_append.1 hp with hp|hp
    ·exact hX p hp
    ·exact(h6.2 p (hgh p hp)).congr hw2.cell
   have hw:=aX (n:=⟨a'.tmps.size,[],X++gh,st.n.mks,[]⟩) (fr:=fun _=>.pub .top) (mem:=st.mem) out.mem.length (fun t=>by simp[EV.lt]) (fun l rows hl hr r hrr x hx=>by
     have:=wi hmk (i:=l) (o:=.row rows) (by rw[←htk,zLx,zLc hl];exact hr);exact this r hrr x hx) (fun p hp=>by
     rcases List.mem_append.1 hp with hp|hp
     ·exact hXl p hp
     ·exact hghl p hp) (fun l es hl hes=>wi hmk (i:=l) (o:=.map es) (by rw[←htk,zLx,zLc hl];exact hes))
   obtain⟨_,_,t2,okx,bsx,t3,t4,t5,t6⟩:=hw w0 ok0 _ w2 hsit;simp only[htk]at t5 t6;refine⟨okx,bsx,⟨t2,t3,t4,t5,fun p hp=>t6.2 p (List.mem_append_right _ hp),fun p hp=>?_⟩,fun p hp=>t6.2 p (List.mem_append_left _ hp)⟩;obtain⟨k1,k2⟩:=h1.2 p (hho p hp);exact⟨⟨k1.1.1,k1.2⟩,by rw[hkk _ k1.1.2];exact k2⟩
  cases out with
  |ret r m=>
   obtain⟨he,hrl,hret⟩:=hout
   have hlv:LeavesInM Fence.wide 0 P fn a'.tmps (fun e w'=>∃ok' bs',Own w0 ok0 m gh hold ok' bs' w'/\∃u,e=.returned u/\FitsE ok' w' bs' m r u) a'.defers .returning w':=yP h1m fun w2 hw2 hkk=>by
    obtain⟨u,hu1,hu2⟩:=dM (P:=P) (st:=st) (h5.marked hw2) (tm:=a'.tmps) (fun t=>(h6.1 t).congr hw2.cell) hret;obtain⟨okx,bsx,hown,hX⟩:=cut w2 [(r,u)] hw2 hkk (fun p hp=>by rw[zLh]at hp;subst hp;exact hu2) (fun p hp=>by rw[zLh]at hp;subst hp;exact hrl);exact⟨u,hu1,okx,bsx,hown,u,Y,hX _ (List.mem_singleton_self _)⟩
   rcases he with rfl|rfl
   ·exact hlv
   ·exact hlv
  |pan v m=>
   obtain⟨u,v',rfl,hu,hv⟩:=hout;refine ym h1m fun w2 hw2 hkk=>?_
   obtain⟨okx,bsx,hown,hX⟩:=cut w2 [(.pub v',u)] hw2 hkk (fun p hp=>by
    rw[zLh]at hp;subst hp;exact(h6.2 _ hu).congr hw2.cell) (fun p hp=>by rw[zLh]at hp;subst hp;simp[EV.lt])
   have:=hX _ (List.mem_singleton_self _);simp only[FitsE]at this;exact⟨okx,bsx,hown,u,Y,hv _ _ _ this⟩
end
theorem Dfs.re{mk:Bool}{tm':Array Value}:∀{ds:List Deferred}{B B':Nat}{l:List Tmp},Dfs mk w0 w tm ds B l->(∀D∈marksOf ds,w'.heap[D]?=some (.deferred (some [])))->(∀D∈marksOf ds,D<B')->
  (∀t,t∈l->tm'.getD t undef=tm.getD t undef)->Dfs mk w0 w' tm' ds B' l
 |[],B,B',l,h,_,_,_=>by simpa only[Dfs]using h
 |d::ds,B,B',l,h,hD,hB,ht=>by
  simp only[Dfs]at h⊢;rcases h with⟨hm,E,rfl,h1,h2,h3,h4⟩|⟨t,l',rfl,⟨f,us,vs,rfl,h1⟩,h2⟩
  ·exact .inl ⟨hm,E,Y,h1,hB E (by simp[marksOf]),hD E (by simp[marksOf]),h4.re (fun D h=>hD D (by simp[marksOf,h])) (fun D h=>(h4.marks D h).2.1) ht⟩
  ·exact .inr ⟨t,l',Y,⟨f,us,vs,Y,(ht t (zL1 ..)).trans h1⟩,h2.re (fun D h=>hD D (by simpa[marksOf]using h)) (fun D h=>hB D (by simpa[marksOf]using h)) (fun t h=>ht t (zL3 _ h))⟩
def iO:EV->FuncId->List EV->List EV->Prop
 | .fnm f fs cs,g,as,bs=>g=f/\as=fs/\bs=cs
 | .pub (.fn f fs cs),g,as,bs=>g=f/\as=fs.map .pub/\bs=cs.map .pub
 |_,_,_,_=>False
section
variable{P:Program}{G:Glob}{st:ASt}{o:Oper}
variable{ok:Nat->Prop}{w:World}{bs:List PB}{f:FuncId}{av cs fs:List EV}{u:Value}{fr:Nat->EV}{fop:Operand}{args:Array Operand}{tys:Array TypeId}{mem':List PO}{fn:Func}{gh:List (EV × Value)}{hold:List (Nat × Obj)}{mks:Bool}
theorem Jw{mem:List PO}{e:EV}(h:FitsE ok w bs mem e u)(hf:iO e f fs cs):∃us vs:List Value,u=.func (.func f) us.toArray vs.toArray/\FitsEL ok w bs mem fs us/\FitsEL ok w bs mem cs vs:=by
 cases e with
 |fnm g as bs=>
  obtain⟨rfl,rfl,rfl⟩:=hf;simpa only[FitsE]using h
 |pub x=>
  cases x with
  |fn g as bs=>
   obtain⟨rfl,rfl,rfl⟩:=hf;simp only[FitsE,Fits]at h;obtain⟨us,vs,e,h1,h2⟩:=h;exact⟨us,vs,e,FitsEL.pub.2 h1,FitsEL.pub.2 h2⟩
  |_=>exact hf.elim
 |_=>exact hf.elim
theorem FitsEL.append{mem:List PO}:∀{l l':List EV}{us us':List Value},FitsEL ok w bs mem l us->FitsEL ok w bs mem l' us'->FitsEL ok w bs mem (l++l') (us++us')
 |[],l',us,us',h,h'=>by simp only[FitsEL]at h;subst h;simpa using h'
 |x::xs,l',us,us',h,h'=>by
  simp only[FitsEL]at h;obtain⟨u,us2,rfl,h1,h2⟩:=h;simp only[List.cons_append,FitsEL];exact⟨u,us2++us',Y,h1,FitsEL.append h2 h'⟩
def kS(fr:Nat->EV):List Operand->List EV->Prop
 |[],[]=>True
 |x::xs,c::cs=>evO fr x=c/\kS fr xs cs
 |_,_=>False
theorem iJ{mem:List PO}{a:Act}(h:∀x,FitsE ok w bs mem (evO fr x) (a.eval x)):∀{l:List Operand}{cs:List EV},kS fr l cs->FitsEL ok w bs mem cs (l.map a.eval)
 |[],[],_=>by simp[FitsEL]
 |x::xs,c::cs,hh=>by
  simp only[List.map_cons,FitsEL];exact⟨_,_,Y,hh.1▸h x,iJ h hh.2⟩
 |[],_::_,hh=>hh.elim
 |_::_,[],hh=>hh.elim
theorem yF{out:MOut}(ho:o.op=.call {callee:=.value fop,args:=args,argTypes:=tys})(hf:iO (evO st.fr fop) f fs cs)(ha:kS st.fr args.toList av)(hc:zv P G f (fs++av++cs) st.mem out)
  {w0:World} {ok0:Nat->Prop} {a:Act}  (hG:G.holds w0) (hok:∀b,ok0 b->b<w0.heap.size) (hs:Sit w0 ok0 st a w):
  ∃(args':Array Value),(execOp a.eval o).run P w=.ok (.enter f args') w/\Calls P f args' w (fun e w'=>∃ok' bs',(∀b,ok0 b->ok' b)/\(∀b,ok' b->ok0 b∨w0.heap.size<=b)/\Below w0.heap.size w0 w'/\MemOK w0.heap.size ok' w' bs' out.mem/\
   Slots ok' w' bs' out.mem st.n (xf st.n.n st.fr) a/\(∀tm':Array Value,(∀t,t∈st.n.dfs->tm'.getD t undef=a.tmps.getD t undef)->Nod w0 w' {a with tmps:=tm'} st.n)/\∃u,match out with
    | .ret r m=>e=.returned u/\FitsE ok' w' bs' m r u
    | .pan v _=>e=.panicked (pnc u)/\Fits ok' w' v u):=by
 obtain⟨h0,h1,h2,ok,bs,h3,h4,h5,h6⟩:=hs;have hev:∀x,FitsE ok w bs st.mem (evO st.fr x) (a.eval x):=fun x=>qg fun t _=>h6.1 t;obtain⟨us,vs,e,k1,k2⟩:=Jw (hev fop) hf;have hargs:=iJ hev ha;refine⟨_,jt ho hc.1 e,?_⟩;let gh0:List (EV × Value):=(List.range st.n.n).map (fun t=>(st.fr t,a.tmps.getD t undef))++st.n.gh;let hold0:List (Nat × Obj):=st.n.hold++(marksOf a.defers).map fun D=>(D,.deferred (some []))
 have hgh0:∀p∈gh0,FitsE ok w bs st.mem p.1 p.2:=fun p hp=>by
  simp only[gh0,List.mem_append,zLj]at hp;rcases hp with⟨t,_,rfl⟩|hp
  ·exact h6.1 t
  ·exact h6.2 p hp
 have hhold0:∀p∈hold0,(still p.2=true/\w0.heap.size<=p.1)/\w.heap[p.1]?=some p.2:=fun p hp=>by
  simp only[hold0,List.mem_append,zLj]at hp;rcases hp with hp|⟨D,hD,rfl⟩
  ·obtain⟨j1,j2⟩:=h1.2 p hp;exact⟨⟨j1.1.1,j1.2⟩,j2⟩
  ·obtain⟨j0,j1,j2⟩:=h1.1.marks D hD;exact⟨⟨Y,j0⟩,j2⟩
 refine(hc.2 w0 ok0 ok bs w _ gh0 hold0 hG hok ⟨h2,h3,h4,h5,hgh0,hhold0⟩ ((FitsEL.append k1 hargs).append k2)).mono fun en w' ⟨ok',bs',⟨q1,q2,q3,q4,q5,q6⟩,u,hu⟩=>?_;refine⟨ok',bs',q2,q3,q1,q4,⟨fun t=>?_,fun p hp=>q5 p (List.mem_append_right _ hp)⟩,fun tm' htm=>⟨?_,fun p hp=>?_⟩,u,by cases out<;>exact hu⟩
 ·unfold xf
  by_cases ht:t<st.n.n
  ·rw[show Nat.blt t st.n.n=true from by simpa[Nat.blt_eq]using ht];exact q5 (st.fr t,a.tmps.getD t undef) (List.mem_append_left _ (List.mem_map_of_mem (f:=fun t=>(st.fr t,a.tmps.getD t undef)) (List.mem_range.2 ht)))
  ·rw[show Nat.blt t st.n.n=false from by
    cases hb:Nat.blt t st.n.n
    ·rfl
    ·exact absurd (by simpa[Nat.blt_eq]using hb) ht]
   simp[FitsE,Fits]
 ·have hmk:∀D∈marksOf a.defers,w'.heap[D]?=some (.deferred (some [])):=fun D hD=>(q6 (D,.deferred (some [])) (List.mem_append_right _ (List.mem_map_of_mem (f:=fun D=>(D,Obj.deferred (some []))) hD))).2;exact h1.1.re hmk (fun D hD=>(zLr.1 (hmk D hD)).1) htm
 ·exact⟨(h1.2 p hp).1,(q6 p (List.mem_append_left _ hp)).2⟩
theorem qS{r:EV}(ho:o.op=.call {callee:=.value fop,args:=args,argTypes:=tys})(hd:qB o st.n=true)(hf:iO (evO st.fr fop) f fs cs)(ha:kS st.fr args.toList av)
  (hc:zv P G f (fs++av++cs) st.mem (.ret r mem')):OpM P G st o ⟨st.n,qc (xf st.n.n st.fr) o.dst r,mem'⟩:=by
 intro w0 ok0 a w hG hok hs K Q hK;have hsz:=hs.size;obtain⟨args',hex,hcall⟩:=yF ho hf ha hc hG hok hs;unfold Oper.wp;rw[hex];simp only[Oper.upon];refine hcall.mono fun en w' ⟨ok',bs',q2,q3,q1,q4,q5,q6,u,he,hu⟩=>?_;subst he;refine hK _ _ ⟨(size_put ..).trans hsz,?_,q1,ok',bs',q2,q3,q4,qP q5 hu (fun d e=>by rw[hsz];exact(zo hd d e).1)⟩
 have hn:=q6 (a.put o.dst u).tmps (fun t ht=>by
  cases hdd:o.dst with
  |none=>rfl
  |some d=>
   have hne:t≠d:=fun e=>(zo hd d hdd).2 (e▸ht);simp only[Act.put,jy,hne,false_and,if_false])
 have e:({a with tmps:=(a.put o.dst u).tmps}:Act)=a.put o.dst u:=by
  unfold Act.put;split<;>rfl
 rw[e]at hn;exact hn
theorem SK{r:Option Nat}{ops:Array Oper}{l:List Oper}{Q:Exit->ASt->Prop}{v:AV}(hg:jq o=true)(ho:o.op=.call {callee:=.value fop,args:=args,argTypes:=tys})
  (hf:iO (evO st.fr fop) f fs cs) (ha:kS st.fr args.toList av) (hc:zv P G f (fs++av++cs) st.mem (.pan v mem')) (h:∀u,Q (.panic (pnc u)) ⟨st.n.pan v u,xf st.n.n st.fr,mem'⟩):qq (r:=r) P G ops (o::l) st Q:=by
 intro w0 ok0 a w hG hok hs;have hsz:=hs.size;obtain⟨args',hex,hcall⟩:=yF ho hf ha hc hG hok hs;refine wpListIn_plain (j5 hg) fun K hK=>jR (j9 hg) ?_;unfold Oper.wp;rw[hex];simp only[Oper.upon];refine hcall.mono fun en w' ⟨ok',bs',q2,q3,q1,q4,q5,q6,u,he,hu⟩=>?_;subst he;have hn:=q6 a.tmps (fun _ _=>rfl);refine⟨⟨st.n.pan v u,xf st.n.n st.fr,mem'⟩,⟨hsz,hn,q1,ok',bs',q2,q3,q4,q5.1,fun p hp=>?_⟩,h u⟩;rcases List.mem_cons.1 hp with rfl|hp
 ·simpa only[FitsE]using hu
 ·exact q5.2 p hp
theorem zR{k0 N:Nat}{r:EV}{m:List PO}{e:Exit}{mem:List PO}(more:List PO)(hm:mem=m++more)(hk:zW m.length m)(h0:k0<=m.length)(he:e=.normal∨e=.ret)(hr:r.lt m.length)
  (hret:Eu P fn ⟨⟨N,[],gh,mks,hold⟩,fr,mem⟩ r):CL P fn gh hold k0 (.ret r m) e ⟨⟨N,[],gh,mks,hold⟩,fr,mem⟩:=
 ⟨⟨more,hm⟩,hk,h0,rfl,fun _ h=>h,fun _ h=>h,he,hr,hret⟩
theorem EJ{k0 N:Nat}{v v':AV}{m:List PO}{mem:List PO}(more:List PO)(hm:mem=m++more)(hk:zW m.length m)(h0:k0<=m.length)(hv:AVle v' v):
  CL P fn gh hold k0 (.pan v m) (.panic (pnc u)) ⟨NS.pan ⟨N,[],gh,mks,hold⟩ v' u,fr,mem⟩:=
 ⟨⟨more,hm⟩,hk,h0,rfl,fun _ h=>zL3 _ h,fun _ h=>h,u,v',rfl,zL1 ..,hv⟩
theorem ACall.m{args:List AV}{r:AV}{mem:List PO}(h:ACall P G f args r):zv P G f (args.map .pub) mem (.ret (.pub r) mem):=
 ⟨h.1,fun w0 ok0 ok bs w vs gh hold hG hok ho hfit=>(h.2 ok w vs (G.stable _ _ hG ho.below) ho.mok.lt (FitsEL.pub.1 hfit)).mono fun e w' ⟨u,he,hb,hu⟩=>by
  refine⟨okN ok w w',bs,⟨q9 ho.below ho.below.size hb,fun b hb'=>.inl (ho.up b hb'),fun b hb'=>?_,ho.mok.grow hb,fun p hp=>(ho.gh p hp).grow ho.mok.lt hb,fun p hp=>⟨(ho.hold p hp).1,?_⟩⟩,u,he,by simpa only[FitsE]using hu⟩
  ·rcases hb' with h|h
   ·exact ho.dn b h
   ·exact .inr (zL6 ho.below.size h.1)
  ·rw[hb.block _ (zLr.1 (ho.hold p hp).2).1];exact(ho.hold p hp).2⟩
end
theorem DU{α:Type}{l:List α}{x:α}(h:l[k]?=some x):l.set k x=l:=by
 apply List.ext_getElem?;intro t
 by_cases ht:k=t
 ·subst ht;rw[h];simp[(zLg h).1]
 ·rw[zLn ht]
theorem nA{mem:List PO}{i j L:Nat}(hm:mem[k]?=some (.row rows))(hr:rows[i]?=some r)(hj:r[j]?=some (.pub (.v (.slice none 0 0))))(hL:mem[L]?=some (.row [])):
  Weak ⟨n,fr,mem⟩ ⟨n,fr,mem.set k (.row (rows.set i (r.set j (.psl L 0))))⟩:=by
 intro w0 ok0 a w ⟨h0,h1,h2,ok,bs,h3,h4,h5,h6⟩;have hi:i<rows.length:=(zLg hr).1;have hjl:j<r.length:=(zLg hj).1;have hkm:k<mem.length:=(zLg hm).1;have hlen:=h5.len;simp only at hlen h5 h6;have hb:bs[k]?=some bs[k]:=zLe oM;have hLm:L<mem.length:=(zLg hL).1;have hbL:bs[L]?=some bs[L]:=zLe oM;have hrow:=h5.row k _ rows hb hm;have hrowL:=h5.row L _ [] hbL hL
 have hLb:bs[L].blk=none:=by
  cases hx:bs[L].blk with
  |none=>rfl
  |some g=>have:=hrowL.pos g hx;simp at this
 have hne:L≠k:=fun e=>by
  subst e;rw[hL]at hm;injection hm with hm
  injection hm with hm
  subst hm;simp at hi
 have hturn:=h5.turn (w':=w) (b':=bs[k]) (rows':=rows.set i (r.set j (.psl L 0))) hb hm (zLl _) (fun t _ _=>rfl) sI (fun _=>rfl) (fun g' hg'=>.inl hg') h2.size (fun hfit=>by
  refine⟨fun r' hr'=>?_,fun hnone=>(by have:=hrow.nil hnone;subst this;simp at hi),fun g' hg'=>(by have:=hrow.pos g' hg';simpa using this),fun g' hg'=>?_⟩
  ·rcases List.mem_or_eq_of_mem_set hr' with h|h
   ·exact hrow.size r' h
   ·rw[h,zL2];exact hrow.size r (zLo hr)
  ·obtain⟨cur,hc,hcs,hcl,hcm,hcell⟩:=hrow.blk g' hg';refine⟨cur,hc,hcs,by simpa using hcl,hcm,fun i' j' r' x' hr' hx'=>?_⟩
   by_cases hii:i=i'
   ·subst hii;rw[zLi hi]at hr';injection hr' with hr'
    subst hr'
    by_cases hjj:j=j'
    ·subst hjj;rw[zLi hjl]at hx';injection hx' with hx'
     subst hx';obtain⟨u,c1,c2,c3⟩:=hcell i j r _ hr hj;simp only[FitsE,Fits]at c3;refine⟨u,c1,c2,?_⟩;simp only[FitsE];refine⟨bs[L],?_,fun rows2 h7=>?_⟩
     ·rw[zLn (Ne.symm hne)];exact hbL
     ·rw[zLn (Ne.symm hne),hL]at h7;injection h7 with h7
      injection h7 with h7
      subst h7;refine⟨zLl _,fun _=>?_⟩;unfold PB.sl;rw[hLb];exact c3.1
    ·rw[zLn hjj]at hx';obtain⟨u,c1,c2,c3⟩:=hcell i j' r x' hr hx';exact⟨u,c1,c2,hfit _ _ c3⟩
   ·rw[zLn hii]at hr';obtain⟨u,c1,c2,c3⟩:=hcell i' j' r' x' hr' hx';exact⟨u,c1,c2,hfit _ _ c3⟩)
 obtain⟨hm',hf'⟩:=hturn;rw[DU hb]at hm' hf';exact⟨h0,h1,h2,ok,bs,h3,h4,hm',h6.map hf'⟩
theorem ou{mem:List PO}:Weak ⟨n,fr,mem⟩ ⟨n,fr,mem++[.row []]⟩:=by
 intro w0 ok0 a w ⟨h0,h1,h2,ok,bs,h3,h4,h5,h6⟩;have ht:=Turn.push h5.len ⟨none,0,0,0⟩ (.row [])
 exact⟨h0,h1,h2,ok,bs++[⟨none,0,0,0⟩],h3,h4,h5.push (Below.refl _ _) h2.size ⟨sI,fun _=>rfl,fun g hg=>(by simp at hg),fun g hg=>(by simp at hg)⟩ (fun g hg=>by simp at hg),
  fun t=>(h6.1 t).mono (fun _ hb=>hb) (fun _ _=>rfl) ht,fun p hp=>(h6.2 p hp).mono (fun _ hb=>hb) (fun _ _=>rfl) ht⟩
theorem vL{mem:List PO}{i j:Nat}(hm:mem[k]?=some (.row rows))(hr:rows[i]?=some r)(hj:r[j]?=some (.pub (.v (.slice none 0 0)))):
  Weak ⟨n,fr,mem⟩ ⟨n,fr,mem.set k (.row (rows.set i (r.set j (.psl mem.length 0))))++[.row []]⟩:=by
 have hk:k<mem.length:=(zLg hm).1;have h1:=ou (n:=n) (fr:=fr) (mem:=mem);have h2:=nA (n:=n) (fr:=fr) (mem:=mem++[.row []]) (k:=k) (i:=i) (j:=j) (L:=mem.length) (rows:=rows) (r:=r) (by rw[zLf hk];exact hm) hr hj sI
 have e:(mem++[PO.row []]).set k (.row (rows.set i (r.set j (.psl mem.length 0))))=mem.set k (.row (rows.set i (r.set j (.psl mem.length 0))))++[.row []]:=by
  rw[List.set_append_left _ _ hk]
 rw[e]at h2;exact h1.trans h2
section
variable{P:Program}{G:Glob}
theorem jS{α:Type}{st:ASt}{Q:Exit->ASt->Prop}{g:Operand}{ps:Array Tmp}{as bo:Code}{f:FuncId}{fs cs:List AV}(xs:List α)(qf:α->List AV)(live:List Tmp)(V:Nat->Prop)(I:Nat->List PO)(hV0:V 0)
  (hg:evO st.fr g=.pub (.fn f fs cs)) (hit:gp P G f fs cs (xs.map qf)) (hm:st.mem=I 0) (hlen:∀x,(qf x).length=ps.size) (hpd:(ps.toList.all fun t=>Nat.blt t st.n.n)=true) (hlv:(live.all fun t=>Nat.blt t st.n.n)=true)
  (round:∀(k:Nat)(x:α)(gh:List (EV × Value))(l:Nat)(h1 h2:List (Nat × Obj)),xs[k]?=some x->V k->
   qp (r:=some l) P G as ⟨NS.round st.n.n gh h1,dS (wj st.fr live) ps.toList (qf x),I k⟩ (fun e s=>e=.normal/\s.n=NS.round st.n.n gh h1/\
    qp (r:=some l) P G bo ⟨NS.round st.n.n gh h2,s.fr,s.mem⟩ (Gf st.n.marked (NS.round st.n.n gh h2) (wj st.fr live) (V (k+1)) (I (k+1)) Q)))
  (hdone:V xs.length->Q .normal ⟨st.n.marked,wj st.fr live,I xs.length⟩):qp (r:=none) P G (.rangeFunc g ps as bo) st Q:=by
 refine nP (qs:=xs.map qf) live V I hV0 hg hit hm ?_ hpd hlv ?_ ?_
 ·intro q hq;obtain⟨x,_,rfl⟩:=zLj.1 hq;exact hlen x
 ·intro k q gh l h1 h2 hq hV;rw[zLq]at hq;cases hx:xs[k]?with
  |none=>rw[hx]at hq;cases hq
  |some x=>
   rw[hx]at hq;injection hq with hq
   subst hq;exact round k x gh l h1 h2 hx hV
 ·rw[zL8];exact hdone
end
structure Sx(P:Program)(G:Glob) where
 l:Nat
 qs:List (List AV)
 B:Nat
 V:Nat->Prop
 On:World->Prop
 Off:World->Prop
 okS:Nat->Prop
 glob:∀W,On W->G.holds W
 globF:∀W,Off W->G.holds W
 onAb:∀W W',On W->Below B W W'->On W'
 offAb:∀W W',Off W->Below W.heap.size W W'->Off W'
 onB:∀W,On W->B<=W.heap.size
 up:∀x,B<=x->okS x
 round:∀(k:Nat)(W:World)(ok:Nat->Prop)(us:List Value)(q:List AV),qs[k]?=some q->V k->On W->(∀x,ok x->x<W.heap.size/\okS x)->FitsL ok W q us->
  ∃fn tmps assign body,(Instr.yield l us.toArray).run P W=.ok (.round l fn tmps assign body) W/\
   RoundIn (FW none) 0 P l fn tmps assign body W (fun e W'=>(e=.returned (.bool true)/\V (k+1)/\Below W.heap.size W W')∨(e=.returned (.bool false)/\Off W'))
section
variable{P:Program}{G:Glob}
variable{F:Fence}{n:Nat}{md:Region.Mode}
def ie(md:Region.Mode)(l:List Oper):Bool:=
 (List.range l.length).all fun i=>match l[i]?with
  |some o=>(o.after.toList.all fun e=>!Region.binds md e||Nat.blt e.on i)&&(match o.guard with|none=>true|some (j,_)=>Nat.blt j i)
  |none=>true
def waits(md:Region.Mode)(l:List Oper)(i:Nat):List Nat:=match l[i]?with
 |some o=>o.after.toList.filterMap fun e=>if Region.binds md e then some e.on else none
 |none=>[]
def clo(md:Region.Mode)(l:List Oper):Nat->List Nat->List Nat
 |0,s=>s
 |k+1,s=>clo md l k (s++(s.flatMap (waits md l)).filter (fun x=>!s.contains x))
def lastB(md:Region.Mode)(l:List Oper)(o:Oper)(k:Nat):Bool:=
 ie md (l++[o])&&o.guard.isNone&&(List.range l.length).all fun i=>(clo md (l++[o]) k (waits md (l++[o]) l.length)).contains i
variable{L l:List Oper}{N i j:Nat}{o:Oper}{s:Array Bool}{Q:Exit->Act->World->Prop}{w:World}{K K':Act->World->Prop}{hows:Nat->How}{C:List PO->Prop}
theorem ai(h:ie md l=true)(ho:l[i]?=some o):(∀e∈o.after,Region.binds md e=true->e.on<i)/\∀j b,o.guard=some (j,b)->j<i:=by
 unfold ie at h;rw[zLu]at h;have:=h i (List.mem_range.2 (zLg ho).1);simp only[ho,zLa,zLu]at this;refine⟨fun e he hb=>?_,fun j b hg=>?_⟩
 ·have h1:=this.1 e (by simpa using he);rw[hb]at h1;simpa[Nat.blt_eq]using h1
 ·have h1:=this.2;rw[hg]at h1;simpa[Nat.blt_eq]using h1
def Closd(md:Region.Mode)(l:List Oper)(s:Nat->Bool):Prop:=∀i o,l[i]?=some o->s i=true->∀e∈o.after,Region.binds md e=true->s e.on=true
theorem tW{s:Nat->Bool}(hc:Closd md l s)(hi:s i=true):∀x∈waits md l i,s x=true:=fun x hx=>by
 unfold waits at hx;split at hx
 ·rename_i o ho
  rw[List.mem_filterMap]at hx;obtain⟨e,he,hx⟩:=hx;split at hx
  ·rename_i hb
   injection hx with hx
   exact hx▸hc i o ho hi e (by simpa using he) hb
  ·cases hx
 ·cases hx
theorem iw{s:Nat->Bool}(hc:Closd md l s):∀(k:Nat)(t:List Nat),(∀i∈t,s i=true)->∀i∈clo md l k t,s i=true
 |0,t,ht,i,hi=>ht i hi
 |k+1,t,ht,i,hi=>by
  rw[clo]at hi;refine iw hc k _ (fun j hj=>?_) i hi;rcases List.mem_append.1 hj with h|h
  ·exact ht j h
  ·have h2:=(List.mem_filter.1 h).1;rw[List.mem_flatMap]at h2;obtain⟨x,hx,hy⟩:=h2;exact tW hc (ht x hx) j hy
def DY(F:Fence)(n:Nat)(P:Program)(ops:Array Oper)(N:Nat)(Q:Exit->Act->World->Prop):Exit->Act->World->Prop
 | .normal,a,w=>wpOpIn F n P ops Q N (fun a w=>Q .normal a w) a w
 |e,a,w=>Q e a w
theorem CX{ops:Array Oper}{a:Act}(h:∀a w,K a w->K' a w)(hh:o.wpIn F n P a w K (DY F n P ops N Q)):o.wpIn F n P a w K' Q:=by
 unfold Oper.wpIn at*;refine⟨hh.1,?_⟩;have hh:=hh.2;generalize (o.semAt F.round a.eval).run P w=r at*;cases r with
 |ok x w'=>
  cases x<;>simp only[Oper.uponIn]at hh⊢<;>
   first
    |exact h _ _ hh
    |exact⟨hh.1,CallsIn.mono hh.2 (fun e w'' he=>by cases e<;>first|exact h _ _ he|exact he)⟩
    |exact⟨hh.1,RowsIn.mono hh.2 (fun _ _ he=>h _ _ he)⟩
    |exact⟨hh.1,RoundIn.mono hh.2 (fun e w'' he=>by cases e<;>first|exact h _ _ he|exact he)⟩
    |exact hh
 |halt x w'=>cases x<;>simp only[Oper.uponIn]at hh⊢<;>exact hh
theorem sb{tm:Array Value}(hj:j<l.length):yielded (l++[o]).toArray tm j=yielded l.toArray tm j:=by
 unfold yielded;simp[zLf hj]
theorem BX{ops:Array Oper}(hops:ops=(l++[o]).toArray)(hi:i<l.length)(hg:∀oi j b,l[i]?=some oi->oi.guard=some (j,b)->j<l.length){a:Act}(h:∀a w,K a w->K' a w)
  (hh:wpOpIn F n P l.toArray (DY F n P ops N Q) i K a w):wpOpIn F n P ops Q i K' a w:=by
 have e1:l.toArray[i]?=some l[i]:=by simp[hi]
 have e2:ops[i]?=some l[i]:=by rw[hops];simp[zLf hi,hi]
 unfold wpOpIn at*;simp only[e1]at hh;simp only[e2]
 have hw:Region.wanted l[i] (yielded ops a.tmps)=Region.wanted l[i] (yielded l.toArray a.tmps):=by
  unfold Region.wanted;cases hgd:l[i].guard with
  |none=>rfl
  |some p=>
   obtain⟨j,b⟩:=p;simp only;rw[hops,sb (hg l[i] j b (by simp[hi]) hgd)]
 rw[hw];split
 ·rename_i hc
  rw[zLc hc]at hh;exact CX h hh
 ·rename_i hc
  rw[zLy hc]at hh;exact⟨hh.1,h _ _ hh.2⟩
theorem wA(d b:Bool)(h:i<s.size):(s.push b).getD i d=s.getD i d:=by
 simp[zLw,Array.getElem?_push,Nat.ne_of_lt h]
theorem fw(d b:Bool):(s.push b).getD s.size d=b:=by simp[zLw]
theorem eQ(h:i<s.size):s.getD i true=s.getD i false:=by simp[zLw,h]
theorem dz(ht:ie md (l++[o])=true)(hs:s.size=l.length)(b:Bool)(hi:i<l.length):i∈Region.ready md (l++[o]).toArray (s.push b)↔i∈Region.ready md l.toArray s:=by
 have e1:l.toArray[i]?=some l[i]:=by simp[hi]
 have e2:(l++[o]).toArray[i]?=some l[i]:=by simp[zLf hi,hi]
 have hto:=(ai ht (i:=i) (o:=l[i]) (by simp[zLf hi,hi])).1;rw[mem_ready,mem_ready,wA true b oM,e1,e2];constructor
 ·rintro⟨h0,o1,h1,h2⟩;injection h1 with h1
  subst h1
  exact⟨h0,_,Y,fun e he hb=>by
   have:=h2 e he hb;rwa[wA _ b (by have:=hto e he hb;omega)]at this⟩
 ·rintro⟨h0,o1,h1,h2⟩;injection h1 with h1
  subst h1
  exact⟨h0,_,Y,fun e he hb=>by
   rw[wA _ b (by have:=hto e he hb;omega)];exact h2 e he hb⟩
theorem fg(ht:ie md l=true)(hs:s.size=l.length)(h:Region.ready md l.toArray s=[]):∀i,i<l.length->s.getD i false=true:=by
 intro i
 induction i using Nat.strongRecOn with
 |_ i ih=>
  intro hi;have e1:l.toArray[i]?=some l[i]:=by simp[hi]
  cases hc:s.getD i false with
  |true=>rfl
  |false=>
   exfalso
   have:i∈Region.ready md l.toArray s:=mem_ready.2 ⟨by rw[eQ oM];exact hc,l[i],e1,fun e he hb=>by
    have h1:=(ai ht (i:=i) (o:=l[i]) (by simp[hi])).1 e he hb;exact ih e.on h1 oM⟩
   rw[h]at this;cases this
theorem FC{k:Nat}(hB:lastB md l o k=true){ops:Array Oper}(hops:ops=(l++[o]).toArray):∀(fuel:Nat)(s:Array Bool)(a:Act)(w:World),s.size=l.length->Closd md l (fun i=>s.getD i false)->
  wpAnyIn F n P md l.toArray (DY F n P ops l.length Q) fuel s a w->wpAnyIn F n P md ops Q (fuel+1) (s.push false) a w:=by
 simp only[lastB,zLa,zLu]at hB;obtain⟨⟨ht,hgo⟩,hall⟩:=hB
 have ht':ie md l=true:=by
  unfold ie at ht⊢;rw[zLu]at ht⊢;intro i hi;rw[List.mem_range]at hi;have:=ht i (List.mem_range.2 (by simp;omega));rwa[zLf hi]at this
 have hN:ops[l.length]?=some o:=by rw[hops];simp
 have hto:∀{i:Nat}(hi:i<l.length),(∀e∈l[i].after,Region.binds md e=true->e.on<i)/\∀j b,l[i].guard=some (j,b)->j<i:=fun{i} hi=>ai ht (i:=i) (o:=l[i]) (by simp[zLf hi,hi])
 have rN1:∀s:Array Bool,s.size=l.length->(∀i,i<l.length->s.getD i false=true)->l.length∈Region.ready md ops (s.push false):=fun s hs h=>mem_ready.2 ⟨by rw[←hs];exact fw _ _,o,hN,fun e he hb=>by
  have h1:=(ai ht (i:=l.length) (o:=o) sI).1 e he hb;rw[wA _ _ oM];exact h _ h1⟩
 have rN2:∀s:Array Bool,s.size=l.length->Closd md l (fun i=>s.getD i false)->l.length∈Region.ready md ops (s.push false)->∀i,i<l.length->s.getD i false=true:=fun s hs hc h i hi=>by
  obtain⟨_,o',ho',h2⟩:=mem_ready.1 h;rw[hN]at ho';injection ho' with ho'
  subst ho'
  have hc2:Closd md (l++[o]) (fun i=>(s.push false).getD i false):=by
   intro j oj hj hsj e he hb
   by_cases hjl:j<l.length
   ·rw[zLf hjl]at hj;have e3:l[j]=oj:=by rw[zLe hjl]at hj;injection hj
    have h3:=(hto hjl).1 e (by rw[e3];exact he) hb;simp only[wA _ _ (show j<s.size by omega)]at hsj;simp only[wA _ _ (show e.on<s.size by omega)];exact hc j oj hj hsj e he hb
   ·have e4:j=l.length:=by
     have:=(zLg hj).1;simp at this;omega
    subst e4;simp only[←hs,fw]at hsj;cases hsj
  have h3:=iw hc2 k (waits md (l++[o]) l.length) (fun x hx=>by
   unfold waits at hx;rw[show(l++[o])[l.length]?=some o by simp]at hx;simp only[List.mem_filterMap]at hx;obtain⟨e,he,hx⟩:=hx;split at hx
   ·rename_i hb
    injection hx with hx
    exact hx▸h2 e (by simpa using he) hb
   ·cases hx) i (by simpa using hall i (List.mem_range.2 hi))
  simp only[wA _ _ (show i<s.size by omega)]at h3;exact h3
 have rin:∀{i:Nat}{L:List Oper}{s:Array Bool},i∈Region.ready md L.toArray s->i<L.length:=fun{i L s} hi=>by
  obtain⟨_,o',ho',_⟩:=mem_ready.1 hi;have:=(zLr.1 ho').1;simpa using this
 have fin:∀(s:Array Bool),s.size=l.length->(∀i,i<l.length->s.getD i false=true)->Region.ready md ops ((s.push false).setIfInBounds l.length true)=[]:=fun s hs h=>by
  refine List.eq_nil_iff_forall_not_mem.2 fun i hi=>?_;obtain⟨h1,_⟩:=mem_ready.1 hi;rw[hops]at hi;have hlt:=rin hi;simp at hlt
  by_cases hil:i<l.length
  ·rw[getD_set_ne true (Ne.symm (Nat.ne_of_lt hil)),wA _ _ oM,eQ oM,h i hil]at h1;cases h1
  ·have e4:i=l.length:=oM;subst e4;simp[zLw,hs]at h1
 have allr:∀s:Array Bool,s.size=l.length->(∀i,i<l.length->s.getD i false=true)->Region.ready md l.toArray s=[]:=fun s hs h=>by
  refine List.eq_nil_iff_forall_not_mem.2 fun i hi=>?_;obtain⟨h1,_⟩:=mem_ready.1 hi;have hlt:=rin hi;rw[eQ oM,h i hlt]at h1;cases h1
 intro fuel
 induction fuel with
 |zero=>
  intro s a w hs hc hh;obtain⟨h0,h1⟩:=hh;have ha:=fg ht' hs h0;refine⟨fun h=>?_,fun i hi=>?_⟩
  ·have:=rN1 s hs ha;rw[h]at this;cases this
  ·have hi':=hi;rw[hops]at hi;have hlt:=rin hi;simp at hlt
   by_cases hil:i<l.length
   ·have:=(dz ht hs false hil).1 hi;rw[h0]at this;cases this
   ·have e4:i=l.length:=oM;subst e4;exact wpOpIn_mono (fun a w hq=>⟨fin s hs ha,hq⟩) h1
 |succ fuel ih=>
  intro s a w hs hc hh;obtain⟨h0,h1⟩:=hh;refine⟨fun h=>?_,fun i hi=>?_⟩
  ·have hr:Region.ready md l.toArray s=[]:=List.eq_nil_iff_forall_not_mem.2 fun i hi=>by
    have:=(dz (o:=o) ht hs false (rin hi)).2 hi;rw[←hops,h]at this;cases this
   have:=rN1 s hs (fg ht' hs hr);rw[h]at this;cases this
  ·have hi':=hi;rw[hops]at hi;have hlt:=rin hi;simp at hlt
   by_cases hil:i<l.length
   ·have hr:i∈Region.ready md l.toArray s:=(dz ht hs false hil).1 hi;have h2:=h1 i hr
    have e:(s.push false).setIfInBounds i true=(s.setIfInBounds i true).push false:=by
     apply Array.ext_getElem?;intro j
     by_cases hij:i=j
     ·subst hij;simp only[Array.getElem?_setIfInBounds,hs,hil,Nat.lt_succ_of_lt hil,Array.size_push,if_true];rw[Array.getElem?_push_lt (by simpa[hs]using hil)];simp
     ·rw[zL9 hij,Array.getElem?_push,Array.getElem?_push,zL9 hij];simp
    rw[e];refine BX hops hil (fun oi j b hoi hg=>?_) (fun a w hk=>ih (s.setIfInBounds i true) a w (by simpa using hs) ?_ hk) h2
    ·have e5:l[i]=oi:=by rw[zLe hil]at hoi;injection hoi
     have h3:=(hto hil).2 j b (by rw[e5];exact hg);omega
    ·intro j oj hj hsj e he hb
     by_cases hij:i=j
     ·subst hij;obtain⟨_,o',ho',h4⟩:=mem_ready.1 hr
      have e5:o'=oj:=by
       simp only[List.getElem?_toArray]at ho';rw[ho']at hj;injection hj
      subst e5;have h5:=h4 e he hb
      by_cases hie:i=e.on
      ·simp only[←hie];exact hsj
      ·simp only[getD_set_ne _ hie];exact h5
     ·simp only[getD_set_ne _ hij]at hsj;have h5:=hc j oj hj hsj e he hb
      by_cases hie:i=e.on
      ·simp only[←hie];have hlt:i<s.size:=oM;simp[zLw,hlt]
      ·simp only[getD_set_ne _ hie];exact h5
   ·have e4:i=l.length:=oM;subst e4;have ha:=rN2 s hs hc hi';have h2:=h0 (allr s hs ha);exact wpOpIn_mono (fun a w hq=>⟨fun _=>hq,fun j hj=>by rw[fin s hs ha]at hj;cases hj⟩) h2
def gj(md:Region.Mode)(l:List Oper)(hows:Nat->How)(listed:Array Bool)(i:Nat):Bool:=
 (List.range l.length).all fun j=>listed.getD j true||j==i||(clo md l l.length (waits md l j)).contains i||(hows i).free (hows j)
def xe(md:Region.Mode)(l:List Oper)(hows:Nat->How):Nat->Nat->Array Bool->Bool
 |0,_,_=>true
 |fuel+1,k,listed=>gj md l hows listed k&&xe md l hows fuel (k+1) (listed.setIfInBounds k true)
theorem iY{listed:Array Bool}(h:gj md l hows listed i=true)(hj:j<l.length)(hji:j≠i)(hun:listed.getD j true=false)
  (hno:i∉clo md l l.length (waits md l j)):(hows i).free (hows j)=true:=by
 unfold gj at h;rw[zLu]at h;have:=h j (List.mem_range.2 hj);rw[hun]at this;simp only[Bool.false_or,Bool.or_eq_true,beq_iff_eq]at this;rcases this with(h1|h1)|h1
 ·exact absurd h1 hji
 ·exact absurd (by simpa using h1) hno
 ·exact h1
theorem Closd.set(hc:Closd md l (fun i=>s.getD i false))(hr:i∈Region.ready md l.toArray s):Closd md l (fun j=>(s.setIfInBounds i true).getD j false):=by
 intro j oj hj hsj e he hb;obtain⟨h0,o',ho',h4⟩:=mem_ready.1 hr
 by_cases hie:i=e.on
 ·simp only[←hie]
  have hlt:i<s.size:=by
   rcases Nat.lt_or_ge i s.size with h|h
   ·exact h
   ·simp[zLw,Array.getElem?_eq_none h]at h0
  simp[zLw,hlt]
 ·simp only[getD_set_ne _ hie]
  by_cases hij:i=j
  ·subst hij
   have e5:o'=oj:=by
    simp only[List.getElem?_toArray]at ho';rw[ho']at hj;injection hj
   subst e5;exact h4 e he hb
  ·simp only[getD_set_ne _ hij]at hsj;exact hc j oj hj hsj e he hb
theorem JS(hc:Closd md l (fun i=>s.getD i false))(hi:i∈Region.ready md l.toArray s)(hj:j∈Region.ready md l.toArray s):i∉clo md l l.length (waits md l j):=fun h=>by
 obtain⟨h0,oi,hoi,_⟩:=mem_ready.1 hi;obtain⟨_,oj,hoj,h2⟩:=mem_ready.1 hj
 have h3:=iw hc l.length (waits md l j) (fun x hx=>by
  unfold waits at hx;rw[show l[j]?=some oj by simpa using hoj]at hx;simp only[List.mem_filterMap]at hx;obtain⟨e,he,hx⟩:=hx;split at hx
  ·rename_i hb
   injection hx with hx
   exact hx▸h2 e (by simpa using he) hb
  ·cases hx) i h
 rcases Nat.lt_or_ge i s.size with h'|h'
 ·rw[eQ h',h3]at h0;cases h0
 ·simp[zLw,Array.getElem?_eq_none h']at h3
theorem iU{Q:(Nat->EV)->List PO->Prop}{oi:Oper}{v:EV}(hi:l.toArray[i]?=some oi):
  ∀(fuel:Nat)(listed:Array Bool)(fr:Nat->EV)(mem m1:List PO),C mem->Closd md l (fun i=>listed.getD i false)->
   (∀(j:Nat)(oj:Oper),l.toArray[j]?=some oj->j≠i->listed.getD j true=false->(∀e∈oj.after,Region.binds md e=true->e.on≠i)->i∉clo md l l.length (waits md l j)->oi.apart l.toArray oj=true/\(hows i).free (hows j)=true)->
   i∈Region.ready md l.toArray listed->StepA P G l.toArray C oi fr mem v m1 (hows i)->
   xb P G md l.toArray C hows Q fuel (listed.setIfInBounds i true) (qc fr oi.dst v) m1->xb P G md l.toArray C hows Q (fuel+1) listed fr mem:=by
 intro fuel
 induction fuel with
 |zero=>
  intro listed fr mem m1 hC hcl _ hr hy H;refine⟨fun h=>(by rw[h]at hr;cases hr),fun j hj=>?_⟩
  by_cases hji:j=i
  ·subst hji;unfold pf;simp only[hi];exact⟨v,m1,hy,H⟩
  ·have:=ready_mono hj hji;rw[H.1]at this;cases this
 |succ fuel ih=>
  intro listed fr mem m1 hC hcl hfree hr hy H;refine⟨fun h=>(by rw[h]at hr;cases hr),fun j hj=>?_⟩
  by_cases hji:j=i
  ·subst hji;unfold pf;simp only[hi];exact⟨v,m1,hy,H⟩
  ·have h1:=H.2 j (ready_mono hj hji);obtain⟨hjun,oj,hoj,hall⟩:=mem_ready.1 hj
   have hnot:∀e∈oj.after,Region.binds md e=true->e.on≠i:=fun e he hb heq=>by
    have h1:=hall e he hb;have h0:=(mem_ready.1 hr).1;rw[heq]at h1;rcases Nat.lt_or_ge i listed.size with h'|h'
    ·simp[h']at h0 h1;rw[h0]at h1;cases h1
    ·simp[Array.getElem?_eq_none h']at h1
   obtain⟨hap,hfr⟩:=hfree j oj hoj hji hjun hnot (JS hcl hr hj);obtain⟨a1,a2,a3⟩:=Oper.apart_spec hap
   have hfree':∀(k:Nat)(ok:Oper),l.toArray[k]?=some ok->k≠i->(listed.setIfInBounds j true).getD k true=false->
     (∀e∈ok.after,Region.binds md e=true->e.on≠i)->i∉clo md l l.length (waits md l k)->oi.apart l.toArray ok=true/\(hows i).free (hows k)=true:=fun k ok hk hki hun hno hna=>by
    refine hfree k ok hk hki ?_ hno hna
    by_cases hjk:j=k
    ·subst hjk;exact hjun
    ·rw[getD_set_ne true hjk]at hun;exact hun
   unfold pf at h1⊢;simp only[hoj]at h1⊢;obtain⟨u,m2,hs,hK⟩:=h1;have hs0:=hs.un_set a1;obtain⟨m1',b1,b2,b3⟩:=StepA.swap hfr hC hy hs0;refine⟨u,m1',b1,ih (listed.setIfInBounds j true) _ m1' m2 b3 (hcl.set hj) hfree' (ready_mono hr (Ne.symm hji)) (b2.of_set a3) ?_⟩;rw[Array.setIfInBounds_comm _ _ hji,←vQ fr v u a2];exact hK
theorem xd{Q:(Nat->EV)->List PO->Prop}:∀(l:List Oper)(k:Nat)(listed:Array Bool)(fr:Nat->EV)(mem:List PO),C mem->Closd md L (fun i=>listed.getD i false)->(∀(j:Nat),l[j]?=L.toArray[k+j]?)->
  Region.lexFrom md L.toArray l.length k listed=true->xe md L hows l.length k listed=true->wt P G L.toArray C hows Q k l fr mem->xb P G md L.toArray C hows Q l.length listed fr mem
 |[],_,_,_,_,_,_,_,hB,_,h=>⟨by simpa[Region.lexFrom]using hB,h⟩
 |o::l,k,listed,fr,mem,hC,hcl,hl,hB,hM,h=>by
  have h0:L.toArray[k]?=some o:=by simpa using(hl 0).symm
  simp only[List.length_cons,Region.lexFrom,zLa]at hB;simp only[List.length_cons,xe,zLa]at hM;obtain⟨⟨hr,hf⟩,hB'⟩:=hB;obtain⟨hm,hM'⟩:=hM;simp only[wt]at h;obtain⟨e,m1,hs,hK⟩:=h;have hr':k∈Region.ready md L.toArray listed:=by simpa using hr
  exact iU h0 l.length listed fr mem m1 hC hcl (fun j oj hj hji hun hno hna=>⟨Region.free_spec h0 hf j oj hj hji hun hno,iY hm (by have:=(zLr.1 hj).1;simpa using this) hji hun hna⟩) hr' hs
   (xd l (k+1) _ _ m1 (hs.inC hC) (hcl.set hr') (fun j=>by have:=hl (j+1);simpa[Nat.add_assoc,Nat.add_comm 1 j]using this) hB' hM' hK)
theorem bw(l:List Oper)(N:Nat):Closd md l (fun i=>(Array.replicate N false).getD i false):=fun i oi _ hsi=>by
 simp only[zLw,Array.getElem?_replicate]at hsi;split at hsi<;>cases hsi
variable{st:ASt}
theorem ue{α:Type}{l:List α}{o:α}(h:l.drop N=[o]):l=l.take N++[o]/\(l.take N).length=N:=by
 have h1:l.take N++l.drop N=l:=List.take_append_drop N l;rw[h]at h1;refine⟨h1.symm,?_⟩;have h2:=zLz List.length h;rw[List.length_drop,List.length_singleton]at h2;rw[List.length_take];omega
theorem Ap{r:Option Nat}{id:Nat}{Q:Exit->ASt->Prop}(N k:Nat)(hL:L.drop N=[o])(C:List PO->Prop)(hows:Nat->How)(hm:P.follows .mixedOrders=true)(hl:lastB .any (L.take N) o k=true)
  (hB:Region.lexB .any (L.take N).toArray=true) (hn:jl (L.take N).toArray st.n=true) (hM:xe .any (L.take N) hows (L.take N).length 0 (Array.replicate (L.take N).length false)=true) (hC:C st.mem)
  (h:wt P G (L.take N).toArray C hows (fun fr mem=>qq (r:=r) P G [o].toArray [o] ⟨st.n,fr,mem⟩ Q) 0 (L.take N) st.fr st.mem):qp (r:=r) P G (.region id L.toArray true) st Q:=by
 obtain⟨e1,e2⟩:=ue hL;generalize L.take N=l at*;subst e1;intro w0 ok0 a w hG hok hs
 have hgo:o.guard=none:=by
  simp only[lastB,zLa]at hl;exact Option.isNone_iff_eq_none.1 hl.1.2
 simp only[Region.lexB,zLa]at hB;refine wpIn_region_any hm ?_
 have hs':Sit w0 ok0 st a {w with drawn:=w.drawn+1}:=by
  obtain⟨h0,h1,h2,ok,bs,h3,h4,h5,h6⟩:=hs;have hb:Below w.heap.size w w.drew:=(Below.refl _ _).drew;refine⟨h0,h1.keep (.of_below hb),q9 h2 h2.size hb,okN ok w w.drew,bs,fun b hb=>.inl (h3 b hb),fun b hb=>?_,h5.grow hb,h6.map fun _ _ h=>h.grow h5.lt hb⟩;rcases hb with hb|hb
  ·exact h4 b hb
  ·exact .inr (zL6 h2.size hb.1)
 have hsz:(l++[o]).toArray.size=l.length+1:=sI;rw[hsz,show Array.replicate (l.length+1) false=(Array.replicate l.length false).push false by rw[Array.replicate_succ]];refine FC hl Y l.length (Array.replicate l.length false) a _ sI (bw l _) ?_;refine jB (G:=G) (C:=C) (hows:=hows) (n:=st.n) (Q:=fun fr mem=>qq (r:=r) P G [o].toArray [o] ⟨st.n,fr,mem⟩ Q) hG hok hn (fun fr mem a w hs hq=>?_) _ _ st.fr st.mem a _ hC hs' ?_
 ·have h1:=hq w0 ok0 a w hG hok hs;show wpOpIn _ _ _ _ _ _ _ _ _;unfold wpOpIn;rw[show(l++[o]).toArray[l.length]?=some o by simp];simp only[wpListIn]at h1;rw[zLc (by simp[Region.wanted,hgo])]at h1;simp only;rw[zLc (by simp[Region.wanted,hgo])];exact h1
 ·have hB2:Region.lexFrom .any l.toArray l.length 0 (Array.replicate l.length false)=true:=by simpa using hB.2
  exact xd (md:=.any) (hows:=hows) l 0 (Array.replicate l.length false) st.fr st.mem hC (bw l _) sI hB2 hM h
variable{ops:Array Oper}
end
structure RS(ok:Nat->Prop)(n:Nat)(fr:Nat->EV)(a:Act)(w:World):Prop where
 size:a.tmps.size=n
 dfs:a.defers=[]
 lt:∀b,ok b->b<w.heap.size
 fits:∀t,FitsE ok w [] [] (fr t) (a.tmps.getD t undef)
theorem RS.mok{n:Nat}(h:RS ok n fr a w):MemOK w.heap.size ok w [] []:=⟨rfl,h.lt,sI,sI,sI,sI⟩
theorem Dfs.none{ds:List Deferred}{B:Nat}(h:Dfs false w0 w tm ds B []):ds=[]:=by
 cases ds with
 |nil=>rfl
 |cons d ds=>
  simp only[Dfs]at h;rcases h with⟨h,_⟩|⟨t,l',e,_⟩
  ·cases h
  ·cases e
theorem Sit.rs{ok0:Nat->Prop}{n:Nat}{st:ASt}(h:Sit w0 ok0 st a w)(hn:st.n=NS.of n)(hm:st.mem=[]):
  ∃ok,(∀b,ok0 b->ok b)/\(∀b,ok b->ok0 b∨w0.heap.size<=b)/\RS ok n st.fr a w:=by
 obtain⟨s0,s1,s2,ok,bs,s3,s4,s5,s6⟩:=h;rw[hn]at s0 s1;rw[hm]at s5 s6;have hbs:bs=[]:=List.eq_nil_of_length_eq_zero s5.len;subst hbs;exact⟨ok,s3,s4,s0,s1.1.none,s5.lt,s6.1⟩
theorem RS.put{ok':Nat->Prop}{n:Nat}{x:EV}{u:Value}{dst:Option Tmp}(h:RS ok n fr a w)(hb:Below w.heap.size w w')(hk:∀b,ok b->ok' b)(hlt:∀b,ok' b->b<w'.heap.size)
  (hx:FitsE ok' w' [] [] x u) (hd:∀d,dst=some d->d<n):RS ok' n (qc fr dst x) (a.put dst u) w':=by
 refine⟨(size_put ..).trans h.size,(qZ ..).trans h.dfs,hlt,?_⟩;exact(qP (n:=NS.of n) ⟨fun t=>(h.fits t).mono hk (fun b hb'=>hb.block b (h.lt b hb')) (Turn.refl _ _),fun p hp=>by cases hp⟩ hx (fun d e=>by rw[h.size];exact hd d e)).1
section
variable{P:Program}{G:Glob}(C:Sx P G)(n:Nat)(R:(Nat->Prop)->World->Prop)
structure RGood:Prop where
 on:∀ok w,R ok w->C.On w
 okS:∀ok w,R ok w->∀x,ok x->C.okS x
 grow:∀ok ok' w w',R ok w->Below w.heap.size w w'->(∀x,ok' x->ok x∨w.heap.size<=x)->R ok' w'
def StR(ph:Ph)(fr:Nat->EV)(a:Act)(w:World):Prop:=match ph with
 | .on k=>C.V k/\∃ok,R ok w/\RS ok n fr a w
 | .off _=>∃ok,C.Off w/\RS ok n fr a w
end
section
variable{P:Program}{G:Glob}{C:Sx P G}{n:Nat}{R:(Nat->Prop)->World->Prop}{ph:Ph}{fr:Nat->EV}{Q:Exit->Ph->(Nat->EV)->Prop}{ops:Array Oper}{l:List Oper}{o:Oper}
variable{a:Act}{w:World}
theorem StR.rs(h:StR C n R ph fr a w):∃ok,RS ok n fr a w:=by
 cases ph with
 |on k=>obtain⟨_,ok,_,h⟩:=h;exact⟨ok,h⟩
 |off k=>obtain⟨ok,_,h⟩:=h;exact⟨ok,h⟩
theorem StR.g(hR:RGood C R)(h:StR C n R ph fr a w):G.holds w:=by
 cases ph with
 |on k=>obtain⟨_,ok,h,_⟩:=h;exact C.glob _ (hR.on _ _ h)
 |off k=>obtain⟨ok,h,_⟩:=h;exact C.globF _ h
theorem StR.step(hR:RGood C R){a':Act}{w':World}{fr':Nat->EV}(h:StR C n R ph fr a w)(hn:∀ok,RS ok n fr a w->∃ok',(∀b,ok' b->ok b∨w.heap.size<=b)/\RS ok' n fr' a' w')(hb:Below w.heap.size w w'):StR C n R ph fr' a' w':=by
 cases ph with
 |on k=>
  obtain⟨hv,ok,h1,h2⟩:=h;obtain⟨ok',h3,h4⟩:=hn ok h2;exact⟨hv,ok',hR.grow _ _ _ _ h1 hb h3,h4⟩
 |off k=>
  obtain⟨ok,h1,h2⟩:=h;obtain⟨ok',h3,h4⟩:=hn ok h2;exact⟨ok',C.offAb _ _ h1 hb,h4⟩
end
section
variable{P:Program}{G:Glob}{st:ASt}
theorem bS{r:Option Nat}{id:Nat}{l:List Oper}{Q:Exit->ASt->Prop}(C:List PO->Prop)(hows:Nat->How)(hm:P.follows .mixedOrders=true)(hB:Region.lexB .any l.toArray=true)(hn:jl l.toArray st.n=true)
  (hM:xe .any l hows l.length 0 (Array.replicate l.length false)=true) (hC:C st.mem)
  (h:wt P G l.toArray C hows (fun fr mem=>Q .normal ⟨st.n,fr,mem⟩) 0 l st.fr st.mem):qp (r:=r) P G (.region id l.toArray true) st Q:=by
 intro w0 ok0 a w hG hok hs;simp only[Region.lexB,zLa]at hB;refine wpIn_region_any hm ?_
 have hs':Sit w0 ok0 st a {w with drawn:=w.drawn+1}:=by
  obtain⟨h0,h1,h2,ok,bs,h3,h4,h5,h6⟩:=hs;have hb:Below w.heap.size w w.drew:=(Below.refl _ _).drew;refine⟨h0,h1.keep (.of_below hb),q9 h2 h2.size hb,okN ok w w.drew,bs,fun b hb=>.inl (h3 b hb),fun b hb=>?_,h5.grow hb,h6.map fun _ _ h=>h.grow h5.lt hb⟩;rcases hb with hb|hb
  ·exact h4 b hb
  ·exact .inr (zL6 h2.size hb.1)
 refine jB (G:=G) (C:=C) (hows:=hows) (n:=st.n) (Q:=fun fr mem=>Q .normal ⟨st.n,fr,mem⟩) hG hok hn (fun fr mem a w hs hq=>⟨_,hs,hq⟩) _ _ st.fr st.mem a _ hC hs' ?_;have hB2:Region.lexFrom .any l.toArray l.length 0 (Array.replicate l.length false)=true:=by simpa using hB.2
 have:=xd (md:=.any) (hows:=hows) l 0 (Array.replicate l.length false) st.fr st.mem hC (bw l _) sI hB2 hM h;simpa using this
end
theorem wF{k:List Item}:_root_.Go.step P (lone (b.atR a (.code (.scope c)::k)) cs w)=.next (lone (b.atR a (.code c::.inScope c::k)) cs w):=
 step_lone_go (by simp[stepG,stepG.exec,Frame.atR])
theorem iR{k:List Item}:_root_.Go.step P (lone (b.atR a (.inScope c::k)) cs w)=.next (lone (b.atR a k) cs w):=
 step_lone_go (by simp[stepG,stepG.exec,Frame.atR])
theorem au{F:Fence}{n:Nat}{Q:Exit->Act->World->Prop}(h:c.wpIn F n P (Exit.noGoto Q) a w):(Code.scope c).wpIn F n P Q a w:=by
 intro b k cs hro hb hr;have h0:(lone (b.atR a (.code (.scope c)::k)) cs w).fenced P F:=fenced_calm hb hr rfl;obtain⟨e,a₁,w₁,hq,harr⟩:=h b (.inScope c::k) cs hro hb hr;cases e with
 |normal=>exact⟨.normal,a₁,w₁,hq,.head h0 wF (StepsIn.trans harr (.one (fenced_calm hb hr rfl) iR))⟩
 |exit id=>
  have hx:exitTo id (.inScope c::k)=exitTo id k:=by simp[exitTo]
  exact⟨.exit id,a₁,w₁,hq,fun k' hk=>.head h0 wF (harr.1 k' (by rw[hx];exact hk)),
   fun hr' hk=>let⟨k₁,h1,h2⟩:=harr.2 hr' (by rw[hx];exact hk);⟨k₁,h1,.head h0 wF h2⟩⟩
 |goto l=>exact hq.elim
 |ret=>exact⟨_,a₁,w₁,hq,.of_steps (.one h0 wF) harr⟩
 |panic ch=>exact⟨_,a₁,w₁,hq,.of_steps (.one h0 wF) harr⟩
 |outgrown=>exact⟨_,a₁,w₁,hq,.of_steps (.one h0 wF) harr⟩
section
variable{r:Option Nat}{P:Program}{G:Glob}{st:ASt}{Q:Exit->ASt->Prop}
def HO(Q:Exit->ASt->Prop):Exit->ASt->Prop
 | .goto _,_=>False
 |e,s=>Q e s
theorem Q9(h:Q .ret st):HO Q .ret st:=h
theorem Fp{c:Code}(h:qp (r:=r) P G c st (HO Q)):qp (r:=r) P G (.scope c) st Q:=fun w0 ok0 a w hG hok hs=>
 au (wpIn_mono (h w0 ok0 a w hG hok hs) fun e a w ⟨s,hs,hq⟩=>by
  cases e<;>first|exact⟨s,hs,hq⟩|exact hq.elim)
theorem wU{ops:Array Oper}{l:List Oper}{st':ASt}(hw:Weak st st')(h:qq (r:=r) P G ops l st' Q):qq (r:=r) P G ops l st Q:=fun w0 ok0 a w hG hok hs=>h w0 ok0 a w hG hok (hw w0 ok0 a w hs)
variable{F:Fence}{n:Nat}{md:Region.Mode}
end
section
variable{P:Program}{G:Glob}{C:Cx P G}{ph:Ph}{st:ASt}{Q:Exit->Ph->ASt->Prop}
end
end Go.Av
namespace Go.Av
def ltL:List Int->List Int->Bool
 |[],[]=>false
 |[],_::_=>true
 |_::_,[]=>false
 |a::as,b::bs=>if a=b then ltL as bs else decide (a<b)
def cmpL:List Int->List Int->Int
 |[],[]=>0
 |[],_::_=>-1
 |_::_,[]=>1
 |a::as,b::bs=>if a<b then -1 else if b<a then 1 else cmpL as bs
theorem og:∀(a b:List Int),decide (cmpL a b<0)=ltL a b
 |[],[]=>rfl
 |[],_::_=>rfl
 |_::_,[]=>rfl
 |a::as,b::bs=>by
  simp only[cmpL,ltL]
  by_cases h1:a<b
  ·have:¬a=b:=oM;simp[h1,this]
  ·by_cases h2:b<a
   ·have:¬a=b:=oM;simp[h1,h2,this]
   ·have:a=b:=oM;subst this;simpa using og as bs
theorem aY:∀a:List Int,ltL a a=false
 |[]=>rfl
 |a::as=>by simpa[ltL]using aY as
theorem di:∀{a b:List Int},ltL a b=false->ltL b a=false->a=b
 |[],[],_,_=>rfl
 |[],_::_,h,_=>by simp[ltL]at h
 |_::_,[],_,h=>by simp[ltL]at h
 |a::as,b::bs,h1,h2=>by
  simp only[ltL]at h1 h2
  by_cases h:a=b
  ·subst h;simp only[if_true]at h1 h2;rw[di h1 h2]
  ·rw[zLy h]at h1;rw[zLy (fun e=>h e.symm)]at h2;simp only[decide_eq_false_iff_not]at h1 h2;omega
theorem xK:∀{a b c:List Int},ltL a b=true->ltL b c=true->ltL a c=true
 |[],[],_,h,_=>by simp[ltL]at h
 |_::_,[],_,h,_=>by simp[ltL]at h
 |_,_::_,[],_,h=>by simp[ltL]at h
 |[],_::_,_::_,_,_=>rfl
 |a::as,b::bs,c::cs,h1,h2=>by
  simp only[ltL]at h1 h2⊢
  by_cases e1:a=b
  ·subst e1;rw[zLc rfl]at h1
   by_cases e2:a=c
   ·subst e2;rw[zLc rfl]at h2⊢;exact xK h1 h2
   ·rw[zLy e2]at h2⊢;exact h2
  ·rw[zLy e1]at h1;simp only[zLd]at h1
   by_cases e2:b=c
   ·subst e2;rw[zLy e1];simpa using h1
   ·rw[zLy e2]at h2;simp only[zLd]at h2;rw[zLy oM];simp only[zLd];omega
variable{a b:List Int}{l:List (List Int)}
theorem Di(h:ltL a b=true):ltL b a=false:=by
 cases hb:ltL b a with
 |false=>rfl
 |true=>have:=xK h hb;rw[aY]at this;cases this
theorem iF{c:List Int}(h1:ltL a b=false)(h2:ltL b c=false):ltL a c=false:=by
 cases h:ltL a c with
 |false=>rfl
 |true=>
  -- b <= a < c, so b < c
  cases hb:ltL b a with
  |true=>rw[xK hb h]at h2;cases h2
  |false=>have:=di h1 hb;subst this;rw[h]at h2;cases h2
def vJ(l:List (List Int)):Prop:=l.Pairwise fun a b=>ltL b a=false
theorem xl:∀{l l':List (List Int)},l.Perm l'->vJ l->vJ l'->l=l'
 |[],l',hp,_,_=>(List.nil_perm.1 hp).symm
 |a::as,[],hp,_,_=>by have:=hp.length_eq;simp at this
 |a::as,b::bs,hp,h1,h2=>by
  have ha:a∈b::bs:=hp.mem_iff.1 (zL1 ..);have hb:b∈a::as:=hp.mem_iff.2 (zL1 ..)
  have e:a=b:=by
   rcases List.mem_cons.1 ha with rfl|ha
   ·rfl
   rcases List.mem_cons.1 hb with rfl|hb
   ·rfl
   exact di ((List.pairwise_cons.1 h2).1 a ha) ((List.pairwise_cons.1 h1).1 b hb)
  subst e;rw[xl (List.Perm.cons_inv hp) (List.pairwise_cons.1 h1).2 (List.pairwise_cons.1 h2).2]
def leL(a b:List Int):Bool:=!ltL b a
def sortL(l:List (List Int)):List (List Int):=l.mergeSort leL
theorem yp(l:List (List Int)):(sortL l).Perm l:=List.mergeSort_perm l leL
theorem cC(l:List (List Int)):vJ (sortL l):=by
 have:=List.pairwise_mergeSort (le:=leL) (fun a b c h1 h2=>by
  simp only[leL,Bool.not_eq_true']at*;exact iF h2 h1) (fun a b=>by
  simp only[leL,Bool.or_eq_true,Bool.not_eq_true'];cases h:ltL b a with
  |false=>exact .inl rfl
  |true=>exact .inr (Di h)) l
 refine this.imp fun h=>?_;simpa[leL]using h
theorem FO{d:List (List Int)}(hp:d.Perm l)(hs:vJ d):d=sortL l:=xl (hp.trans (yp l).symm) hs (cC l)
theorem BN{m:List Int}:m∈sortL l↔m∈l:=(yp l).mem_iff
def j3:Nat->(Nat->Int)->Int
 |0,_=>0
 |n+1,f=>j3 n f+f n
theorem DG(n:Nat):j3 n (fun _=>0)=0:=by induction n with|zero=>rfl|succ n ih=>simp[j3,ih]
theorem Ek(n:Nat)(f g:Nat->Int):j3 n (fun i=>f i+g i)=j3 n f+j3 n g:=by induction n with|zero=>rfl|succ n ih=>simp only[j3,ih];omega
theorem BR(a b:Nat)(f:Nat->Nat->Int):j3 a (fun i=>j3 b (fun j=>f i j))=j3 b (fun j=>j3 a (fun i=>f i j)):=by
 induction a with
 |zero=>simp[j3,DG]
 |succ a ih=>simp only[j3];rw[ih,Ek]
end Go.Av
namespace Go.Proofs
end Go.Proofs
namespace Go.Av
open Go.RowKit
def HoldsI(w:World)(a:Option Addr)(m:List Int):Prop:=m.length<=maxLen/\(0<m.length->∃b off,a=some ⟨b,off,none⟩/\∀j(h:j<m.length),w.cell? ⟨b,off+j,none⟩=some (.int .i64 m[j]))
def N9(P:Program)(g:FuncId):Prop:=∀(w:World)(a a':Option Addr)(c c':Nat)(m m':List Int),HoldsI w a m->HoldsI w a' m'->
 Calls P g #[.slice a m.length c,.slice a' m'.length c'] w fun e w'=>e=.returned (.int .i64 (cmpL m m'))/\w'=w
def nums(m:List Int):AV:=.sl (m.map fun n=>[AV.v (.int .i64 n)])
section
variable{P:Program}{G:Glob}{st:ASt}{o:Oper}
variable{ok:Nat->Prop}{w:World}
theorem cP{m:List Int}{u:Value}(h:Fits ok w (nums m) u):∃(a:Option Addr)(c:Nat),u=.slice a m.length c/\HoldsI w a m/\(0<m.length->∃b off,a=some ⟨b,off,none⟩/\ok b):=by
 unfold nums at h;simp only[Fits,zL8]at h;obtain⟨a,c,size,e,h1,h2,h3,h4⟩:=h;refine⟨a,c,e,⟨zL6 h1 h2,fun hn=>?_⟩,fun hn=>?_⟩
 ·obtain⟨b,off,ea,hb,hr⟩:=h4 hn;refine⟨b,off,ea,fun j hj=>?_⟩
  have hsz:size=1:=by
   have:=h3 [AV.v (.int .i64 m[0])] (zLj.2 ⟨m[0],zLm hn,rfl⟩);simpa using this.symm
  subst hsz;have:=FitsR.get (i:=j) (r:=[AV.v (.int .i64 m[j])]) hr h3 (by simp[hj]);simp only[FitsC,Fits,Nat.mul_one]at this;obtain⟨⟨u,h5,_,h6,_⟩,_⟩:=this;rw[h5,h6]
 ·obtain⟨b,off,ea,hb,hr⟩:=h4 hn;exact⟨b,off,ea,hb⟩
theorem HoldsI.same{w':World}{a:Option Addr}{m:List Int}(h:HoldsI w a m)(hok:0<m.length->∃b off,a=some ⟨b,off,none⟩/\ok b)(hw:∀b,ok b->w'.heap[b]?=w.heap[b]?):HoldsI w' a m:=by
 refine⟨h.1,fun hn=>?_⟩;obtain⟨b,off,e,hc⟩:=h.2 hn;obtain⟨b',off',e',hb⟩:=hok hn;rw[e]at e';injection e' with e'
 injection e' with e1 e2 e3
 subst e1;exact⟨b,off,e,fun j hj=>by rw[World.cell?_of_block (w:=w) (hw b hb)];exact hc j hj⟩
end
end Go.Av
namespace Go.Av
open Go.RowKit
def NCall(P:Program)(f:FuncId)(args:List AV)(r:AV):Prop:=
 Enters P f/\∀(w:World)(vs:List Value),FitsL (fun b=>b<w.heap.size) w args vs->Calls P f vs.toArray w fun e w'=>∃u,e=.returned u/\Below w.heap.size w w'/\Fits (fun b=>w.heap.size<=b/\b<w'.heap.size) w' r u
section
variable{P:Program}{G:Glob}{fr:Nat->EV}{mem:List PO}{o:Oper}
variable{f:FuncId}{T:TypeId}
theorem IV{args:Array Operand}{tys:Array TypeId}{av:List AV}{r:AV}(ho:o.op=.call {callee:=.value (.func f),args:=args,argTypes:=tys})
  (hav:AN mem fr args.toList av) (hc:NCall P f av r):OpY P G fr mem o (.pub r):=by
 intro n ok bs w a hG hn hm hfit K Q hK;have hl:av.length=args.size:=by simpa using(vV hav).1
 have h4:FitsL (fun b=>b<w.heap.size) w av (args.toList.map a.eval):=FitsL.of_get (by simp[hl]) fun i x u hx hu=>by
  have hi:i<args.size:=by have:=(zLg hx).1;omega
  have hy:args[i]?=some args[i]:=zL5 hi;have hv:=(vV hav).2 i args[i] x sI hx
  have hu':u=a.eval args[i]:=by
   simp[hi]at hu;exact hu.symm
  rw[hu'];exact eV hm (fun b hb=>hm.lt b hb) (fun b _ hb=>hb) (hfit _ (by simp only[ho,Op.operands,Call.operands,Array.mem_append];exact .inr (Array.getElem_mem hi))) hv
 unfold Oper.wp;rw[jt (us:=[]) (vs:=[]) ho hc.1 rfl];simp only[Oper.upon];refine(hc.2 w _ (by simpa using h4)).mono fun en w' ⟨u,h5,h6,h7⟩=>?_;subst h5;refine hK u w' h6 ?_;simp only[FitsE];exact h7.mono (fun b hb=>.inr hb) (fun _ _=>rfl)
theorem NCall.call{args:List AV}{r:AV}(h:NCall P f args r):ACall P G f args r:=
 ⟨h.1,fun ok w vs _ hok hf=>(h.2 w vs (hf.mono (fun b hb=>hok b hb) (fun _ _=>rfl))).mono fun _ _⟨u,h1,h2,h3⟩=>⟨u,h1,h2,h3.mono (fun b hb=>.inr hb) (fun _ _=>rfl)⟩⟩
theorem lB{w w':World}{v:Value}{m:List Int}(h:w'.ownsRow w.heap.size T 1 v m.length (m.map (Value.int .i64)))(hm:m.length<=maxLen):Fits (fun b=>w.heap.size<=b/\b<w'.heap.size) w' (nums m) v:=by
 unfold nums;simp only[Fits,zL8];obtain⟨_,⟨rfl,h0⟩|⟨g,cap,cur,rfl,h1,h2,h3,h4,h5,h6⟩⟩:=h
 ·exact⟨none,0,1,by rw[h0],oM,by unfold maxLen;omega,sI,fun hn=>oM⟩
 ·refine⟨_,cap,1,Y,h3,h4,sI,fun hn=>⟨g,0,Y,⟨h1,(zLr.1 h2).1⟩,FitsR.of_get (size:=1) sI fun i r hr=>?_⟩⟩;have hi:i<m.length:=by have:=(zLg hr).1;simpa using this
  have e:r=[AV.v (.int .i64 m[i])]:=by
   rw[zLq,zLe hi]at hr;simpa using hr.symm
  subst e;simp only[FitsC,Fits,and_true];refine⟨.int .i64 m[i],?_,Y,Y,Y⟩;have h7:(cur.toList.take (m.length*1))[i]?=some (.int .i64 m[i]):=by rw[h6];simp[hi]
  rw[zLx,zLc oM]at h7;simp only[World.cell?,h2,Nat.zero_add,Nat.mul_one];simpa using h7
theorem F6(he:Enters P f)
  (h1:∀(b off n c:Nat)(zs:List Int)(w:World),n<=zs.length->n*8<=140737488355328->(∀j,j<zs.length->w.cell? ⟨b,off+j,none⟩=some (.int .i64 (zs.getD j 0)))->
   Calls P f #[.slice (some ⟨b,off,none⟩) n c] w fun e w'=>∃v',e=.returned v'/\w'.ownsRow w.heap.size T 1 v' n ((zs.take n).map (Value.int .i64))/\v'≠ .slice none 0 0/\Below w.heap.size w w')
  (h2:∀(a:Addr)(c:Nat)(w:World),Calls P f #[.slice (some a) 0 c] w fun e w'=>∃v',e=.returned v'/\w'.ownsRow w.heap.size T 1 v' 0 []/\v'≠ .slice none 0 0/\Below w.heap.size w w')
  (h3:∀(n c:Nat)(w:World),Calls P f #[.slice none n c] w fun e w'=>e=.returned (.slice none 0 0)/\w'=w) (m:List Int) (hm:m.length<=1000000):NCall P f [nums m] (nums m):=by
 refine⟨he,fun w vs hf=>?_⟩;simp only[FitsL]at hf;obtain⟨u,us,rfl,hu,rfl⟩:=hf;obtain⟨a,c,rfl,hh,_⟩:=cP hu;have hml:m.length<=maxLen:=hh.1;cases m with
 |nil=>
  cases a with
  |none=>exact(h3 0 c w).mono fun e w' ⟨e1,e2⟩=>⟨_,e1,e2▸Below.refl _ _,by
    unfold nums;simp only[Fits];exact⟨none,0,1,rfl,sI,by unfold maxLen;omega,sI,fun hn=>absurd hn sI⟩⟩
  |some a=>exact(h2 a c w).mono fun e w' ⟨v,e1,e2,_,e3⟩=>⟨v,e1,e3,lB (m:=[]) e2 sI⟩
 |cons x m=>
  obtain⟨b,off,rfl,hc⟩:=hh.2 sI;exact(h1 b off _ c (x::m) w (zLl _) (by simp only[List.length_cons]at*;omega) (fun j hj=>by rw[hc j hj];simp[zLv,zLe hj])).mono fun e w' ⟨v,e1,e2,_,e3⟩=>⟨v,e1,e3,lB (m:=x::m) (by rwa[zLk (zLl _)]at e2) hml⟩
end
end Go.Av
end
