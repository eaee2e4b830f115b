import Derived.Test.YtigbomcjnlikjaaGreatDoorPlatA
import Derived.Deep.Slices
import Derived.ChangeSame
import Derived.Carry
import Derived.RowKit
import Derived.LaidSub
import Derived.MakeChecks
import Derived.ProofKit
set_option linter.unusedVariables false
set_option linter.unusedSimpArgs false
set_option maxRecDepth 100000
set_option maxHeartbeats 9000000
section
namespace Go.Av
open Go.RowKit
def Enters(P:Program)(f:FuncId):Prop:=∃fn,P.funcs[f]?=some fn/\(fn.name== "runtime.NumGoroutine")=false/\fn.body.isNone=false
def ACall(P:Program)(G:Glob)(f:FuncId)(args:List AV)(r:AV):Prop:=
 Enters P f/\∀(ok:Nat->Prop)(w:World)(vs:List Value),G.holds w->(∀b,ok b->b<w.heap.size)->FitsL ok w args vs->
  Calls P f vs.toArray w (fun e w'=>∃u,e=.returned u/\Below w.heap.size w w'/\Fits (okN ok w w') w' r u)
def AVle(x y:AV):Prop:=∀(ok:Nat->Prop)(w:World)(u:Value),Fits ok w x u->Fits ok w y u
theorem AVle.refl(x:AV):AVle x x:=fun _ _ _ h=>h
theorem AVle.of{x y:AV}(h:x=y):AVle x y:=h▸AVle.refl x
theorem AVle.top(x:AV):AVle x .top:=fun _ _ _ _=>by simp only[Fits]
theorem AVle.nil:AVle (.v (.slice none 0 0)) (.sl []):=fun ok w u h=>by
 simp only[Fits]at h⊢;exact⟨none,0,0,h.1,sI,by simp[maxLen],sI,sI⟩
def AVleL:List AV->List AV->Prop
 |[],ys=>ys=[]
 |x::xs,ys=>∃y ys',ys=y::ys'/\AVle x y/\AVleL xs ys'
theorem AVleL.fits{ok:Nat->Prop}{w:World}:∀{xs ys:List AV}{us:List Value},AVleL xs ys->FitsL ok w xs us->FitsL ok w ys us
 |[],ys,us,h,hf=>by simp only[AVleL]at h;subst h;exact hf
 |x::xs,ys,us,h,hf=>by
  simp only[AVleL]at h;obtain⟨y,ys',rfl,h1,h2⟩:=h;simp only[FitsL]at hf⊢;obtain⟨u,us',e,h3,h4⟩:=hf;exact⟨u,us',e,h1 ok w u h3,AVleL.fits h2 h4⟩
variable{xs ys:List AV}
theorem AVle.agg(h:AVleL xs ys):AVle (.agg xs) (.agg ys):=fun ok w u hf=>by
 simp only[Fits]at hf⊢;obtain⟨vs,e,h1,h2⟩:=hf;exact⟨vs,e,h1,h.fits h2⟩
theorem AVle.tup(h:AVleL xs ys):AVle (.tup xs) (.tup ys):=fun ok w u hf=>by
 simp only[Fits]at hf⊢;obtain⟨vs,e,h2⟩:=hf;exact⟨vs,e,h.fits h2⟩
theorem ACall.sub{P:Program}{G:Glob}{f:FuncId}{args args':List AV}{r r':AV}(h:ACall P G f args' r')(ha:AVleL args args')(hr:AVle r' r):ACall P G f args r:=
 ⟨h.1,fun ok w vs hG hok hf=>(h.2 ok w vs hG hok (ha.fits hf)).mono fun _ _⟨u,e,hb,hu⟩=>⟨u,e,hb,hr _ _ _ hu⟩⟩
def kh(mem:List PO):EV->AV->Prop
 | .pub x,y=>AVle x y
 | .psl l n,y=>∃rows:List (List AV),mem[l]?=some (.row (rows.map (·.map .pub)))/\rows.length=n/\y=.sl rows
 | .pp _ _ _ _,_=>False
 | .ppT _ _ _,_=>False
 | .pslT _ _ _,_=>False
 | .fnm ..,y=>y=.top
 | .mpv _,y=>y=.top
 | .tpl _,y=>y=.top
 | .mix cs,y=>∃ys:List AV,y=.agg ys/\ys.length=cs.length/\∀(i:Nat)(c:EV)(z:AV),cs[i]?=some c->ys[i]?=some z->
   ((∃z0,c=.pub z0/\AVle z0 z)∨(∃(l n:Nat)(rows:List (List AV)),c=.psl l n/\mem[l]?=some (.row (rows.map (·.map .pub)))/\rows.length=n/\z=.sl rows)∨z=.top)
section
variable{ok ok':Nat->Prop}{w:World}{bs:List PB}{mem:List PO}
variable{u:Value}
theorem fp{n:Nat}(hmo:MemOK n ok w bs mem)(hk:∀b,ok b->ok' b)(hp:∀b,n<=b->b<w.heap.size->ok' b){l k:Nat}{rows:List (List AV)}(h:FitsE ok w bs mem (.psl l k) u)
  (hm:mem[l]?=some (.row (rows.map (·.map .pub)))) (hn:rows.length=k):Fits ok' w (.sl rows) u:=by
 simp only[FitsE]at h;obtain⟨b,hb,h⟩:=h;have e:=(h _ hm).2 (by simpa using hn);have hr:=hmo.row l b _ hb hm;simp only[Fits];cases hg:b.blk with
 |none=>
  have h0:=hr.nil hg;have h1:rows=[]:=by simpa using h0
  subst h1;simp only[PB.sl,hg]at e;subst e;exact⟨none,0,0,Y,sI,by simp[maxLen],sI,sI⟩
 |some g=>
  obtain⟨cur,hc,h1,h2,h3,h4⟩:=hr.blk g hg;simp only[PB.sl,hg]at e;subst e
  have hsz:∀r∈rows,r.length=b.size:=fun r hr'=>by
   have:=hr.size (r.map .pub) (List.mem_map_of_mem hr');simpa using this
  refine⟨_,b.cap,b.size,by rw[hn],by simpa using h2,h3,hsz,fun _=>⟨g,0,Y,hp g (hmo.own l b _ g hb hm hg).1 (hmo.own_lt hb hm hg),FitsR.of_get hsz fun i r hri=>FitsC.of_get fun j x hx=>?_⟩⟩;obtain⟨u,h5,h6,h7⟩:=h4 i j (r.map .pub) (.pub x) (by simp[hri]) (by simp[hx]);refine⟨u,?_,h6,?_⟩
  ·rw[cell_of_row w g _ cur _ _ hc];simpa using h5
  ·simp only[FitsE]at h7;exact h7.mono hk (fun _ _=>rfl)
theorem eV{n:Nat}(hmo:MemOK n ok w bs mem)(hk:∀b,ok b->ok' b)(hp:∀b,n<=b->b<w.heap.size->ok' b){e:EV}{x:AV}(h:FitsE ok w bs mem e u)(hv:kh mem e x):Fits ok' w x u:=by
 cases e with
 |pub y=>
  simp only[kh]at hv;simp only[FitsE]at h;exact hv _ _ _ (h.mono hk (fun _ _=>rfl))
 |psl l k=>
  obtain⟨rows,hm,hn,rfl⟩:=hv;exact fp hmo hk hp h hm hn
 |pp l k i j=>exact hv.elim
 |ppT l k T=>exact hv.elim
 |pslT l k T=>exact hv.elim
 |fnm f fs cs=>simp only[kh]at hv;subst hv;simp only[Fits]
 |mpv l=>simp only[kh]at hv;subst hv;simp only[Fits]
 |tpl cs=>simp only[kh]at hv;subst hv;simp only[Fits]
 |mix cs=>
  obtain⟨ys,rfl,hl,hz⟩:=hv;simp only[FitsE]at h;obtain⟨vs,rfl,h1,h2⟩:=h;simp only[Fits];refine⟨vs,Y,h1,FitsL.of_get (by rw[h2.length,hl]) fun i y v hy hv=>?_⟩;have hi:i<cs.length:=by have:=(zLg hy).1;omega
  obtain⟨v',hv',hf⟩:=h2.get (zLe hi);rw[hv]at hv';injection hv' with hv'
  subst hv';rcases hz i cs[i] y (zLe hi) hy with⟨z0,hc,hle⟩|⟨l,k,rows,hc,hm,hn,rfl⟩|rfl
  ·rw[hc]at hf;simp only[FitsE]at hf;exact hle _ _ _ (hf.mono hk (fun _ _=>rfl))
  ·rw[hc]at hf;exact fp hmo hk hp hf hm hn
  ·simp only[Fits]
end
def AV.flat:AV->Bool
 | .v _=>true
 | .top=>true
 | .tup l=>l.all fun| .v _=>true| .top=>true|_=>false
 | .agg l=>l.all fun| .v _=>true| .top=>true|_=>false
 |_=>false
section
variable{ok ok':Nat->Prop}{w w':World}
theorem HI:∀{l:List AV}{us:List Value},(l.all fun| .v _=>true| .top=>true|_=>false)=true->FitsL ok w l us->FitsL ok' w' l us
 |[],us,_,h=>by simpa only[FitsL]using h
 |x::xs,us,hf,h=>by
  simp only[List.all_cons,zLa]at hf;simp only[FitsL]at h⊢;obtain⟨u,us',e,h1,h2⟩:=h;refine⟨u,us',e,?_,HI hf.2 h2⟩;cases x with
  |v x=>simpa only[Fits]using h1
  |top=>simp only[Fits]
  |_=>exact absurd hf.1 sI
variable{u:Value}{f:FuncId}{fop:Operand}{args:Array Operand}{tys:Array TypeId}{av cs fs:List AV}{r:AV}{fn:Func}
theorem ak{x:AV}(hf:x.flat=true)(h:Fits ok w x u):Fits ok' w' x u:=by
 cases x with
 |v x=>simpa only[Fits]using h
 |top=>simp only[Fits]
 |tup l=>
  simp only[Fits]at h⊢;obtain⟨vs,e,h⟩:=h;exact⟨vs,e,HI hf h⟩
 |agg l=>
  simp only[Fits]at h⊢;obtain⟨vs,e,h1,h⟩:=h;exact⟨vs,e,h1,HI hf h⟩
 |_=>exact absurd hf (by simp[AV.flat])
variable{P:Program}{G:Glob}{fr:Nat->EV}{mem:List PO}{o:Oper}
theorem enter_run(he:Enters P f)(args:Array Value)(w:World):(callFunc f args).run P w=.ok (.enter f args) w:=by
 obtain⟨fn,h1,h2,h3⟩:=he;have h2':¬fn.name= "runtime.NumGoroutine":=by simpa using h2
 have h3':¬fn.body=none:=fun e=>by simp[e]at h3
 unfold callFunc;simp[h1,h2',h3']
theorem jt{us vs:List Value}(ho:o.op=.call {callee:=.value fop,args:=args,argTypes:=tys})(he:Enters P f){a:Act}{w:World}
  (hf:a.eval fop=.func (.func f) us.toArray vs.toArray):(execOp a.eval o).run P w=.ok (.enter f (us++args.toList.map a.eval++vs).toArray) w:=by
 simp only[execOp,ho,resolve,hf,Deferred.ofValue,invoke,Sem.run_bind,Sem.run_pure,Result.andThen_ok,enter_run he];congr 2;apply Array.toList_inj.1;simp
theorem m9(ho:o.op=.call {callee:=.value fop,args:=args,argTypes:=tys})(hf:evO fr fop=.pub (.fn f fs cs))
  (ha:args.toList.map (evO fr)=av.map .pub) (hc:ACall P G f (fs++av++cs) r):OpY P G fr mem o (.pub r):=by
 intro n ok bs w a hG hn hm hfit K Q hK;have h1:=hfit fop (by simp[ho,Op.operands,Call.operands]);rw[hf]at h1;simp only[FitsE,Fits]at h1;obtain⟨us,vs,e,h2,h3⟩:=h1
 have h4:FitsL ok w av (args.toList.map a.eval):=by
  have key:∀(l:List Operand)(xs:List AV),(∀y∈l,y∈o.op.operands)->l.map (evO fr)=xs.map .pub->FitsL ok w xs (l.map a.eval):=by
   intro l
   induction l with
   |nil=>intro xs _ h;cases xs with
    |nil=>simp[FitsL]
    |cons=>simp at h
   |cons y l ih=>intro xs hm h;cases xs with
    |nil=>simp at h
    |cons x xs=>
     simp only[List.map_cons,List.cons.injEq]at h;simp only[List.map_cons,FitsL];have:=hfit y (hm y sI);rw[h.1]at this;exact⟨_,_,Y,by simpa only[FitsE]using this,ih xs (fun z hz=>hm z (by simp[hz])) h.2⟩
  exact key _ _ (fun y hy=>by simp only[ho,Op.operands,Call.operands,Array.mem_append];exact .inr (by simpa using hy)) ha
 unfold Oper.wp;rw[jt ho hc.1 e];simp only[Oper.upon];refine(hc.2 ok w _ hG hm.lt ((h2.append h4).append h3)).mono fun en w' ⟨u,h5,h6,h7⟩=>?_;subst h5;exact hK u w' h6 (by simpa only[FitsE]using h7)
theorem I8(ho:o.op=.call {callee:=.value fop,args:=args,argTypes:=tys})(hf:evO fr fop=.pub (.fn f fs cs))
  (hl:av.length=args.size) (ha:∀(i:Nat)(y:Operand)(x:AV),args[i]?=some y->av[i]?=some x->kh mem (evO fr y) x) (hr:r.flat=true) (hc:ACall P G f (fs++av++cs) r):OpY P G fr mem o (.pub r):=by
 intro n ok bs w a hG hn hm hfit K Q hK;have h1:=hfit fop (by simp[ho,Op.operands,Call.operands]);rw[hf]at h1;simp only[FitsE,Fits]at h1;obtain⟨us,vs,e,h2,h3⟩:=h1
 have h4:FitsL (fun b=>b<w.heap.size) w av (args.toList.map a.eval):=FitsL.of_get (by simp[hl]) fun i x u hx hu=>by
  have hi:i<args.size:=by have:=(zLg hx).1;omega
  have hy:args[i]?=some args[i]:=zL5 hi;have hv:=ha i args[i] x hy hx
  have hu':u=a.eval args[i]:=by
   simp[hi]at hu;exact hu.symm
  rw[hu'];exact eV hm (fun b hb=>hm.lt b hb) (fun b _ hb=>hb) (hfit _ (by simp only[ho,Op.operands,Call.operands,Array.mem_append];exact .inr (Array.getElem_mem hi))) hv
 unfold Oper.wp;rw[jt ho hc.1 e];simp only[Oper.upon];have m1:FitsL (fun b=>b<w.heap.size) w fs us:=FitsL.mono (fun b hb=>hm.lt b hb) (fun _ _=>rfl) _ _ h2;have m3:FitsL (fun b=>b<w.heap.size) w cs vs:=FitsL.mono (fun b hb=>hm.lt b hb) (fun _ _=>rfl) _ _ h3;refine(hc.2 _ w _ hG (fun b hb=>hb) ((m1.append h4).append m3)).mono fun en w' ⟨u,h5,h6,h7⟩=>?_;subst h5;refine hK u w' h6 ?_;simp only[FitsE];exact ak hr h7
def aE(fr:Nat->EV):List Operand->List AV->Prop
 |[],[]=>True
 |x::xs,c::cs=>evO fr x=.pub c/\aE fr xs cs
 |_,_=>False
theorem y4:∀{l:List Operand}{cs:List AV},aE fr l cs->l.map (evO fr)=cs.map .pub
 |[],[],_=>rfl
 |x::xs,c::cs,h=>by simp only[List.map_cons];rw[h.1,y4 h.2]
 |[],_::_,h=>h.elim
 |_::_,[],h=>h.elim
def AN(mem:List PO)(fr:Nat->EV):List Operand->List AV->Prop
 |[],[]=>True
 |x::xs,c::cs=>kh mem (evO fr x) c/\AN mem fr xs cs
 |_,_=>False
theorem vV:∀{l:List Operand}{cs:List AV},AN mem fr l cs->cs.length=l.length/\∀(i:Nat)(y:Operand)(x:AV),l[i]?=some y->cs[i]?=some x->kh mem (evO fr y) x
 |[],[],_=>⟨rfl,sI⟩
 |x::xs,c::cs,h=>⟨by simp[(vV h.2).1],fun i y z hy hz=>by
   cases i with
   |zero=>simp at hy hz;subst hy;subst hz;exact h.1
   |succ i=>exact(vV h.2).2 i y z (by simpa using hy) (by simpa using hz)⟩
 |[],_::_,h=>h.elim
 |_::_,[],h=>h.elim
theorem zi(ho:o.op=.call {callee:=.value (.func f),args:=args,argTypes:=tys})
  (ha:aE fr args.toList av) (hc:ACall P G f av r):OpY P G fr mem o (.pub r):=m9 ho rfl (y4 ha) (by simpa using hc)
theorem EL(ho:o.op=.call {callee:=.value (.func f),args:=args,argTypes:=tys})
  (ha:AN mem fr args.toList av) (hr:r.flat=true) (hc:ACall P G f av r):OpY P G fr mem o (.pub r):=
 I8 ho rfl (by simpa using(vV ha).1) (fun i y x hy hx=>(vV ha).2 i y x (by simpa using hy) hx) hr (by simpa using hc)
theorem qD(ho:o.op=.call {callee:=.value fop,args:=args,argTypes:=tys})(hf:evO fr fop=.pub (.fn f fs cs))
  (ha:aE fr args.toList av) (hc:ACall P G f (fs++av++cs) r):OpY P G fr mem o (.pub r):=m9 ho hf (y4 ha) hc
def Fq(P:Program)(mem:List PO)(T:TypeId):EV->EV->Prop
 | .pub (.ptr cs),e=>(zS P T false 1=true/\∃c,cs[0]?=some c/\e=.pub c)∨∃size,zS P T true size=true/\size<=cs.length/\e=.pub (.agg (cs.take size))
 | .pp l n i j,e=>∃rows r,mem[l]?=some (.row rows)/\rows.length=n/\rows[i]?=some r/\
   ((zS P T false 1=true/\r[j]?=some e)∨∃size,zS P T true size=true/\j+size<=r.length/\e=.mix ((r.drop j).take size))
 |_,_=>False
theorem AY{bs:List PB}{n:Nat}(hmo:MemOK n ok w bs mem){T:TypeId}{p e:EV}(h:FitsE ok w bs mem p u)(hl:Fq P mem T p e):
  ∃ad v,u=.pointer (some ad)/\(loadVar T ad).run P w=.ok v w/\FitsE ok w bs mem e v:=by
 cases p with
 |pub x=>
  cases x with
  |ptr cs=>
   simp only[FitsE,Fits]at h;obtain⟨b,off,rfl,hb,hc⟩:=h;rcases hl with⟨ht,c,h0,rfl⟩|⟨size,ht,hs,rfl⟩
   ·obtain⟨u,h1,h2,h3⟩:=hc.get h0;have h1':w.cell? ⟨b,off,none⟩=some u:=h1;exact⟨_,u,Y,by simp[loadVar,yf ht,h1'],by simpa only[FitsE]using h3⟩
   ·obtain⟨us,h1,h2,h3,h4⟩:=nh (hc.take size);have hlen:us.length=size:=by rw[h1,List.length_take];omega
    exact⟨_,_,Y,wK ht us hlen h4,by simp only[FitsE,Fits];exact⟨us,Y,h2,h3⟩⟩
  |_=>exact hl.elim
 |pp l k i j=>
  obtain⟨rows,r,hm,hn,hr,hl⟩:=hl;simp only[FitsE]at h;obtain⟨b,hb,h⟩:=h;obtain⟨g,hg,rfl⟩:=(h rows hm).2 hn;rcases hl with⟨ht,h0⟩|⟨size,ht,hs,rfl⟩
  ·obtain⟨u,h1,h2,h3⟩:=ic hmo hb hm hg hr h0;exact⟨_,u,Y,by simp[loadVar,yf ht,h1],h3⟩
  ·obtain⟨us,h1,h2,h3,h4⟩:=xH hmo hb hm hg hr size j hs;exact⟨_,_,Y,wK ht us h1 h4,by simp only[FitsE];exact⟨us,Y,h2,h3⟩⟩
 |_=>exact hl.elim
def sU(P:Program)(st:ASt):ResultVar->AV->Prop
 | .tmp t,x=>kh st.mem (st.fr t) x
 | .cell p T,x=>∃e,Fq P st.mem T (st.fr p) e/\kh st.mem e x
def mV(P:Program)(st:ASt):List ResultVar->List AV->Prop
 |[],xs=>xs=[]
 |v::vs,xs=>∃x xs',xs=x::xs'/\sU P st v x/\mV P st vs xs'
def RetE(P:Program)(fn:Func)(st:ASt)(r:AV):Prop:=match st.n.dfs with
 |[]=>match fn.results.toList with
  |[v]=>sU P st v r
  |vs=>∃xs,r=.tup xs/\mV P st vs xs
 |_=>False
theorem RetE.nil{st:ASt}(h:RetE P fn st r):st.n.dfs=[]:=by
 unfold RetE at h;split at h
 ·assumption
 ·exact h.elim
theorem RetE.get{st:ASt}(h:RetE P fn st r):match fn.results.toList with
  |[v]=>sU P st v r
  |vs=>∃xs,r=.tup xs/\mV P st vs xs:=by
 have:=h.nil;unfold RetE at h;rw[this]at h;exact h
def sD(args:List AV):Nat->EV:=fun t=>match args[t]?with
 |some x=>.pub x
 |none=>.pub .top
end
end Go.Av
namespace Go.Av
open Go.ChangeShapes Go.WideShapes Go.RowKit
def GX(P:Program):List Field->Nat->Nat->Bool
 |[],off,tot=>off==tot
 |f::fs,off,tot=>f.offset==off&&GX P fs (off+P.cellsOf f.type) tot
def ww(P:Program):Nat->TypeId->Bool
 |0,_=>false
 |n+1,t=>match P.underlying t with
  |some (.int _)=>P.cellsOf t==1
  |some .bool=>P.cellsOf t==1
  |some .string=>P.cellsOf t==1
  |some (.slice e)=>P.cellsOf t==1&&decide (0<P.cellsOf e)&&ww P n e
  |some (.struct fs)=>GX P fs.toList 0 (P.cellsOf t)&&fs.toList.all fun f=>ww P n f.type
  |_=>false
def fS(Q:TypeId->List AV->Prop):List Field->List AV->Prop
 |[],xs=>xs=[]
 |f::fs,xs=>∃a b,xs=a++b/\Q f.type a/\fS Q fs b
def qa(P:Program):Nat->TypeId->List AV->Prop
 |0,_,_=>False
 |n+1,t,xs=>match P.underlying t with
  |some (.int k)=>∃q,xs=[.v (.int k q)]/\(Lit.int k q).wf=true
  |some .bool=>∃b,xs=[.v (.bool b)]
  |some .string=>∃s,xs=[.v (.string s)]/\s.size<=maxLen
  |some (.slice e)=>∃rows,xs=[.sl rows]/\rows.length<=maxLen/\∀r∈rows,qa P n e r
  |some (.struct fs)=>fS (qa P n) fs.toList xs
  |_=>False
section
variable{P:Program}{n:Nat}{t:TypeId}{xs:List AV}
theorem lq{k:IntKind}(ht:P.underlying t=some (.int k))(h:qa P (n+1) t xs):∃q,xs=[.v (.int k q)]/\(Lit.int k q).wf=true:=by
 unfold qa at h;rw[ht]at h;exact h
theorem tt(ht:P.underlying t=some .bool)(h:qa P (n+1) t xs):∃b,xs=[.v (.bool b)]:=by
 unfold qa at h;rw[ht]at h;exact h
theorem cd(ht:P.underlying t=some .string)(h:qa P (n+1) t xs):∃s,xs=[.v (.string s)]/\s.size<=maxLen:=by
 unfold qa at h;rw[ht]at h;exact h
theorem q8{e:TypeId}(ht:P.underlying t=some (.slice e))(h:qa P (n+1) t xs):∃rows,xs=[.sl rows]/\rows.length<=maxLen/\∀r∈rows,qa P n e r:=by
 unfold qa at h;rw[ht]at h;exact h
theorem qC{fs:Array Field}(ht:P.underlying t=some (.struct fs))(h:qa P (n+1) t xs):fS (qa P n) fs.toList xs:=by
 unfold qa at h;rw[ht]at h;exact h
theorem wc{α:Type}{e:α->List AV}:∀{rows:List (List AV)},(∀r∈rows,∃s,r=e s)->∃ss:List α,rows=ss.map e
 |[],_=>⟨[],rfl⟩
 |r::rs,h=>by
  obtain⟨s,hs⟩:=h r sI;obtain⟨ss,hss⟩:=wc (e:=e) (rows:=rs) (fun q hq=>h q (by simp[hq]));exact⟨s::ss,by simp[hs,hss]⟩
theorem Az{α:Type}{Q:Nat->α->Prop}:∀(n:Nat),(∀i,i<n->∃r,Q i r)->∃l:List α,l.length=n/\∀i r,l[i]?=some r->Q i r
 |0,_=>⟨[],rfl,fun i r h=>by simp at h⟩
 |n+1,h=>by
  obtain⟨l,h1,h2⟩:=Az n (fun i hi=>h i oM);obtain⟨r,hr⟩:=h n oM;refine⟨l++[r],by simp[h1],fun i x hx=>?_⟩;rw[List.getElem?_append]at hx;split at hx
  ·exact h2 i x hx
  ·have:i-l.length=0:=by
    rcases Nat.eq_zero_or_pos (i-l.length)with h0|h0
    ·exact h0
    ·rw[List.getElem?_eq_none (by simp;omega)]at hx;cases hx
   rw[this]at hx;simp at hx;subst hx;rwa[show i=n by omega]
end
theorem cell_lt{w:World}{a:Addr}{v:Value}(h:w.cell? a=some v):a.block<w.heap.size:=by
 unfold World.cell? at h;split at h
 ·rename_i h1
  exact(zLr.1 h1).1
 ·cases h
section
variable{H:Type}{enc:TypeId × Value->H}{P:Program}{w:World}{base:Nat}{spare:Nat->Bool}{held:Bool}{ok:Nat->Prop}
variable{n:Nat}{r:Reach}{W W':World}
theorem b7{m tot:Nat}{cs:List Value}(hlen:cs.length=tot)
  (ih:∀(t:TypeId)(fuel:Nat)(cs:List Value)(x:DataW H × List MemPlace),ww P n t=true->DataW.trod enc P w base spare held fuel t cs=some x->∃xs,qa P n t xs/\FitsL ok w xs cs/\(∀u∈cs,u.oneCell'=true)/\xs.length=P.cellsOf t):
  ∀(fs:List Field)(off:Nat),GX P fs off tot=true->(fs.all fun f=>ww P n f.type)=true->(∀f∈fs,∃y,DataW.trod enc P w base spare held m f.type ((cs.drop f.offset).take (P.cellsOf f.type))=some y)->
   ∃xs,fS (qa P n) fs xs/\FitsL ok w xs (cs.drop off)/\(∀u∈cs.drop off,u.oneCell'=true)/\xs.length=tot-off/\off<=tot
 |[],off,hl,_,_=>by
  simp only[GX,beq_iff_eq]at hl;subst hl;have:cs.drop off=[]:=by simp[hlen]
  exact⟨[],Y,by rw[this];simp only[FitsL],by rw[this];simp,sI,zLl _⟩
 |f::fs,off,hl,hp,hf=>by
  simp only[GX,zLa,beq_iff_eq]at hl;simp only[List.all_cons,zLa]at hp;obtain⟨y,hy⟩:=hf f sI;rw[hl.1]at hy;obtain⟨a,a1,a2,a3,a4⟩:=ih _ _ _ _ hp.1 hy;obtain⟨b,b1,b2,b3,b4,b5⟩:=b7 hlen ih fs (off+P.cellsOf f.type) hl.2 hp.2 (fun g hg=>hf g (by simp[hg]))
  have e:cs.drop off=(cs.drop off).take (P.cellsOf f.type)++cs.drop (off+P.cellsOf f.type):=by
   rw[←List.drop_drop,List.take_append_drop]
  refine⟨a++b,⟨a,b,Y,a1,b1⟩,?_,?_,by simp[a4,b4];omega,oM⟩
  ·rw[e];exact a2.append b2
  ·rw[e];intro u hu;rcases List.mem_append.1 hu with hu|hu
   ·exact a3 u hu
   ·exact b3 u hu
theorem aK(hok:∀b,b<w.heap.size->ok b):∀(n:Nat)(t:TypeId)(fuel:Nat)(cs:List Value)(x:DataW H × List MemPlace),ww P n t=true->DataW.trod enc P w base spare held fuel t cs=some x->
  ∃xs,qa P n t xs/\FitsL ok w xs cs/\(∀u∈cs,u.oneCell'=true)/\xs.length=P.cellsOf t
 |0,t,fuel,cs,x,hp,_=>by simp[ww]at hp
 |n+1,t,fuel,cs,x,hp,h=>by
  unfold ww at hp;split at hp
  ·rename_i k ht
   obtain⟨q,rfl,rfl,hw⟩:=DataW.trod_int ht h;refine⟨[.v (.int k q)],by unfold qa;rw[ht];exact⟨q,Y,hw⟩,by simp only[FitsL];exact⟨_,_,Y,by simp only[Fits];exact⟨trivial,Y⟩,Y⟩,by simp[Value.oneCell'],?_⟩;simp at hp;simp[hp]
  ·rename_i ht
   obtain⟨q,rfl,rfl⟩:=DataW.trod_bool ht h;refine⟨[.v (.bool q)],by unfold qa;rw[ht];exact⟨q,Y⟩,by simp only[FitsL];exact⟨_,_,Y,by simp only[Fits];exact⟨trivial,Y⟩,Y⟩,by simp[Value.oneCell'],?_⟩;simp at hp;simp[hp]
  ·rename_i ht
   obtain⟨q,rfl,rfl,hw⟩:=DataW.trod_string ht h;refine⟨[.v (.string q)],by unfold qa;rw[ht];exact⟨q,Y,hw⟩,by simp only[FitsL];exact⟨_,_,Y,by simp only[Fits];exact⟨trivial,Y⟩,Y⟩,by simp[Value.oneCell'],?_⟩;simp at hp;simp[hp]
  ·rename_i e ht
   simp only[zLa,beq_iff_eq,zLd]at hp;obtain⟨⟨hc,hpos⟩,hpe⟩:=hp;rcases Deep.open_slice ht h with⟨rfl,_⟩|⟨a,len,cap,m,k,D,Pl,rfl,hb,hl,hm,hmm,hx,hi⟩
   ·refine⟨[.sl []],by unfold qa;rw[ht];exact⟨[],Y,sI,sI⟩,?_,by simp[Value.oneCell'],by simp[hc]⟩;simp only[FitsL];refine⟨_,_,Y,?_,Y⟩;simp only[Fits];exact⟨none,0,0,Y,sI,sI,sI,sI⟩
   ·have hml:len<=m:=by rw[hmm];split<;>omega
    have key:∀i,i<len->∃r,qa P n e r/\∃cs',w.cells? base (a.add (i*P.cellsOf e)) (P.cellsOf e)=some cs'/\FitsL ok w r cs'/\(∀u∈cs',u.oneCell'=true)/\r.length=P.cellsOf e:=fun i hil=>by
     obtain⟨cs',h1,h2⟩:=hi i oM;obtain⟨r,r1,r2,r3,r4⟩:=aK hok n e k cs' _ hpe h2;exact⟨r,r1,cs',h1,r2,r3,r4⟩
    obtain⟨rows,hrl,hr⟩:=Az len key
    have hsize:∀r∈rows,r.length=P.cellsOf e:=fun r hrm=>by
     obtain⟨i,hi',hg⟩:=List.getElem_of_mem hrm;obtain⟨_,cs',_,_,_,h4⟩:=hr i r (by rw[zLe hi',hg]);exact h4
    refine⟨[.sl rows],by unfold qa;rw[ht];exact⟨rows,Y,oM,fun r hrm=>by
     obtain⟨i,hi',hg⟩:=List.getElem_of_mem hrm;exact(hr i r (by rw[zLe hi',hg])).1⟩,?_,by simp[Value.oneCell'],by simp[hc]⟩
    simp only[FitsL];refine⟨_,_,Y,?_,Y⟩;simp only[Fits];refine⟨some a,cap,P.cellsOf e,by rw[hrl],oM,hm,hsize,fun hp0=>?_⟩;obtain⟨b,off,spot⟩:=a;obtain⟨_,_,cs0,hc0,hf0,ho0,hl0⟩:=key 0 oM;obtain⟨_,hcl,hat⟩:=World.cells?_some hc0;have g0:=hat 0 hpos;rw[zLe oM]at g0;have hspot:spot=none:=by simpa[Addr.add]using World.cell?_spot g0
    subst hspot;have hblk:b<w.heap.size:=by have:=cell_lt g0;simpa[Addr.add]using this
    refine⟨b,off,Y,hok b hblk,FitsR.of_get hsize fun i r hir=>FitsC.of_get fun j z hz=>?_⟩;obtain⟨_,cs',h1,h2,h3,h4⟩:=hr i r hir;obtain⟨_,hcl',hat'⟩:=World.cells?_some h1;obtain⟨u,hu,hfu⟩:=h2.get hz
    have hj:j<P.cellsOf e:=by
     have:=(zLg hz).1;omega
    have:=hat' j hj;rw[hu,add_plain,add_plain]at this;exact⟨u,this,h3 u (zLo hu),hfu⟩
  ·rename_i fs ht
   simp only[zLa]at hp;obtain⟨ys,k,rfl,rfl,hlen,hyl,hg⟩:=DataW.trod_struct ht h
   obtain⟨xs,h1,h2,h3,h4,_⟩:=b7 (enc:=enc) (m:=k) hlen (fun t fuel cs x=>aK hok n t fuel cs x) fs.toList 0 hp.1 hp.2 (fun f hf=>by
    obtain⟨i,hi',hgi⟩:=List.getElem_of_mem hf;have hi2:i<fs.size:=by simpa using hi'
    have:=hg i f (by rw[zL5 hi2];simpa using hgi);rw[zLe oM]at this;exact⟨_,this⟩)
   rw[List.drop_zero]at h2 h3;exact⟨xs,by unfold qa;rw[ht];exact h1,h2,h3,by simpa using h4⟩
  ·cases hp
def yn(P:Program)(n:Nat)(t:TypeId)(x:AV):Prop:=match P.underlying t with
 |some (.struct fs)=>∃xs,x=.agg xs/\fS (qa P n) fs.toList xs
 |_=>qa P (n+1) t [x]
theorem Bt(hok:∀b,b<w.heap.size->ok b){b0:Nat}{t:TypeId}{v:Value}{d:DataW H}{ps:List MemPlace}(hp:ww P (n+1) t=true)(hv:Value.okWide P w r b0 t v)(h:DataW.Trod enc P w base spare held t v d ps):
  ∃x,yn P n t x/\Fits ok w x v:=by
 obtain⟨fuel,hf⟩:=h;obtain⟨xs,h1,h2,h3,h4⟩:=aK hok (n+1) t fuel _ _ hp hf
 have one:∀(x:AV),xs=[x]->v.cells.toList=[v]->Fits ok w x v:=fun x hx hc=>by
  subst hx;rw[hc]at h2;simp only[FitsL,List.cons.injEq]at h2;obtain⟨u,us,⟨rfl,_⟩,h5,_⟩:=h2;exact h5
 have hp':=hp;unfold ww at hp';split at hp'
 ·rename_i k ht
  obtain⟨q,rfl⟩:=okWide_int ht hv;obtain⟨q',rfl,_⟩:=lq ht h1;exact⟨_,by unfold yn;rw[ht];exact h1,one _ Y Y⟩
 ·rename_i ht
  obtain⟨q,rfl⟩:=okWide_bool ht hv;obtain⟨q',rfl⟩:=tt ht h1;exact⟨_,by unfold yn;rw[ht];exact h1,one _ Y Y⟩
 ·rename_i ht
  obtain⟨q,rfl⟩:=okWide_string ht hv;obtain⟨q',rfl,_⟩:=cd ht h1;exact⟨_,by unfold yn;rw[ht];exact h1,one _ Y Y⟩
 ·rename_i e ht
  obtain⟨a,len,cap,rfl⟩:=okWide_slice ht hv;obtain⟨rows,rfl,_⟩:=q8 ht h1;exact⟨_,by unfold yn;rw[ht];exact h1,one _ Y Y⟩
 ·rename_i fs ht
  obtain⟨cs,rfl,hsz⟩:=okWide_struct ht hv;refine⟨.agg xs,by unfold yn;rw[ht];exact⟨xs,Y,qC ht h1⟩,?_⟩;simp only[Fits];refine⟨cs.toList,sI,?_,?_⟩
  ·simpa[Value.cells]using h3
  ·simpa[Value.cells]using h2
 ·cases hp'
def aP(P:Program)(n:Nat):List TypeId->List AV->Prop
 |[],xs=>xs=[]
 |t::ts,xs=>∃x ys,xs=x::ys/\yn P n t x/\aP P n ts ys
theorem fC(hok:∀b,b<w.heap.size->ok b){b0:Nat}:∀{ts:List TypeId}{vs:List Value}{ds:List (DataW H)}{ps:List MemPlace},(ts.all fun t=>ww P (n+1) t)=true->
  (∀(j:Nat) t v,ts[j]?=some t->vs[j]?=some v->Value.okWide P w r b0 t v)->DataW.TrodAll enc P w base spare held ts vs ds ps->∃xs,aP P n ts xs/\FitsL ok w xs vs
 |[],vs,ds,ps,_,_,h=>by
  obtain⟨rfl,rfl,rfl⟩:=trodAll_nil h;exact⟨[],Y,by simp only[FitsL]⟩
 |t::ts,vs,ds,ps,hp,hv,h=>by
  simp only[List.all_cons,zLa]at hp;obtain⟨v,vs',d,ds',p,q,rfl,rfl,rfl,h1,h2⟩:=trodAll_cons h;obtain⟨x,x1,x2⟩:=Bt hok hp.1 (hv 0 t v rfl rfl) h1;obtain⟨xs,y1,y2⟩:=fC hok (ts:=ts) hp.2 (fun j t' v' ht hv'=>hv (j+1) t' v' (by simpa using ht) (by simpa using hv')) h2;exact⟨x::xs,⟨x,xs,Y,x1,y1⟩,by simp only[FitsL];exact⟨v,vs',Y,x2,y2⟩⟩
theorem az(hl:laidOutB P=true){sp:Nat->Bool}:∀{ts:List TypeId}{vs:List Value}{ds:List (DataW H)}{ps:List MemPlace},(ts.all fun t=>P.readableRec t&&decide (t<P.types.size))=true->
  DataW.TrodAll enc P W base (fun _=>true) true ts vs ds ps->(∀p∈ps,W.sameAt W' p)->(∀p∈ps,sp p.block=true)->DataW.TrodAll enc P W' base sp true ts vs ds ps
 |[],vs,ds,ps,_,h,_,_=>by
  obtain⟨rfl,rfl,rfl⟩:=trodAll_nil h;exact Y
 |t::ts,vs,ds,ps,hp,h,hs,hsp=>by
  simp only[List.all_cons,zLa,zLd]at hp;obtain⟨v,vs',d,ds',p,q,rfl,rfl,rfl,h1,h2⟩:=trodAll_cons h;exact⟨p,q,WideElems.Trod_stays hl hp.1.1 hp.1.2 h1 (fun x hx=>hs x (by simp[hx])) (fun x hx=>hsp x (by simp[hx])),az hl (ts:=ts) hp.2 h2 (fun x hx=>hs x (by simp[hx])) (fun x hx=>hsp x (by simp[hx])),Y⟩
theorem iK{f:Func}{s:ChangeSpec}{apart fresh handsOn again:Bool}{args:Array Value}{tb:TypeId}{ds gs:List (DataW H)}{before:List MemPlace}
  (hl:laidOutB P=true) (hr:(f.params.toList.all fun t=>P.readableRec t&&decide (t<P.types.size))=true)
  (hb:P.underlying tb=some .bool) (hres:f.resultTypes=#[tb]) (hvars:s.vars=[]) (hs:s.fn H ds={results:=[.lit (.bool true)],args:=ds,vars:=[]})
  (hW:DataW.Whole enc P f.params.toList s.vars apart W args.toList ds gs before) (hbl:Below W.heap.size W W'):
  s.post enc P f apart fresh handsOn again W args (.bool true) W':=by
 have hlt:=fun p hp=>hW.lt p hp;have hW':=hW;obtain⟨p,q,hA,hV,rfl,hz,hn⟩:=hW;rw[hvars]at hV;obtain⟨rfl,rfl⟩:=trodVars_none hV;have hsame:∀x∈p,W.sameAt W' x:=fun x hx=>hbl.same (hlt x (by simp[hx]))
 have hargs:∀sp:Nat->Bool,(∀x∈p++[],sp x.block=true)->DataW.TrodAll enc P W' 0 sp true f.params.toList args.toList ds p:=fun sp hsp=>
  az hl hr hA hsame (fun x hx=>hsp x (by simp[hx]))
 have hfz:∀x∈p,∀b off,x=.cell b off->W'.frozen? ⟨b,off,none⟩=W.frozen? ⟨b,off,none⟩:=fun x hx b off he=>by
  have:=hlt x (by simp[hx]);subst he;simp only[World.frozen?];rw[hbl.block b (by simpa[MemPlace.block]using this)]
 have hold:∀x∈p++[],(fun b=>decide (b<W.heap.size)) x.block=true:=fun x hx=>by simpa using hlt x hx
 have e0:s.fn H (ds++[])={results:=[.lit (.bool true)],args:=ds,vars:=[]}:=by rw[List.append_nil];exact hs
 refine⟨ds,[],p++[],[],p,[],hW',?_,?_,?_,World.keptBut_mono (fun x hx=>⟨hx,Or.inr (by simpa using hx)⟩) (hbl.frame _),fun _=>⟨ok_one hres Y (okWide_bool_mk hb true),?_⟩⟩
 ·rw[e0,hres];exact trodAll_mk1 (shut_bool hb true)
 ·rw[e0];exact hargs _ hold
 ·rw[hvars,e0];exact rfl
 ·refine⟨[.lit (.bool true)]++ds,[],([]++p)++[],⟨[]++p,[],?_,?_,Y,?_,?_⟩,?_⟩
  ·rw[hres];show DataW.TrodAll enc P W' 0 (fun _=>true) true ([tb]++f.params.toList) ([.bool true]++args.toList) ([.lit (.bool true)]++ds) ([]++p);exact trodAll_append (hargs (fun _=>true) (fun _ _=>rfl)) (trodAll_mk1 (shut_bool (enc:=enc) (w:=W') (base:=0) (spare:=fun _=>true) (held:=true) hb true))
  ·rw[hvars];exact rfl
  ·intro b off hp;rw[hfz _ (by simpa using hp) b off rfl];exact hz b off (by simpa using hp)
  ·intro ha;have:=hn ha;simpa using this
  ·intro x hx _;simpa using hx
end
end Go.Av
namespace Go.Av
open Go.RowKit
section
variable{P:Program}{G:Glob}
def kA(tm:Array Value):ResultVar->Sem Value
 | .tmp t=>pure (tm.getD t undef)
 | .cell a t=>do loadVar t (←asAddr (tm.getD a undef))
theorem bm(fn:Func)(tm:Array Value):results fn tm=(do
  let vs ←fn.results.mapM (kA tm)
  pure (if h:vs.size=1 then vs[0]else .tuple vs):Sem Value):=by
 unfold results;congr 1
variable{ok':Nat->Prop}{tm:Array Value}{v:ResultVar}{x:AV}{fn:Func}{cs r:List EV}{w0 w2:World}{args ys:List AV}{fr:Nat->EV}{T:TypeId}{rows:List (List EV)}{b:PB}
theorem sa{w:World}{ok:Nat->Prop}{bs:List PB}{n:Nat}{st:ASt}(hmo:MemOK n ok w bs st.mem)(hk:∀b,ok b->ok' b)(hp:∀b,n<=b->b<w.heap.size->ok' b)
   (hf:∀t,FitsE ok w bs st.mem (st.fr t) (tm.getD t undef))   (h:sU P st v x):
  ∃u,(kA tm v).run P w=.ok u w/\Fits ok' w x u:=by
 cases v with
 |tmp t=>exact⟨_,rfl,eV hmo hk hp (hf t) h⟩
 |cell p T=>
  obtain⟨e,hl,hv⟩:=h;obtain⟨ad,v,h1,h2,h3⟩:=AY hmo (hf p) hl;exact⟨v,by simp only[kA,h1,asAddr,Sem.run_bind,Sem.run_pure,Result.andThen_ok,h2],eV hmo hk hp h3 hv⟩
theorem rx{w:World}{ok:Nat->Prop}{bs:List PB}{n:Nat}{st:ASt}(hmo:MemOK n ok w bs st.mem)(hk:∀b,ok b->ok' b)(hp:∀b,n<=b->b<w.heap.size->ok' b)
   (hf:∀t,FitsE ok w bs st.mem (st.fr t) (tm.getD t undef)):∀{vs:List ResultVar}{xs:List AV},mV P st vs xs->
  ∃us:List Value,(vs.mapM (kA tm)).run P w=.ok us w/\FitsL ok' w xs us
 |[],xs,h=>by
  simp only[mV]at h;subst h;exact⟨[],sI,by simp[FitsL]⟩
 |v::vs,xs,h=>by
  simp only[mV]at h;obtain⟨x,xs',rfl,h1,h2⟩:=h;obtain⟨u,h3,h4⟩:=sa hmo hk hp hf h1;obtain⟨us,h5,h6⟩:=rx hmo hk hp hf h2;refine⟨u::us,?_,by simp only[FitsL];exact⟨u,us,Y,h4,h6⟩⟩;rw[List.mapM_cons];simp only[Sem.run_bind,Sem.run_pure,h3,Result.andThen_ok,h5]
theorem bC{w:World}{ok:Nat->Prop}{bs:List PB}{n:Nat}{st:ASt}(hmo:MemOK n ok w bs st.mem)(hk:∀b,ok b->ok' b)(hp:∀b,n<=b->b<w.heap.size->ok' b)
   (hf:∀t,FitsE ok w bs st.mem (st.fr t) (tm.getD t undef)) {r:AV} (h:RetE P fn st r):∃u,(results fn tm).run P w=.ok u w/\Fits ok' w r u:=by
 have e:∀vs:List Value,(fn.results.toList.mapM (kA tm)).run P w=.ok vs w->
   (results fn tm).run P w=.ok (if h:vs.toArray.size=1 then vs.toArray[0]else .tuple vs.toArray) w:=by
  intro vs hv;rw[bm,Array.mapM_eq_mapM_toList];simp only[Sem.run_bind,Sem.run_map];rw[hv];simp
 have h:=h.get;split at h
 ·rename_i v hv
  obtain⟨u,h1,h2⟩:=sa hmo hk hp hf h;refine⟨u,?_,h2⟩
  have:=e [u] (by
   rw[hv,List.mapM_cons];simp only[Sem.run_bind];rw[h1];simp)
  simpa using this
 ·rename_i vs hne
  obtain⟨xs,rfl,hl⟩:=h;obtain⟨us,h1,h2⟩:=rx hmo hk hp hf hl;refine⟨.tuple us.toArray,?_,by simp only[Fits];exact⟨us,Y,h2⟩⟩;have h3:=e us h1
  have hlen:us.length≠1:=by
   intro h4
   have h5:fn.results.toList.length=1:=by
    have h6:∀{vs:List ResultVar}{xs:List AV},mV P st vs xs->xs.length=vs.length:=by
     intro vs
     induction vs with
     |nil=>intro xs h;simp only[mV]at h;simp[h]
     |cons v vs ih=>intro xs h;simp only[mV]at h;obtain⟨x,xs',rfl,_,h⟩:=h;simp[ih h]
    rw[←h6 hl,←h2.length];exact h4
   match hq:fn.results.toList,h5 with
   |[v],_=>exact hne v hq
  simpa[hlen]using h3
structure MK(w0 w w2:World):Prop where
 size:w2.heap.size=w.heap.size
 os:w2.os=w.os
 tape:w2.tape=w.tape
 output:w2.output=w.output
 block:∀k,w2.heap[k]?=w.heap[k]?∨(w0.heap.size<=k/\w.heap[k]?=some (.deferred (some []))/\w2.heap[k]?=some (.deferred none))
theorem MK.refl(w0 w:World):MK w0 w w:=⟨rfl,rfl,rfl,rfl,fun _=>.inl rfl⟩
theorem MK.step{w:World}{D:Nat}(hD:w0.heap.size<=D)(h:w.heap[D]?=some (.deferred (some [])))(h2:MK w0 (w.putObj D (.deferred none)) w2):MK w0 w w2:=by
 have hlt:=(zLr.1 h).1;refine⟨by rw[h2.size];simp[World.putObj],h2.os,h2.tape,h2.output,fun k=>?_⟩;rcases h2.block k with h3|⟨h3,h4,h5⟩
 ·by_cases e:k=D
  ·subst e;exact .inr ⟨hD,h,by rw[h3];simp[World.putObj,hlt]⟩
  ·left;rw[h3];simp[World.putObj,zL9 (Ne.symm e)]
 ·by_cases e:k=D
  ·subst e;simp[World.putObj,hlt]at h4
  ·right;refine⟨h3,?_,h5⟩;simpa[World.putObj,zL9 (Ne.symm e)]using h4
theorem MK.cells{w:World}(h:MK w0 w w2){g:Nat}{cur:Array Value}{e:TypeId}{x:Nat × Nat}(hg:w.heap[g]?=some (.cells cur e x)):w2.heap[g]?=some (.cells cur e x):=by
 rcases h.block g with h1|⟨_,h1,_⟩
 ·rw[h1];exact hg
 ·rw[h1]at hg;cases hg
theorem MK.map{w:World}(h:MK w0 w w2){g c:Nat}{arr:Array MapEntry}(hg:w.heap[g]?=some (.map arr c)):w2.heap[g]?=some (.map arr c):=by
 rcases h.block g with h1|⟨_,h1,_⟩
 ·rw[h1];exact hg
 ·rw[h1]at hg;cases hg
def aI(w w':World):Prop:=(∀a,w'.cell? a=w.cell? a)/\∀(g:Nat)(arr:Array MapEntry)(c:Nat),w.heap[g]?=some (.map arr c)->w'.heap[g]?=some (.map arr c)
theorem MK.cell1{w:World}(h:MK w0 w w2)(a:Addr):w2.cell? a=w.cell? a:=by
 rcases h.block a.block with h1|⟨_,h1,h2⟩
 ·unfold World.cell?;rw[h1]
 ·unfold World.cell?;rw[h1,h2]
theorem MK.cell{w:World}(h:MK w0 w w2):aI w w2:=⟨h.cell1,fun _ _ _ hg=>h.map hg⟩
theorem MK.below{w:World}(h:MK w0 w w2):Below w0.heap.size w w2:=⟨h.os,h.tape,h.output,Nat.le_of_eq h.size.symm,fun k hk=>(h.block k).resolve_right fun⟨h1,_⟩=>oM⟩
section
variable{ok:Nat->Prop}{w w':World}{bs:List PB}{mem:List PO}
mutual
theorem Fits.congr(hw:aI w w'):∀(x:AV)(u:Value),Fits ok w x u->Fits ok w' x u
 | .top,_,_=>by simp only[Fits]
 | .v x,y,h=>by simpa only[Fits]using h
 | .agg cs,y,h=>by
  simp only[Fits]at h⊢;obtain⟨vs,e,h1,hl⟩:=h;exact⟨vs,e,h1,FitsL.congr hw cs vs hl⟩
 | .sl rows,y,h=>by
  simp only[Fits]at h⊢;obtain⟨a,c,size,e,h1,h2,h3,h4⟩:=h;refine⟨a,c,size,e,h1,h2,h3,fun hn=>?_⟩;obtain⟨b,off,ea,hb,hr⟩:=h4 hn;exact⟨b,off,ea,hb,FitsR.congr hw b rows off hr⟩
 | .ptr cs,y,h=>by
  simp only[Fits]at h⊢;obtain⟨b,off,e,hb,hc⟩:=h;exact⟨b,off,e,hb,FitsC.congr hw b cs off hc⟩
 | .fn f first caps,y,h=>by
  simp only[Fits]at h⊢;obtain⟨us,vs,e,h1,h2⟩:=h;exact⟨us,vs,e,FitsL.congr hw first us h1,FitsL.congr hw caps vs h2⟩
 | .ifc t x,y,h=>by
  simp only[Fits]at h⊢;obtain⟨u,e,hl⟩:=h;exact⟨u,e,Fits.congr hw x u hl⟩
 | .tup l,y,h=>by
  simp only[Fits]at h⊢;obtain⟨vs,e,hl⟩:=h;exact⟨vs,e,FitsL.congr hw l vs hl⟩
 | .mp ks xs,y,h=>by
  simp only[Fits]at h⊢;obtain⟨g,arr,c,e,hg,ha,hb,h1,hl⟩:=h;exact⟨g,arr,c,e,hg,hw.2 g arr c ha,hb,h1,FitsL.congr hw xs _ hl⟩
theorem FitsL.congr(hw:aI w w'):∀(l:List AV)(us:List Value),FitsL ok w l us->FitsL ok w' l us
 |[],us,h=>by simpa only[FitsL]using h
 |x::xs,us,h=>by
  simp only[FitsL]at h⊢;obtain⟨u,us',e,h1,h2⟩:=h;exact⟨u,us',e,Fits.congr hw x u h1,FitsL.congr hw xs us' h2⟩
theorem FitsC.congr(hw:aI w w')(b:Nat):∀(l:List AV)(off:Nat),FitsC ok w b off l->FitsC ok w' b off l
 |[],off,h=>by simp only[FitsC]
 |x::xs,off,h=>by
  simp only[FitsC]at h⊢;obtain⟨⟨u,hc,h1,h2⟩,h3⟩:=h;exact⟨⟨u,(hw.1 _).trans hc,h1,Fits.congr hw x u h2⟩,FitsC.congr hw b xs (off+1) h3⟩
theorem FitsR.congr(hw:aI w w')(b:Nat):∀(l:List (List AV))(off:Nat),FitsR ok w b off l->FitsR ok w' b off l
 |[],off,h=>by simp only[FitsR]
 |r::rs,off,h=>by
  simp only[FitsR]at h⊢;exact⟨FitsC.congr hw b r off h.1,FitsR.congr hw b rs (off+r.length) h.2⟩
end
mutual
theorem FitsE.congr(hw:aI w w'):∀(x:EV)(u:Value),FitsE ok w bs mem x u->FitsE ok w' bs mem x u
 | .pub x,u,h=>by
  simp only[FitsE]at h⊢;exact Fits.congr hw x u h
 | .psl l n,u,h=>by simpa only[FitsE]using h
 | .pp l n i j,u,h=>by simpa only[FitsE]using h
 | .ppT l n T,u,h=>by simpa only[FitsE]using h
 | .pslT l n T,u,h=>by simpa only[FitsE]using h
 | .mpv l,u,h=>by simpa only[FitsE]using h
 | .tpl cs,u,h=>by
  simp only[FitsE]at h⊢;obtain⟨vs,e,hl⟩:=h;exact⟨vs,e,FitsEL.congr hw cs vs hl⟩
 | .mix cs,u,h=>by
  simp only[FitsE]at h⊢;obtain⟨vs,e,h1,hl⟩:=h;exact⟨vs,e,h1,FitsEL.congr hw cs vs hl⟩
 | .fnm f fs cs,u,h=>by
  simp only[FitsE]at h⊢;obtain⟨us,vs,e,h1,h2⟩:=h;exact⟨us,vs,e,FitsEL.congr hw fs us h1,FitsEL.congr hw cs vs h2⟩
theorem FitsEL.congr(hw:aI w w'):∀(l:List EV)(us:List Value),FitsEL ok w bs mem l us->FitsEL ok w' bs mem l us
 |[],us,h=>by simpa only[FitsEL]using h
 |x::xs,us,h=>by
  simp only[FitsEL]at h⊢;obtain⟨u,us',e,h1,h2⟩:=h;exact⟨u,us',e,FitsE.congr hw x u h1,FitsEL.congr hw xs us' h2⟩
end
theorem MemOK.marked{n:Nat}{w0 w2:World}(h:MemOK n ok w bs mem)(hm:MK w0 w w2):MemOK n ok w2 bs mem:=by
 refine⟨h.len,fun b hb=>by rw[hm.size];exact h.lt b hb,fun l b rows h1 h2=>?_,fun l b es h1 h2=>?_,h.own',h.dist'⟩
 ·have hr:=h.row l b rows h1 h2;refine⟨hr.size,hr.nil,hr.pos,fun g hg=>?_⟩;obtain⟨cur,hc,h5,h6,h7,h8⟩:=hr.blk g hg;refine⟨cur,hm.cells hc,h5,h6,h7,fun i j r x hr hx=>?_⟩;obtain⟨u,h9,h10,h11⟩:=h8 i j r x hr hx;exact⟨u,h9,h10,h11.congr hm.cell⟩
 ·obtain⟨g,arr,h3,h4,h5,h6⟩:=h.mp l b es h1 h2;refine⟨g,arr,h3,hm.map h4,h5,fun i k x hx=>?_⟩;obtain⟨v,h7,h8⟩:=h6 i k x hx;exact⟨v,h7,h8.congr hm.cell⟩
end
theorem kz{mk:Bool}{F:Fence}{n:Nat}{R:Ending->World->Prop}:∀{ds:List Deferred}{B:Nat}{w:World},Dfs mk w0 w tm ds B []->
  (∀w2,MK w0 w w2->∃v,(results fn tm).run P w2=.ok v w2/\R (.returned v) w2)->LeavesInM F n P fn tm R ds .returning w
 |[],B,w,_,h=>h w (MK.refl w0 w)
 |d::ds,B,w,hd,h=>by
  simp only[Dfs]at hd;rcases hd with⟨_,D,rfl,h1,h2,h3,h4⟩|⟨t,l',e,_⟩
  ·refine⟨sI,.inl ⟨D,_,Y,run_takeDeferred h3,kz (B:=D) (h4.low (zLl _)) fun w2 hw2=>h w2 (hw2.step h1 h3)⟩⟩
  ·cases e
theorem xG{ok:Nat->Prop}{w:World}{vs:List Value}(hlen:args.length<=fn.ntmps)(hok:∀b,ok b->b<w.heap.size)(hfit:FitsL ok w args vs):
  Sit w ok ⟨fn.ntmps,sD args,[]⟩ {tmps:=vs.toArray++Array.replicate (fn.ntmps-vs.toArray.size) undef,defers:=[]} w:=by
 have hl:=hfit.length;refine⟨by simp[hl];omega,⟨rfl,fun p hp=>by cases hp⟩,Below.refl _ _,ok,[],fun _ h=>h,fun _ h=>.inl h,⟨rfl,hok,sI,sI,sI,sI⟩,fun t=>?_,fun p hp=>by cases hp⟩;show FitsE ok w [] [] (match args[t]?with|some x=>.pub x|none=>.pub .top) _
 by_cases ht:t<args.length
 ·rw[zLe ht];obtain⟨u,h1,h2⟩:=hfit.get (zLe ht);simp only[FitsE];have h3:t<vs.length:=(zLg h1).1;have h4:vs[t]=u:=(zLg h1).2;simp only[zLw];rw[Array.getElem?_append_left (by simpa using h3)];simp[h3,h4,h2]
 ·rw[List.getElem?_eq_none oM];simp[FitsE,Fits]
theorem pT{f:FuncId}{c:Code}{r:AV}(hf:P.funcs[f]?=some fn)(hb:fn.body=some c)(hnm:(fn.name== "runtime.NumGoroutine")=false)(hlen':Nat.ble args.length fn.ntmps=true)
  (h:qp (r:=none) P G c ⟨fn.ntmps,sD args,[]⟩ (fun e st=>(e=.normal∨e=.ret)/\RetE P fn st r)):ACall P G f args r:=by
 have hlen:args.length<=fn.ntmps:=zLb hlen';refine⟨⟨fn,hf,hnm,by simp[hb]⟩,fun ok w vs hG hok hfit=>callsIn_wide.1 (callsIn_of_wp_marks (n:=0) hf hb trivial ?_)⟩;have hl:=hfit.length;refine wpIn_mono (h w ok _ w hG hok ?_) fun e a' w' ⟨st,hs,hq⟩=>?_
 ·refine⟨by simp[hl];omega,⟨rfl,fun p hp=>by cases hp⟩,Below.refl _ _,ok,[],fun _ h=>h,fun _ h=>.inl h,⟨rfl,hok,sI,sI,sI,sI⟩,fun t=>?_,fun p hp=>by cases hp⟩;show FitsE ok w [] [] (match args[t]?with|some x=>.pub x|none=>.pub .top) _
  by_cases ht:t<args.length
  ·rw[zLe ht];obtain⟨u,h1,h2⟩:=hfit.get (zLe ht);simp only[FitsE];have h3:t<vs.length:=(zLg h1).1;have h4:vs[t]=u:=(zLg h1).2;simp only[zLw];rw[Array.getElem?_append_left (by simpa using h3)];simp[h3,h4,h2]
  ·rw[List.getElem?_eq_none oM];simp[FitsE,Fits]
 ·obtain⟨h0,h1,h2,ok',bs,h3,h4,h5,h6⟩:=hs;have hnil:=hq.2.nil;have h1:=h1.1;rw[hnil]at h1
  have hlv:LeavesInM Fence.wide 0 P fn a'.tmps (fun e w'=>∃u,e=.returned u/\Below w.heap.size w w'/\Fits (okN ok w w') w' r u) a'.defers .returning w':=kz h1 fun w2 hw2=>by
   obtain⟨u,h7,h8⟩:=bC (ok':=okN ok w w2) (h5.marked hw2) (fun b hb=>by
    rcases h4 b hb with h|h
    ·exact .inl h
    ·exact .inr ⟨h,by rw[hw2.size];exact h5.lt b hb⟩) (fun b hb hb'=>.inr ⟨hb,hb'⟩) (fun t=>(h6.1 t).congr hw2.cell) hq.2
   exact⟨u,h7,u,Y,h2.trans hw2.below,h8⟩
  rcases hq.1 with rfl|rfl<;>exact hlv
theorem JL{n:NS}{fr':Nat->EV}{mem:List PO}(h:∀t,fr' t=.pub .top∨fr' t=fr t):Weak ⟨n,fr,mem⟩ ⟨n,fr',mem⟩:=by
 intro w0 ok0 a w ⟨h0,h1,h2,ok,bs,h3,h4,h5,h6⟩;refine⟨h0,h1,h2,ok,bs,h3,h4,h5,fun t=>?_,h6.2⟩;rcases h t with e|e
 ·simp only[e];simp[FitsE,Fits]
 ·simp only[e];exact h6.1 t
def frL:List (Nat × EV)->Nat->EV
 |[],_=>.pub .top
 |(k,x)::l,t=>bif Nat.beq t k then x else frL l t
def wS(fr:Nat->EV):List (Nat × EV)->Prop
 |[]=>True
 |(k,x)::l=>fr k=x/\wS fr l
theorem rP{n:NS}{mem:List PO}(l:List (Nat × EV))(h:wS fr l):Weak ⟨n,fr,mem⟩ ⟨n,frL l,mem⟩:=by
 refine JL fun t=>?_
 induction l with
 |nil=>exact .inl rfl
 |cons p l ih=>
  obtain⟨k,x⟩:=p;simp only[wS]at h;simp only[frL]
  by_cases ht:t=k
  ·subst ht;right;simp[h.1]
  ·have hb:Nat.beq t k=false:=by
    cases hb:Nat.beq t k
    ·rfl
    ·exact absurd (Nat.eq_of_beq_eq_true hb) ht
   rw[hb];exact ih h.2
theorem zd{n:NS}{mem mem':List PO}(l:List (Nat × EV))(h:wS fr l)(hm:mem=mem'):Weak ⟨n,fr,mem⟩ ⟨n,frL l,mem'⟩:=by subst hm;exact rP l h
def uQ(mem:List PO):EV->AV->Prop
 | .pub z,y=>AVle z y
 | .psl l n,y=>∃rows:List (List AV),mem[l]?=some (.row (rows.map (·.map .pub)))/\rows.length=n/\y=.sl rows
 | .mpv _,y=>y=.top
 |_,_=>False
def aB(mem:List PO):List EV->List AV->Prop
 |[],ys=>ys=[]
 |c::cs,ys=>∃y ys',ys=y::ys'/\uQ mem c y/\aB mem cs ys'
theorem vwR{mem:List PO}(h:aB mem cs ys):aB mem (.pub x::cs) (x::ys):=⟨_,_,rfl,AVle.refl _,h⟩
theorem vwT{mem:List PO}(h:aB mem cs ys):aB mem (.pub x::cs) (.top::ys):=⟨_,_,rfl,AVle.top _,h⟩
theorem ln {mem : List PO} : ∀ {cs : List EV} {ys : List AV}, aB mem cs ys -> ys.length = cs.length /\ ∀ (i : Nat) (c : EV) (z : AV), cs[i]? = some c -> ys[i]? = some z ->
      ((∃z0,c=.pub z0/\AVle z0 z)∨(∃(l n:Nat)(rows:List (List AV)),c=.psl l n/\mem[l]?=some (.row (rows.map (·.map .pub)))/\rows.length=n/\z=.sl rows)∨z=.top)
  |[],ys,h=>by simp only[aB]at h;subst h;simp
  |c::cs,ys,h=>by
    simp only[aB]at h;obtain⟨y,ys',rfl,h1,h2⟩:=h;obtain⟨h3,h4⟩:=ln h2;refine⟨by simp[h3],fun i d z hd hz=>?_⟩;cases i with
    |succ i=>exact h4 i d z (by simpa using hd) (by simpa using hz)
    |zero=>
      simp at hd hz;subst hd;subst hz;cases c with
      |pub z0=>exact .inl ⟨z0,rfl,h1⟩
      |psl l n=>obtain⟨rows,a,b,e⟩:=h1;exact .inr (.inl ⟨l,n,rows,rfl,a,b,e⟩)
      |pp=>exact h1.elim
      |ppT=>exact h1.elim
      |pslT=>exact h1.elim
      |mix=>exact h1.elim
      |fnm=>exact h1.elim
      |mpv=>exact .inr (.inr h1)
      |tpl=>exact h1.elim
theorem EO{mem:List PO}(h:aB mem cs ys):kh mem (.mix cs) (.agg ys):=⟨ys,rfl,ln h⟩
theorem zQ{st:ASt}{p:Tmp}{k n i j size:Nat}(hp:st.fr p=.pp k n i j)(hm:st.mem[k]?=some (.row rows))(hn:rows.length=n)(hr:rows[i]?=some r)
  (ht:zS P T true size=true) (hl:Nat.ble (j+size) r.length=true) (hv:aB st.mem ((r.drop j).take size) ys):sU P st (.cell p T) (.agg ys):=
 ⟨_,by rw[hp];exact⟨rows,r,hm,hn,hr,.inr ⟨size,ht,zLb hl,rfl⟩⟩,EO hv⟩
theorem jI{st:ASt}{p:Tmp}{k n i j:Nat}{e:EV}{y:AV}(hp:st.fr p=.pp k n i j)(hm:st.mem[k]?=some (.row rows))(hn:rows.length=n)(hr:rows[i]?=some r)
  (ht:zS P T false 1=true) (he:r[j]?=some e) (hv:kh st.mem e y):sU P st (.cell p T) y:=
 ⟨e,by rw[hp];exact⟨rows,r,hm,hn,hr,.inl ⟨ht,he⟩⟩,hv⟩
theorem jb{st:ASt}(hr:fn.results.toList=[v])(h:sU P st v x)(hn:st.n.dfs=[]:=by rfl):RetE P fn st x:=by
 unfold RetE;rw[hr,hn];exact h
theorem Weak.refl(st:ASt):Weak st st:=fun _ _ _ _ h=>h
theorem Weak.trans{a b c:ASt}(h:Weak a b)(h':Weak b c):Weak a c:=fun w0 ok0 x w hs=>h' w0 ok0 x w (h w0 ok0 x w hs)
variable{n:Nat}{ok:Nat->Prop}{w w':World}{bs:List PB}{mem:List PO}
theorem Turn.push(hl:bs.length=mem.length)(b:PB)(x:PO):Turn bs (bs++[b]) mem (mem++[x]):=by
 refine⟨fun l b0 h=>⟨b0,?_,fun rows' h'=>⟨rows',?_,zLl _,fun _=>rfl⟩⟩,?_⟩
 ·have hlt:=(zLg h).1;rw[zLf hlt];exact h
 ·have hlt:=(zLg h).1;rw[zLf oM]at h';exact h'
 ·intro l b0 b0' es h h1 h2;have hlt:=(zLg h).1;rw[zLf hlt,h]at h1;rw[zLf oM]at h2;injection h1 with h1
  exact⟨⟨es,h2⟩,h1.symm⟩
theorem MemOK.pushO{o:PO}(h:MemOK n ok w bs mem)(hw:Below w.heap.size w w')(hn:n<=w.heap.size)(hrow:∀rows,o=.row rows->PRow ok w' (bs++[b]) (mem++[o]) b rows)(hmap:∀es,o=.map es->JV ok w' (bs++[b]) (mem++[o]) b es)
  (hnew:∀g,b.blk=some g->w.heap.size<=g):MemOK n ok w' (bs++[b]) (mem++[o]):=by
 have ht:=Turn.push h.len b o
 have get:∀(l:Nat)(b0:PB)(r0:PO),(bs++[b])[l]?=some b0->(mem++[o])[l]?=some r0->(bs[l]?=some b0/\mem[l]?=some r0)∨(l=bs.length/\b0=b/\r0=o):=by
  intro l b0 r0 h1 h2;rcases Nat.lt_or_ge l bs.length with hlt|hge
  ·rw[zLf hlt]at h1;rw[zLf (by rw[←h.len];exact hlt)]at h2;exact .inl ⟨h1,h2⟩
  ·rw[zL4 hge]at h1;rw[zL4 (by rw[←h.len];exact hge)]at h2
   have h0:l-bs.length=0:=by
    have:=(zLg h1).1;simpa using this
   have h3:l-mem.length=0:=by rw[←h.len];exact h0
   rw[h0]at h1;rw[h3]at h2;simp at h1 h2;exact .inr ⟨oM,h1.symm,h2.symm⟩
 refine⟨by simp[h.len],fun b hb=>Nat.lt_of_lt_of_le (h.lt b hb) hw.size,fun l b0 r0 h1 h2=>?_,fun l b0 es h1 h2=>?_,fun l b0 r0 g h1 h2 ho h3=>?_,fun l l' b0 b1 r0 r1 g h1 h2 ho h3 h4 ho' h5 h6=>?_⟩
 ·rcases get l b0 _ h1 h2 with⟨h3,h4⟩|⟨_,rfl,e⟩
  ·have hr:=h.row l b0 r0 h3 h4;refine⟨hr.size,hr.nil,hr.pos,fun g hg=>?_⟩;obtain⟨cur,hc,h5,h6,h7,h8⟩:=hr.blk g hg;refine⟨cur,by rw[hw.block g (h.own_lt h3 h4 hg)];exact hc,h5,h6,h7,fun i j r x hr hx=>?_⟩;obtain⟨u,h9,h10,h11⟩:=h8 i j r x hr hx;exact⟨u,h9,h10,h11.mono (fun _ hb=>hb) (fun b hb=>hw.block b (h.lt b hb)) ht⟩
  ·exact hrow r0 e.symm
 ·rcases get l b0 _ h1 h2 with⟨h3,h4⟩|⟨_,rfl,e⟩
  ·obtain⟨g,arr,h5,h6,h7,h8⟩:=h.mp l b0 es h3 h4;refine⟨g,arr,h5,by rw[hw.block g (h.live_lt h3 h4 Y h5)];exact h6,h7,fun i k x hx=>?_⟩;obtain⟨v,h9,h10⟩:=h8 i k x hx;exact⟨v,h9,h10.mono (fun _ hb=>hb) (fun b hb=>hw.block b (h.lt b hb)) ht⟩
  ·exact hmap es e.symm
 ·rcases get l b0 r0 h1 h2 with⟨h4,h5⟩|⟨_,rfl,rfl⟩
  ·exact h.own' l b0 r0 g h4 h5 ho h3
  ·have:=hnew g h3;exact⟨oM,fun hk=>by have:=h.lt g hk;omega⟩
 ·rcases get l b0 r0 h1 h2 with⟨a1,a2⟩|⟨a1,rfl,rfl⟩<;>rcases get l' b1 r1 h3 h4 with⟨c1,c2⟩|⟨c1,rfl,rfl⟩
  ·exact h.dist' l l' b0 b1 r0 r1 g a1 a2 ho c1 c2 ho' h5 h6
  ·have:=hnew g h6;have:=h.live_lt a1 a2 ho h5;omega
  ·have:=hnew g h5;have:=h.live_lt c1 c2 ho' h6;omega
  ·omega
theorem MemOK.push(h:MemOK n ok w bs mem)(hw:Below w.heap.size w w')(hn:n<=w.heap.size)(hrow:PRow ok w' (bs++[b]) (mem++[.row rows]) b rows)
  (hnew:∀g,b.blk=some g->w.heap.size<=g):MemOK n ok w' (bs++[b]) (mem++[.row rows]):=
 h.pushO hw hn (fun r e=>by injection e with e;subst e;exact hrow) (fun es e=>by cases e) hnew
theorem MemOK.turnO{l:Nat}{b':PB}{o o':PO}(h:MemOK n ok w bs mem)(hb:bs[l]?=some b)(hm:mem[l]?=some o)(hol:o.live=true)(hsz:w.heap.size<=w'.heap.size)
  (hblk:∀k,k<w.heap.size->some k≠b.blk->w'.heap[k]?=w.heap[k]?)
  (hto:(∀rows',o'=.row rows'->∃rows,o=.row rows/\rows.length<=rows'.length/\(rows.length=rows'.length->b'=b))/\∀es',o'=.map es'->(∃es,o=.map es)/\b'=b)
  (hnew:∀g,b'.blk=some g->b.blk=some g∨w.heap.size<=g) (hn:n<=w.heap.size)
  (hrow:(∀(e:EV)(u:Value),FitsE ok w bs mem e u->FitsE ok w' (bs.set l b') (mem.set l o') e u)->(∀rows',o'=.row rows'->PRow ok w' (bs.set l b') (mem.set l o') b' rows')/\∀es',o'=.map es'->JV ok w' (bs.set l b') (mem.set l o') b' es'):
  MemOK n ok w' (bs.set l b') (mem.set l o')/\∀(e:EV)(u:Value),FitsE ok w bs mem e u->FitsE ok w' (bs.set l b') (mem.set l o') e u:=by
 have hll:l<bs.length:=(zLg hb).1;have hlm:l<mem.length:=(zLg hm).1;have hw:∀k,ok k->w'.heap[k]?=w.heap[k]?:=fun k hk=>hblk k (h.lt k hk) fun e=>(h.own' l b o k hb hm hol e.symm).2 hk
 have ht:Turn bs (bs.set l b') mem (mem.set l o'):=by
  refine⟨fun k b0 h0=>?_,fun k b0 b1 es h0 h1 h2=>?_⟩
  ·by_cases hk:l=k
   ·subst hk;rw[hb]at h0;injection h0 with h0
    subst h0;refine⟨b',by simp[hll],fun r h1=>?_⟩;simp[hlm]at h1;obtain⟨rows,e,h2,h3⟩:=hto.1 r h1;exact⟨rows,by rw[hm,e],h2,h3⟩
   ·refine⟨b0,by rw[zLn hk];exact h0,fun r h1=>?_⟩;rw[zLn hk]at h1;exact⟨r,h1,zLl _,fun _=>rfl⟩
  ·by_cases hk:l=k
   ·subst hk;rw[hb]at h0;injection h0 with h0
    subst h0;simp[hll]at h1;simp[hlm]at h2;obtain⟨⟨es0,e⟩,h3⟩:=hto.2 es h2;exact⟨⟨es0,by rw[hm,e]⟩,by rw[←h1,h3]⟩
   ·rw[zLn hk]at h1 h2;rw[h0]at h1;injection h1 with h1
    exact⟨⟨es,h2⟩,h1.symm⟩
 have hf:∀(e:EV)(u:Value),FitsE ok w bs mem e u->FitsE ok w' (bs.set l b') (mem.set l o') e u:=fun e u he=>he.mono (fun _ hk=>hk) hw ht
 have get:∀(k:Nat)(b0:PB)(r0:PO),(bs.set l b')[k]?=some b0->(mem.set l o')[k]?=some r0->(k≠l/\bs[k]?=some b0/\mem[k]?=some r0)∨(k=l/\b0=b'/\r0=o'):=by
  intro k b0 r0 h1 h2
  by_cases hk:l=k
  ·subst hk;simp[hll]at h1;simp[hlm]at h2;exact .inr ⟨Y,h1.symm,h2.symm⟩
  ·rw[zLn hk]at h1 h2;exact .inl ⟨fun e=>hk e.symm,h1,h2⟩
 refine⟨⟨by simp[h.len],fun k hk=>Nat.lt_of_lt_of_le (h.lt k hk) hsz,fun k b0 r0 h1 h2=>?_,fun k b0 es h1 h2=>?_,fun k b0 r0 g h1 h2 ho h3=>?_,fun k k' b0 b1 r0 r1 g h1 h2 ho h3 h4 ho' h5 h6=>?_⟩,hf⟩
 ·rcases get k b0 _ h1 h2 with⟨hne,h3,h4⟩|⟨_,rfl,e⟩
  ·have hr:=h.row k b0 r0 h3 h4;refine⟨hr.size,hr.nil,hr.pos,fun g hg=>?_⟩;obtain⟨cur,hc,h5,h6,h7,h8⟩:=hr.blk g hg;refine⟨cur,by rw[hblk g (h.own_lt h3 h4 hg) (fun e=>hne (h.dist' k l b0 b _ o g h3 h4 Y hb hm hol hg e.symm))];exact hc,h5,h6,h7,fun i j r x hr hx=>?_⟩;obtain⟨u,h9,h10,h11⟩:=h8 i j r x hr hx;exact⟨u,h9,h10,hf _ _ h11⟩
  ·exact(hrow hf).1 r0 e.symm
 ·rcases get k b0 _ h1 h2 with⟨hne,h3,h4⟩|⟨_,rfl,e⟩
  ·obtain⟨g,arr,h5,h6,h7,h8⟩:=h.mp k b0 es h3 h4;refine⟨g,arr,h5,by rw[hblk g (h.live_lt h3 h4 Y h5) (fun e=>hne (h.dist' k l b0 b _ o g h3 h4 Y hb hm hol h5 e.symm))];exact h6,h7,fun i k' x hx=>?_⟩;obtain⟨v,h9,h10⟩:=h8 i k' x hx;exact⟨v,h9,hf _ _ h10⟩
  ·exact(hrow hf).2 es e.symm
 ·rcases get k b0 r0 h1 h2 with⟨hne,h4,h5⟩|⟨_,rfl,rfl⟩
  ·exact h.own' k b0 r0 g h4 h5 ho h3
  ·rcases hnew g h3 with h4|h4
   ·exact h.own' l b o g hb hm hol h4
   ·exact⟨oM,fun hk=>by have:=h.lt g hk;omega⟩
 ·rcases get k b0 r0 h1 h2 with⟨ne1,a1,a2⟩|⟨e1,rfl,rfl⟩<;>rcases get k' b1 r1 h3 h4 with⟨ne2,c1,c2⟩|⟨e2,rfl,rfl⟩
  ·exact h.dist' k k' b0 b1 r0 r1 g a1 a2 ho c1 c2 ho' h5 h6
  ·rcases hnew g h6 with h7|h7
   ·exact absurd (h.dist' k l b0 b r0 o g a1 a2 ho hb hm hol h5 h7) ne1
   ·have:=h.live_lt a1 a2 ho h5;omega
  ·rcases hnew g h5 with h7|h7
   ·exact absurd (h.dist' k' l b1 b r1 o g c1 c2 ho' hb hm hol h6 h7) ne2
   ·have:=h.live_lt c1 c2 ho' h6;omega
  ·omega
theorem MemOK.turn{l:Nat}{b':PB}{rows':List (List EV)}(h:MemOK n ok w bs mem)(hb:bs[l]?=some b)(hm:mem[l]?=some (.row rows))(hsz:w.heap.size<=w'.heap.size)
  (hblk:∀k,k<w.heap.size->some k≠b.blk->w'.heap[k]?=w.heap[k]?) (hle:rows.length<=rows'.length) (hsame:rows.length=rows'.length->b'=b)
  (hnew:∀g,b'.blk=some g->b.blk=some g∨w.heap.size<=g) (hn:n<=w.heap.size)
  (hrow:(∀(e:EV)(u:Value),FitsE ok w bs mem e u->FitsE ok w' (bs.set l b') (mem.set l (.row rows')) e u)->PRow ok w' (bs.set l b') (mem.set l (.row rows')) b' rows'):
  MemOK n ok w' (bs.set l b') (mem.set l (.row rows'))/\∀(e:EV)(u:Value),FitsE ok w bs mem e u->FitsE ok w' (bs.set l b') (mem.set l (.row rows')) e u:=
 h.turnO hb hm rfl hsz hblk ⟨fun r e=>⟨rows,rfl,by injection e with e;subst e;exact hle,by injection e with e;subst e;exact hsame⟩,fun es e=>by cases e⟩ hnew hn
  (fun hf=>⟨fun r e=>by injection e with e;subst e;exact hrow hf,fun es e=>by cases e⟩)
variable{st:ASt}{o:Oper}
theorem Sit.push{ok0:Nat->Prop}{k:NS}{mem:List PO}{a:Act}{w w':World}{ok:Nat->Prop}{bs:List PB}{e:EV}{u:Value}{dst:Option Tmp}
  (h0:a.tmps.size=k.n) (h1:Nod w0 w a k) (h2:Below w0.heap.size w0 w)
  (h3:∀b,ok0 b->ok b) (h4:∀b,ok b->ok0 b∨w0.heap.size<=b) (h5:MemOK w0.heap.size ok w bs mem) (h6:Slots ok w bs mem k fr a)
  (hw:Below w.heap.size w w') (hrow:PRow ok w' (bs++[b]) (mem++[.row rows]) b rows) (hnew:∀g,b.blk=some g->w.heap.size<=g)
  (he:FitsE ok w' (bs++[b]) (mem++[.row rows]) e u) (hd:DOK dst k):Sit w0 ok0 ⟨k,qc fr dst e,mem++[.row rows]⟩ (a.put dst u) w':=by
 refine⟨(size_put ..).trans h0,h1.put (.of_below hw) hd,q9 h2 h2.size hw,ok,bs++[b],h3,h4,h5.push hw h2.size hrow hnew,?_⟩;exact qP (h6.map fun _ _ h=>h.mono (fun _ hb=>hb) (fun b hb=>hw.block b (h5.lt b hb)) (Turn.push h5.len b _)) he (fun d e=>by rw[h0];exact(hd d e).1)
end 
end Go.Av
namespace Go.Av
open Go.RowKit
section
variable{P:Program}{G:Glob}{st:ASt}{o:Oper}{ops:Array Oper}{l:List Oper}{Q:Exit->ASt->Prop}
theorem zm{r:Option Nat}{st':ASt}(hg:jq o=true)(ho:OpM P G st o st')(h:qq (r:=r) P G ops l st' Q):qq (r:=r) P G ops (o::l) st Q:=N5 hg ho h
variable{cs r:List EV}{ok:Nat->Prop}{w w':World}{bs:List PB}{mem:List PO}{us zs:List Value}{E T:TypeId}{s x:Operand}{z:Value}{bytes j k n size:Nat}{fz:Nat × Nat}{i:TypeInfo}{ns rows:List (List EV)}
theorem g7{cells:List EV}(T:TypeId)(hlen:bs.length=mem.length)(hlt:∀b,ok b->b<w.heap.size)(h1:∀v∈us,v.oneCell'=true)(hf:FitsEL ok w bs mem cells us):
  PRow ok (w.alloc (.cells us.toArray T)) (bs++[⟨some w.heap.size,1,T,us.length⟩]) (mem++[.row [cells]]) ⟨some w.heap.size,1,T,us.length⟩ [cells]:=by
 refine⟨fun r hr=>?_,fun h=>(by simp at h),fun _ _=>sI,fun g hg=>?_⟩
 ·simp at hr;subst hr;exact hf.length.symm
 ·simp at hg;subst hg;refine⟨us.toArray,heap_alloc_new w _,sI,sI,by simp[maxLen],fun i j r x hr hx=>?_⟩;cases i with
  |succ i=>simp at hr
  |zero=>
   simp at hr;subst hr;obtain⟨u,h2,h3⟩:=hf.get hx;refine⟨u,by simpa using h2,h1 u (zLo h2),h3.mono (fun _ hb=>hb) (fun b hb=>heap_alloc_old w _ (hlt b hb)) (Turn.push hlen _ _)⟩
theorem qI{cells:List EV}(ho:o.op=.box T x)(hd:qB o st.n=true)(hx:qn st.mem (evO st.fr x) cells):
  OpM P G st o ⟨st.n,qc st.fr o.dst (.pp st.mem.length 1 0 0),st.mem++[.row [cells]]⟩:=by
 intro w0 ok0 a w hG hok hs K Q hK;obtain⟨h0,h1,h2,ok,bs,h3,h4,h5,h6⟩:=hs;obtain⟨us,h7,h8,h9⟩:=kc (qg (fr:=st.fr) (a:=a) (x:=x) fun t _=>h6.1 t) hx;refine qx (w':=w.alloc (.cells us.toArray T)) (u:=.pointer (some ⟨w.heap.size,0,none⟩)) ?_ (hK _ _ (Sit.push h0 h1 h2 h3 h4 h5 h6 (qu ..) (g7 T h5.len h5.lt h8 h9) (fun g hg=>by simp at hg;omega) ?_ (zo hd)))
 ·simp[execOp,ho,Instr.box,newVar,newRow,h7]
 ·simp only[FitsE];refine⟨⟨some w.heap.size,1,T,us.length⟩,by rw[←h5.len];simp,fun rows hr=>?_⟩;simp at hr;subst hr;simp
theorem zE(ho:o.op=.alloc T)(hd:qB o st.n=true)(hz:(P.info? T).bind (·.zero)=some z)(hc:z.cells=zs.toArray)(h1:zs.all Value.oneCell'=true):
  OpM P G st o ⟨st.n,qc st.fr o.dst (.pp st.mem.length 1 0 0),st.mem++[.row [zs.map fun v=>.pub (.v v)]]⟩:=by
 intro w0 ok0 a w hG hok hs K Q hK;obtain⟨h0,h1',h2,ok,bs,h3,h4,h5,h6⟩:=hs
 have hzf:FitsEL ok w bs st.mem (zs.map fun v=>.pub (.v v)) zs:=by
  have:=(FitsEL.pub (bs:=bs) (mem:=st.mem)).2 (xW (ok:=ok) (w:=w) zs h1);simpa[List.map_map,Function.comp_def]using this
 refine qx (w':=w.alloc (.cells zs.toArray T)) (u:=.pointer (some ⟨w.heap.size,0,none⟩)) ?_ (hK _ _ (Sit.push h0 h1' h2 h3 h4 h5 h6 (qu ..) (g7 T h5.len h5.lt (fun v hv=>by rw[zLu]at h1;exact h1 v hv) hzf) (fun g hg=>by simp at hg;omega) ?_ (zo hd)))
 ·cases hi:P.info? T with
  |none=>simp[hi]at hz
  |some i=>
   have hz':i.zero=some z:=by simpa[hi]using hz
   simp[execOp,ho,Instr.alloc,zeroValue,typeInfo,hi,hz',newVar,newRow,hc]
 ·simp only[FitsE];refine⟨⟨some w.heap.size,1,T,zs.length⟩,by rw[←h5.len];simp,fun rows hr=>?_⟩;simp at hr;subst hr;simp
def putCells(r:List EV)(j:Nat)(cs:List EV):List EV:=r.take j++cs++r.drop (j+cs.length)
theorem kU(h:j+cs.length<=r.length):(putCells r j cs).length=r.length:=by
 unfold putCells;simp;omega
theorem mz(h:j+cs.length<=r.length)(t:Nat)(x:EV)(hx:(putCells r j cs)[t]?=some x):(j<=t/\t<j+cs.length/\cs[t-j]?=some x)∨((t<j∨j+cs.length<=t)/\r[t]?=some x):=by
 unfold putCells at hx;rw[List.append_assoc,List.getElem?_append]at hx;have h1:(r.take j).length=j:=by simp;omega
 rw[h1]at hx;split at hx
 ·rename_i hlt
  rw[zLx,zLc hlt]at hx;exact .inr ⟨.inl hlt,hx⟩
 ·rename_i hge
  rw[List.getElem?_append]at hx;split at hx
  ·rename_i h2
   exact .inl ⟨oM,oM,hx⟩
  ·rename_i h2
   rw[List.getElem?_drop,show j+cs.length+(t-j-cs.length)=t from oM]at hx;exact .inr ⟨.inr oM,hx⟩
theorem yr(P:Program)(g o:Nat)(t:TypeId)(fz:Nat × Nat):∀(vs:List Value)(i:Nat)(cur:Array Value)(w:World),w.heap[g]?=some (.cells cur t fz)->(fz=(0,0)∨cur.size<=fz.1)->o+i+vs.length<=cur.size->(∀v∈vs,v.oneCell'=true)->
  (storeCells ⟨g,o,none⟩ vs i).run P w=.ok () (w.setRow g (cur.toList.take (o+i)++vs++cur.toList.drop (o+i+vs.length)).toArray)
 |[],i,cur,w,hg,_,_,_=>by
  simp only[storeCells,List.append_nil,List.length_nil,Nat.add_zero,List.take_append_drop,Array.toArray_toList];rw[setRow_self w g cur t fz hg];rfl
 |v::rest,i,cur,w,hg,hfz,hl,h1=>by
  have hi:o+i<cur.size:=by simp at hl;omega
  have hadd:(⟨g,o,none⟩:Addr).add i=⟨g,o+i,none⟩:=by unfold Addr.add;split<;>simp_all
  have hcell:w.cell? ⟨g,o+i,none⟩=some cur[o+i]:=by simp[World.cell?,hg,hi]
  have hfro:w.frozen? ⟨g,o+i,none⟩=false:=by
   obtain⟨lo,hi'⟩:=fz;simp only[World.frozen?,hg,Bool.and_eq_false_iff,decide_eq_false_iff_not];rcases hfz with e|e
   ·injection e with e1 e2
    right;omega
   ·left;simp only at e;omega
  have hst:(store ((⟨g,o,none⟩:Addr).add i) v).run P w=.ok () (w.setRow g (cur.setIfInBounds (o+i) v)):=by
   rw[hadd,run_store P w _ v _ (h1 v sI),hcell];simp[hfro,setCell_eq_setRow w g (o+i) cur t fz v hg]
  have ih:=yr P g o t fz rest (i+1) (cur.setIfInBounds (o+i) v) (w.setRow g (cur.setIfInBounds (o+i) v)) (setRow_heap w g cur _ t _ hg) (by simpa using hfz) (by simp at hl⊢;omega) (fun x hx=>h1 x (by simp[hx]));simp only[storeCells,Sem.run_bind,hst,Result.andThen_ok,ih,setRow_setRow];congr 3;have e:=list_seg_step cur.toList (o+i) v rest (by simp at hl⊢;omega);simpa[Array.toList_setIfInBounds,Nat.add_assoc]using e
theorem yX(g off:Nat)(T:TypeId)(cur:Array Value)(vs:List Value)(w:World)(hg:w.heap[g]?=some (.cells cur T fz))(hz:fz=(0,0)∨cur.size<=fz.1)(hfit:off+vs.length<=cur.size)(h1:∀v∈vs,v.oneCell'=true):
  ∃cur':Array Value,(storeCells ⟨g,off,none⟩ vs 0).run P w=.ok () (w.setRow g cur')/\cur'.size=cur.size/\∀t:Nat,cur'[t]?=if off<=t/\t<off+vs.length then vs[t-off]?else cur[t]?:=by
 have h:=yr P g off T fz vs 0 cur w hg hz (by simpa using hfit) h1;simp only[Nat.add_zero]at h;refine⟨_,h,?_,fun t=>?_⟩
 ·simp;omega
 ·simp only[List.getElem?_toArray,List.append_assoc];rw[List.getElem?_append];have e:(cur.toList.take off).length=off:=by simp;omega
  rw[e]
  by_cases h2:t<off
  ·rw[zLc h2,zLy oM,zLx,zLc h2];simp
  ·rw[zLy h2,List.getElem?_append]
   by_cases h3:t-off<vs.length
   ·rw[zLc h3,zLc oM]
   ·rw[zLy h3,zLy oM,List.getElem?_drop];simp only[Array.getElem?_toList];congr 1;omega
theorem zp{p:Operand}{i:Nat}{cells:List EV}{agg:Bool}(ho:o.op=.store T p x)(hd:o.dst=none)(hp:evO st.fr p=.pp k n i j)(hm:st.mem[k]?=some (.row rows))(hn:rows.length=n)
  (hr:rows[i]?=some r) (hx:qn st.mem (evO st.fr x) cells) (ht:zS P T agg size=true) (hsz:cells.length=size) (hl:j+size<=r.length):
  OpM P G st o ⟨st.n,st.fr,st.mem.set k (.row (rows.set i (putCells r j cells)))⟩:=by
 intro w0 ok0 a w hG hok hs K Q hK;obtain⟨h0,h1',h2,ok,bs,h3,h4,h5,h6⟩:=hs;obtain⟨us,h7,h8,h9⟩:=kc (qg (fr:=st.fr) (a:=a) (x:=x) fun t _=>h6.1 t) hx;have hpe:=qg (fr:=st.fr) (a:=a) (x:=p) fun t _=>h6.1 t;rw[hp]at hpe;simp only[FitsE]at hpe;obtain⟨b,hb,hpe⟩:=hpe;obtain⟨g,hg,e⟩:=(hpe rows hm).2 hn;have hrow:=h5.row k b rows hb hm;obtain⟨cur,hc,hcs,hcl,hcm,hcell⟩:=hrow.blk g hg;have hul:us.length=size:=by rw[h9.length,hsz]
 have hrl:r.length=b.size:=hrow.size r (zLo hr);have hi:i<rows.length:=(zLg hr).1
 have hmul:i*b.size+b.size<=cur.size:=by
  rw[hcs,←Nat.succ_mul];exact Nat.mul_le_mul_right _ oM
 obtain⟨cur',h10,h11,h12⟩:=yX (P:=P) g (i*b.size+j) b.elem.t cur us w hc (b.elem.free _) oM h8;have hheap:(w.setRow g cur').heap[g]?=some (.cells cur' b.elem.t (b.elem.fzp cur'.size)):=by rw[h11];exact setRow_heap w g cur _ b.elem.t _ hc
 have hother:∀t,some t≠b.blk->(w.setRow g cur').heap[t]?=w.heap[t]?:=fun t ht=>setRow_other w g t _ (fun e=>ht (by rw[e,hg]))
 have hturn:=h5.turn (w':=w.setRow g cur') (b':=b) (rows':=rows.set i (putCells r j cells)) hb hm sI (fun t _ ht=>hother t ht) sI (fun _=>rfl) (fun g' hg'=>.inl hg') h2.size (fun hfit=>by
  refine⟨fun r' hr'=>?_,fun hnone=>(by rw[hg]at hnone;cases hnone),fun g' hg'=>(by have:=hrow.pos g' hg';simpa using this),fun g' hg'=>?_⟩
  ·rcases List.mem_or_eq_of_mem_set hr' with h|h
   ·exact hrow.size r' h
   ·rw[h,kU oM];exact hrl
  ·have:g'=g:=by rw[hg]at hg';injection hg' with hg';exact hg'.symm
   subst this;refine⟨cur',hheap,by rw[h11];exact hcs,by simpa using hcl,hcm,fun i' j' r' x' hr' hx'=>?_⟩;have hj':j'<r'.length:=(zLg hx').1
   by_cases hii:i=i'
   ·subst hii;rw[zLi hi]at hr';injection hr' with hr'
    subst hr';rw[kU oM]at hj';rw[h12];rcases mz oM j' x' hx' with⟨a1,a2,a3⟩|⟨a1,a3⟩
    ·obtain⟨u,c1,c2⟩:=h9.get a3;refine⟨u,?_,h8 u (zLo c1),hfit _ _ c2⟩;rw[zLc oM,show i*b.size+j'-(i*b.size+j)=j'-j from oM];exact c1
    ·obtain⟨u,c1,c2,c3⟩:=hcell i j' r x' hr a3;exact⟨u,by rw[zLy oM];exact c1,c2,hfit _ _ c3⟩
   ·rw[zLn hii]at hr';obtain⟨u,c1,c2,c3⟩:=hcell i' j' r' x' hr' hx';have hrl':r'.length=b.size:=hrow.size r' (zLo hr');refine⟨u,?_,c2,hfit _ _ c3⟩;rw[h12,zLy]
    ·exact c1
    ·rintro⟨d1,d2⟩;rcases Nat.lt_or_ge i i' with hlt|hge
     ·have:(i+1)*b.size<=i'*b.size:=Nat.mul_le_mul_right _ hlt;rw[Nat.succ_mul]at this;omega
     ·have:(i'+1)*b.size<=i*b.size:=Nat.mul_le_mul_right _ oM;rw[Nat.succ_mul]at this;omega)
 obtain⟨hm',hf'⟩:=hturn
 have hbs:bs.set k b=bs:=by
  apply List.ext_getElem?;intro t
  by_cases ht:k=t
  ·subst ht;rw[hb];simp[(zLg hb).1]
  ·rw[zLn ht]
 rw[hbs]at hm' hf'
 have hrun:(execOp a.eval o).run P w=.ok .skip (w.setRow g cur'):=by
  have hcells:(a.eval x).cells.size=size:=by rw[h7];simpa using hul
  simp only[execOp,ho,Instr.storeAt,Instr.sureAddr,e,Sem.run_bind,Sem.run_pure,Result.andThen_ok,storeVar,aj ht,h7];simp[h10,hul]
 unfold Oper.wp;rw[hrun];simp only[Oper.upon];refine hK _ _ ?_;have hpn:a.put o.dst undef=a:=by rw[hd];rfl
 rw[hpn];refine⟨h0,h1'.keep (.of_cells hc sI (fun k _ hk=>hother k (fun e=>hk (by rw[hg]at e;injection e)))),?_,ok,bs,h3,h4,hm',h6.map hf'⟩
 have hbelow:Below w0.heap.size w (w.setRow g cur'):=⟨rfl,rfl,rfl,sI,fun t ht=>hother t (fun e=>by
  have:=(h5.own k b rows t hb hm e.symm).1;omega)⟩
 exact h2.trans hbelow
def qN(P:Program)(T E:TypeId)(size bytes:Nat):Prop:=P.underlying T=some (.slice E)/\∃i z,P.info? E=some i/\i.zero=some z/\i.size=size/\i.bytes=bytes/\z.cells.size=size/\0<size
theorem fx:∀{rows:List (List AV)}{b off:Nat},(∀r∈rows,r.length=size)->FitsR ok w b off rows->
  ∃us:List Value,us.length=rows.length*size/\(∀u∈us,u.oneCell'=true)/\(∀(j:Nat)(v:Value),us[j]?=some v->w.cell? ⟨b,off+j,none⟩=some v)/\
   ∀(i j:Nat)(r:List AV)(x:AV),rows[i]?=some r->r[j]?=some x->∃u,us[i*size+j]?=some u/\Fits ok w x u
 |[],b,off,_,_=>⟨[],sI,sI,sI,sI⟩
 |q::qs,b,off,hs,h=>by
  simp only[FitsR]at h;obtain⟨us1,a1,a2,a3,a4⟩:=nh h.1;have hq:=hs q sI;obtain⟨us2,c1,c2,c3,c4⟩:=fx (fun r hr=>hs r (by simp[hr])) h.2;refine⟨us1++us2,by simp[a1,c1,hq,Nat.add_mul];omega,fun u hu=>?_,fun j v hv=>?_,fun i j r x hr hx=>?_⟩
  ·rcases List.mem_append.1 hu with h|h
   ·exact a2 u h
   ·exact c2 u h
  ·rw[List.getElem?_append]at hv;split at hv
   ·exact a4 j v hv
   ·rename_i hge
    have:=c3 _ v hv;rwa[show off+q.length+(j-us1.length)=off+j from oM]at this
  ·cases i with
   |zero=>
    simp at hr;subst hr;obtain⟨u,d1,d2⟩:=a3.get hx;refine⟨u,?_,d2⟩;have:j<us1.length:=(zLg d1).1;rw[Nat.zero_mul,Nat.zero_add,zLf this];exact d1
   |succ i=>
    simp at hr;obtain⟨u,d1,d2⟩:=c4 i j r x hr hx;refine⟨u,?_,d2⟩;rw[zL4 (by rw[a1,hq,Nat.add_mul];omega),show(i+1)*size+j-us1.length=i*size+j from by rw[a1,hq,Nat.add_mul];omega];exact d1
theorem OB{b:PB}(h:MemOK n ok w bs mem)(hb:bs[k]?=some b)(hm:mem[k]?=some (.row rows)):
  ∃xs:List Value,(xs.length=rows.length*b.size/\∀g,b.blk=some g->∀(j:Nat)(v:Value),xs[j]?=some v->w.cell? ⟨g,j,none⟩=some v)/\∀(i j:Nat)(r:List EV)(x:EV),rows[i]?=some r->r[j]?=some x->∃u,xs[i*b.size+j]?=some u/\u.oneCell'=true/\FitsE ok w bs mem x u:=by
 have hr:=h.row k b rows hb hm;cases hg:b.blk with
 |none=>
  have:=hr.nil hg;subst this;exact⟨[],⟨sI,sI⟩,sI⟩
 |some g=>
  obtain⟨cur,hc,h1,h2,h3,h4⟩:=hr.blk g hg;have hle:rows.length*b.size<=cur.size:=by rw[h1];exact Nat.mul_le_mul_right _ h2
  refine⟨cur.toList.take (rows.length*b.size),⟨by simp;omega,fun g' hg' j v hv=>?_⟩,fun i j r x hri hx=>?_⟩
  ·injection hg' with hg'
   subst hg';rw[cell_of_row w g j cur _ _ hc];rw[zLx]at hv;split at hv
   ·simpa using hv
   ·cases hv
  obtain⟨u,c1,c2,c3⟩:=h4 i j r x hri hx;refine⟨u,?_,c2,c3⟩;have hi:i<rows.length:=(zLg hri).1
  have hj:j<b.size:=by
   have:=(zLg hx).1;rwa[hr.size r (zLo hri)]at this
  have:(i+1)*b.size<=rows.length*b.size:=Nat.mul_le_mul_right _ hi;rw[Nat.succ_mul]at this;rw[zLx,zLc oM];simpa using c1
theorem yY(b o n:Nat):(⟨b,o,none⟩:Addr).add n=⟨b,o+n,none⟩:=Addr.add_lit b o n
theorem yE(ho:o.op=.call {callee:=.builtin .append,args:=#[s,x],argTypes:=#[T,T]}){a:Act}{v:Value}
  (h:(Builtin.append_ #[T,T] o.type #[a.eval s,a.eval x]).run P w=.ok v w'):(execOp a.eval o).run P w=.ok (.value v) w':=by
 simp[execOp,ho,resolve,invoke,builtin,h]
theorem xx(ht:qN P T E size bytes)(ty:TypeId)(a0 a1:Option Addr)(n c c1:Nat)(hnc:n<=c)(w:World):
  (Builtin.append_ #[T,T] ty #[.slice a0 n c,.slice a1 0 c1]).run P w=.ok (.slice a0 n c) w:=by
 obtain⟨hu,i,z,hi,_⟩:=ht;cases a1 with
 |none=>cases a0<;>simp[Builtin.append_,run_underlying hu,sizeOf,typeInfo,hi,Builtin.lenOf,Builtin.firstCells,hnc,storeCells]
 |some a1=>cases a0<;>simp[Builtin.append_,run_underlying hu,sizeOf,typeInfo,hi,Builtin.lenOf,Builtin.firstCells,hnc,storeCells,loadCells,loadCellsFrom]
def CS(mem:List PO):EV->List (List EV)->Prop
 | .pub (.sl rows),ns=>ns=rows.map (·.map .pub)
 | .pub (.v (.slice none 0 _)),ns=>ns=[]
 | .psl k n,ns=>mem[k]?=some (.row ns)/\ns.length=n
 |_,_=>False
theorem src_of(hmo:MemOK n ok w bs mem){e:EV}{u:Value}(h:FitsE ok w bs mem e u)(hs:CS mem e ns)(hsz:∀r∈ns,r.length=size):
  ∃(A:Option Addr)(c:Nat)(us:List Value),u=.slice A ns.length c/\us.length=ns.length*size/\(∀v∈us,v.oneCell'=true)/\(0<ns.length->∃b off,A=some ⟨b,off,none⟩/\b<w.heap.size/\∀(j:Nat)(v:Value),us[j]?=some v->w.cell? ⟨b,off+j,none⟩=some v)/\
   ∀(i j:Nat)(r:List EV)(x:EV),ns[i]?=some r->r[j]?=some x->∃v,us[i*size+j]?=some v/\FitsE ok w bs mem x v:=by
 cases e with
 |pub x=>
  cases x with
  |sl rows=>
   simp only[CS]at hs;subst hs;simp only[FitsE,Fits]at h;obtain⟨A,c,size',rfl,h1,h2,h3,h4⟩:=h
   have hsz':∀r∈rows,r.length=size:=fun r hr=>by
    have:=hsz (r.map .pub) (List.mem_map_of_mem hr);simpa using this
   rcases Nat.eq_zero_or_pos rows.length with h0|h0
   ·have:rows=[]:=List.eq_nil_of_length_eq_zero h0;subst this;exact⟨A,c,[],Y,sI,sI,sI,sI⟩
   ·obtain⟨b,off,rfl,hb,hf⟩:=h4 h0;obtain⟨us,d1,d2,d3,d4⟩:=fx hsz' hf;refine⟨_,c,us,sI,by simpa using d1,d2,fun _=>⟨b,off,Y,hmo.lt b hb,d3⟩,fun i j r x hr hx=>?_⟩;simp only[zLq,zL7]at hr;obtain⟨r0,hr0,rfl⟩:=hr;simp only[zLq,zL7]at hx;obtain⟨x0,hx0,rfl⟩:=hx;obtain⟨u,e1,e2⟩:=d4 i j r0 x0 hr0 hx0;exact⟨u,e1,by simpa only[FitsE]using e2⟩
  |v x=>
   cases x with
   |slice A m c=>
    cases A with
    |some A=>exact hs.elim
    |none=>
     cases m with
     |succ m=>exact hs.elim
     |zero=>
      simp only[CS]at hs;subst hs;simp only[FitsE,Fits]at h;obtain⟨rfl,_⟩:=h;exact⟨none,c,[],Y,sI,sI,sI,sI⟩
   |_=>exact hs.elim
  |_=>exact hs.elim
 |psl k m=>
  obtain⟨hm,rfl⟩:=hs;simp only[FitsE]at h;obtain⟨b,hb,h⟩:=h;have e:=(h ns hm).2 rfl;have hr:=hmo.row k b ns hb hm;cases hg:b.blk with
  |none=>
   have:=hr.nil hg;subst this;simp only[PB.sl,hg]at e;subst e;exact⟨none,0,[],Y,sI,sI,sI,sI⟩
  |some g=>
   obtain⟨cur,hc,h1,h2,h3,h4⟩:=hr.blk g hg;have hpos:=hr.pos g hg;have hbs:b.size=size:=by rw[←hr.size ns[0] (zLm hpos),hsz ns[0] (zLm hpos)]
   obtain⟨xs,h5,h6⟩:=OB hmo hb hm;simp only[PB.sl,hg]at e;subst e;refine⟨_,b.cap,xs,Y,by rw[h5.1,hbs],fun v hv=>?_,fun _=>⟨g,0,Y,hmo.own_lt hb hm hg,fun j v hv=>?_⟩,fun i j r x hri hx=>?_⟩
   ·obtain⟨t,ht⟩:=List.getElem?_of_mem hv;have hlt:t<ns.length*size:=by have:=(zLg ht).1;rwa[h5.1,hbs]at this
    have hsp:0<size:=by
     rcases Nat.eq_zero_or_pos size with h0|h0
     ·rw[h0]at hlt;simp at hlt
     ·exact h0
    have hi:t/size<ns.length:=Nat.div_lt_of_lt_mul (by rw[Nat.mul_comm];exact hlt);have hj:t % size<(ns[t/size]).length:=by rw[hsz _ (zLm hi)];exact Nat.mod_lt _ hsp
    obtain⟨u,c1,c2,_⟩:=h6 (t/size) (t % size) _ _ (zLe hi) (zLe hj);rw[hbs,Nat.mul_comm,Nat.div_add_mod]at c1;rw[ht]at c1;injection c1 with c1
    subst c1;exact c2
   ·rw[Nat.zero_add];exact h5.2 g hg j v hv
   ·obtain⟨u,c1,c2,c3⟩:=h6 i j r x hri hx;exact⟨u,by rw[←hbs];exact c1,c3⟩
 |_=>exact hs.elim
theorem rK(ty e0:TypeId)(ht:P.underlying T=some (.slice E))(hi:P.info? E=some i)(w:World)(g sLen sCap:Nat)(cur:Array Value)(hg:w.heap[g]?=some (.cells cur e0 fz))(hz:fz=(0,0)∨cur.size<=fz.1)
  (a:Addr) (m c:Nat) (news:List Value) (hl:news.length=m*i.size) (hnews:∀(j:Nat)(u:Value),news[j]?=some u->w.cell? (a.add j)=some u) (h1:∀u∈news,u.oneCell'=true)
  (hroom:sLen+m<=sCap) (hfit:sLen*i.size+news.length<=cur.size):
  ∃cur':Array Value,(Builtin.append_ #[T,T] ty #[.slice (some ⟨g,0,none⟩) sLen sCap,.slice (some a) m c]).run P w=.ok (.slice (some ⟨g,0,none⟩) (sLen+m) sCap) (w.setRow g cur')/\
   cur'.size=cur.size/\∀t:Nat,cur'[t]?=if sLen*i.size<=t/\t<sLen*i.size+news.length then news[t-sLen*i.size]?else cur[t]?:=by
 have hf:=run_firstCells_some (P:=P) w i.size m a m c news hl hnews;obtain⟨cur',h2,h3,h4⟩:=yX (P:=P) g (sLen*i.size) e0 cur news w hg hz hfit h1;refine⟨cur',?_,h3,h4⟩;simp[Builtin.append_,run_underlying ht,sizeOf,typeInfo,hi,Builtin.lenOf,hroom,hf,yY,h2]
theorem ij(ht:qN P T E size bytes)(ty:TypeId)(w:World)(b:PB)(n:Nat)(cur:Array Value)
  (hb:match b.blk with|none=>n=0|some g=>w.heap[g]?=some (.cells cur b.elem.t (b.elem.fzp cur.size))/\cur.size=b.cap*size/\n<=b.cap/\b.cap<=maxLen)
  (ba off m c:Nat) (news:List Value) (hl:news.length=m*size) (hnews:∀(j:Nat)(u:Value),news[j]?=some u->w.cell? ⟨ba,off+j,none⟩=some u) (h1:∀u∈news,u.oneCell'=true) (hm:0<m)
  (hby:(n+m)*bytes<=140737488355328) (hmax:n+m<=maxLen) (hcells:∀t:Nat,t<n*size->∃v,cur[t]?=some v/\v.oneCell'=true):
  ∃(w':World)(g':Nat)(cap':Nat)(e':EK)(cur':Array Value),(Builtin.append_ #[T,T] ty #[b.sl n,.slice (some ⟨ba,off,none⟩) m c]).run P w=.ok (.slice (some ⟨g',0,none⟩) (n+m) cap') w'/\
   w'.heap[g']?=some (.cells cur' e'.t (e'.fzp cur'.size))/\cur'.size=cap'*size/\n+m<=cap'/\cap'<=maxLen/\(∀t:Nat,t<n*size->cur'[t]?=cur[t]?)/\(∀t:Nat,t<m*size->cur'[n*size+t]?=news[t]?)/\
   (b.blk=some g'∨w.heap.size=g')/\w.grownBy w' b.blk:=by
 obtain⟨hu,i,z,hi,hz,hsz,hbt,hzs,hpos⟩:=ht;subst hsz;subst hbt;have hnews':∀(j:Nat)(u:Value),news[j]?=some u->w.cell? ((⟨ba,off,none⟩:Addr).add j)=some u:=fun j u h=>by rw[yY];exact hnews j u h
 have h63:((n+m:Nat):Int)<=9223372036854775807:=by unfold maxLen at hmax;omega
 have grown:∀(old:Nat)(olds:List Value),olds.length=n*i.size->(∀t:Nat,t<n*i.size->olds[t]?=cur[t]?)->old<n+m->
   (Builtin.append_ #[T,T] ty #[b.sl n,.slice (some ⟨ba,off,none⟩) m c]).run P w=.ok (.slice (some ⟨w.heap.size,0,none⟩) (n+m) (grownCap w (n+m) old E)) (w.drew.alloc (.cells (olds.toArray++news.toArray++Builtin.zeroCells z.cells (grownCap w (n+m) old E-(n+m))) E))->
   ∃(w':World)(g':Nat)(cap':Nat)(e':EK)(cur':Array Value),(Builtin.append_ #[T,T] ty #[b.sl n,.slice (some ⟨ba,off,none⟩) m c]).run P w=.ok (.slice (some ⟨g',0,none⟩) (n+m) cap') w'/\
   w'.heap[g']?=some (.cells cur' e'.t (e'.fzp cur'.size))/\cur'.size=cap'*i.size/\n+m<=cap'/\cap'<=maxLen/\(∀t:Nat,t<n*i.size->cur'[t]?=cur[t]?)/\(∀t:Nat,t<m*i.size->cur'[n*i.size+t]?=news[t]?)/\
   (b.blk=some g'∨w.heap.size=g')/\w.grownBy w' b.blk:=by
  intro old olds ho hc ho2 hrun;have hge:=grownCap_ge w (n+m) old E;refine⟨_,_,_,(⟨E,false⟩:EK),_,hrun,heap_alloc_new w.drew _,?_,hge,grownCap_le_maxLen w (n+m) old E hmax,fun t ht=>?_,fun t ht=>?_,.inr Y,⟨Y,Y,Y,sI,fun k hk _=>heap_alloc_old w.drew _ hk⟩⟩
  ·simp only[Array.size_append,List.size_toArray,size_zeroCells,hzs,ho,hl,←Nat.add_mul];congr 1;omega
  ·rw[Array.append_assoc,Array.getElem?_append_left (by simpa[ho]using ht)];simpa using hc t ht
  ·rw[Array.append_assoc,Array.getElem?_append_right (by simp[ho]),Array.getElem?_append_left (by simp[ho,hl];omega)];simp[ho]
 cases hg:b.blk with
 |none=>
  rw[hg]at hb;simp only at hb;subst hb;have hr:=run_append_nil (P:=P) w T ty E i z hu hi hz ⟨ba,off,none⟩ m c news hl hnews' hm oM (by simp only[Nat.zero_add]at hby;omega)
  have h:=grown 0 [] sI (fun t ht=>by simp at ht) oM (by
   simp only[PB.sl,hg,Nat.zero_add];simpa using hr)
  rw[hg]at h;exact h
 |some g=>
  rw[hg]at hb;simp only at hb;obtain⟨hc,hcs,hcn,hcm⟩:=hb
  by_cases hroom:n+m<=b.cap
  ·have hfit:n*i.size+news.length<=cur.size:=by rw[hl,hcs,←Nat.add_mul];exact Nat.mul_le_mul_right _ hroom
   obtain⟨cur',h2,h3,h4⟩:=rK (P:=P) ty b.elem.t hu hi w g n b.cap cur hc (b.elem.free _) ⟨ba,off,none⟩ m c news hl hnews' h1 hroom hfit;refine⟨w.setRow g cur',g,b.cap,b.elem,cur',by simp only[PB.sl,hg];exact h2,(by rw[h3];exact setRow_heap w g cur _ b.elem.t _ hc),by rw[h3];exact hcs,hroom,hcm,fun t ht=>?_,fun t ht=>?_,.inl Y,⟨Y,Y,Y,sI,fun k _ hk=>setRow_other w g k _ (fun e=>hk (by rw[e]))⟩⟩
   ·rw[h4,zLy oM]
   ·rw[h4,zLc (by rw[hl];omega)];congr 1;omega
  ·have hcur:n*i.size<=cur.size:=by rw[hcs];exact Nat.mul_le_mul_right _ hcn
   have hr:=run_append_grow (P:=P) w T ty E i z hu hi hz ⟨g,0,none⟩ n b.cap (cur.toList.take (n*i.size)) (by simp;omega) (fun j v hv=>by
    rw[yY,cell_of_row w g _ cur _ _ hc];rw[zLx]at hv;split at hv
    ·simpa using hv
    ·cases hv) ⟨ba,off,none⟩ m c news hl hnews' oM h63 (growslice_fits oM hby)
   have h:=grown b.cap (cur.toList.take (n*i.size)) (by simp;omega) (fun t ht=>by rw[zLx,zLc ht];simp) oM (by
    simp only[PB.sl,hg];exact hr)
   rw[hg]at h;exact h
theorem CO{t:Nat}(h:t<n*size):t/size<n/\t % size<size/\(t/size)*size+t % size=t:=by
 have hsp:0<size:=by
  rcases Nat.eq_zero_or_pos size with h0|h0
  ·subst h0;simp at h
  ·exact h0
 exact⟨Nat.div_lt_of_lt_mul (by rw[Nat.mul_comm];exact h),Nat.mod_lt _ hsp,by rw[Nat.mul_comm,Nat.div_add_mod]⟩
theorem cY{bs':List PB}{mem':List PO}{cur':Array Value}
  (hs2:∀r∈ns,r.length=size)
  (ho:∀(i j:Nat)(r:List EV)(x:EV),rows[i]?=some r->r[j]?=some x->∃u,cur'[i*size+j]?=some u/\u.oneCell'=true/\FitsE ok w' bs' mem' x u)
  (hn:∀t:Nat,t<ns.length*size->cur'[rows.length*size+t]?=us[t]?) (h1:∀v∈us,v.oneCell'=true)
  (hu:∀(i j:Nat)(r:List EV)(x:EV),ns[i]?=some r->r[j]?=some x->∃v,us[i*size+j]?=some v/\FitsE ok w' bs' mem' x v):
  ∀(i j:Nat)(r:List EV)(x:EV),(rows++ns)[i]?=some r->r[j]?=some x->∃u,cur'[i*size+j]?=some u/\u.oneCell'=true/\FitsE ok w' bs' mem' x u:=by
 intro i j r x hr hx;rw[List.getElem?_append]at hr;split at hr
 ·exact ho i j r x hr hx
 ·rename_i hge
  obtain⟨v,c1,c2⟩:=hu _ j r x hr hx;have hi:i-rows.length<ns.length:=(zLg hr).1
  have hj:j<size:=by
   have:=(zLg hx).1;rwa[hs2 r (zLo hr)]at this
  have hlt:(i-rows.length)*size+j<ns.length*size:=by
   have:(i-rows.length+1)*size<=ns.length*size:=Nat.mul_le_mul_right _ hi;rw[Nat.succ_mul]at this;omega
  refine⟨v,?_,h1 v (zLo c1),c2⟩;have:=hn _ hlt;rw[c1]at this;rw[←this];congr 1;have h2:i*size=rows.length*size+(i-rows.length)*size:=by rw[←Nat.add_mul];congr 1;omega
  omega
theorem wn(ho:o.op=.call {callee:=.builtin .append,args:=#[s,x],argTypes:=#[T,T]})(hd:qB o st.n=true)
  (hs:evO st.fr s=.psl k n) (hm:st.mem[k]?=some (.row rows)) (hn:rows.length=n) (hx:CS st.mem (evO st.fr x) ns) (ht:qN P T E size bytes) (hs1:∀r∈rows,r.length=size) (hs2:∀r∈ns,r.length=size)
  (hby:(n+ns.length)*bytes<=140737488355328) (hmax:n+ns.length<=maxLen):
  OpM P G st o ⟨st.n,qc st.fr o.dst (.psl k (n+ns.length)),st.mem.set k (.row (rows++ns))⟩:=by
 intro w0 ok0 a w hG hok hsit K Q hK;obtain⟨h0,h1',h2,ok,bs,h3,h4,h5,h6⟩:=hsit;have hse:=qg (fr:=st.fr) (a:=a) (x:=s) fun t _=>h6.1 t;rw[hs]at hse;simp only[FitsE]at hse;obtain⟨b,hb,hse⟩:=hse;have e:=(hse rows hm).2 hn;obtain⟨A,c,us,ex,u1,u2,u3,u4⟩:=src_of h5 (qg (fr:=st.fr) (a:=a) (x:=x) fun t _=>h6.1 t) hx hs2;have hrow:=h5.row k b rows hb hm;have hkl:k<bs.length:=(zLg hb).1;have hkm:k<st.mem.length:=(zLg hm).1;rcases Nat.eq_zero_or_pos ns.length with hz|hpos
 ·-- nothing comes
  have hns:ns=[]:=List.eq_nil_of_length_eq_zero hz;subst hns
  have hrun:(execOp a.eval o).run P w=.ok (.value (b.sl n)) w:=by
   refine yE ho ?_;rw[e,ex];cases hg:b.blk with
   |none=>
    have:=hrow.nil hg;subst this;simp at hn;subst hn;simp only[PB.sl,hg];exact xx ht o.type none A 0 0 c (zLl _) w
   |some g=>
    obtain⟨_,_,_,hc,_⟩:=hrow.blk g hg;simp only[PB.sl,hg];exact xx ht o.type _ A n b.cap c oM w
  refine qx hrun (hK _ _ ?_)
  have hms:st.mem.set k (.row (rows++[]))=st.mem:=by
   apply List.ext_getElem?;intro t
   by_cases hkt:k=t
   ·subst hkt;rw[zLi hkm,hm];simp
   ·rw[zLn hkt]
  rw[hms];refine⟨(size_put ..).trans h0,h1'.put (.refl _) (zo hd),h2,ok,bs,h3,h4,h5,?_⟩;refine qP h6 ?_ (fun d hdd=>by rw[h0];exact jN hd d hdd);simp only[FitsE];refine⟨b,hb,fun rows' hm'=>?_⟩;rw[hm]at hm';injection hm' with hm'
  injection hm' with hm'
  subst hm';exact⟨by simp[hn],fun _=>rfl⟩
 ·obtain⟨ba,off,rfl,hbl,hcell⟩:=u3 hpos
  obtain⟨cur,hcur⟩:∃cur:Array Value,(match b.blk with|none=>n=0|some g=>w.heap[g]?=some (.cells cur b.elem.t (b.elem.fzp cur.size))/\cur.size=b.cap*size/\n<=b.cap/\b.cap<=maxLen)/\
    ∀(i j:Nat)(r:List EV)(x:EV),rows[i]?=some r->r[j]?=some x->∃u,cur[i*size+j]?=some u/\u.oneCell'=true/\FitsE ok w bs st.mem x u:=by
   cases hg:b.blk with
   |none=>
    have:=hrow.nil hg;subst this;exact⟨#[],by simpa using hn.symm,sI⟩
   |some g=>
    obtain⟨cur,c1,c2,c3,c4,c5⟩:=hrow.blk g hg;have hp:=hrow.pos g hg;have hbs:b.size=size:=by rw[←hrow.size rows[0] (zLm hp),hs1 rows[0] (zLm hp)]
    rw[hbs]at c2 c5;exact⟨cur,⟨c1,c2,oM,c4⟩,c5⟩
  obtain⟨hcur1,hcur2⟩:=hcur
  have hkd:∀w',w.grownBy w' b.blk->KD w w':=fun w' r9=>by
   cases hg:b.blk with
   |none=>exact⟨r9.size,fun D o hD _=>by rw[r9.block D (zLr.1 hD).1 (by simp[hg])];exact hD⟩
   |some g=>
    obtain⟨cur,c1,_⟩:=hrow.blk g hg;exact .of_cells c1 r9.size (fun k hk hne=>r9.block k hk (by rw[hg];intro e;injection e with e;exact hne e))
  obtain⟨w',g',cap',e',cur',r1,r2,r3,r4,r5,r6,r7,r8,r9⟩:=ij ht o.type w b n cur hcur1 ba off ns.length c us u1 hcell u2 hpos hby hmax (fun t htt=>by
   obtain⟨i1,i2,i3⟩:=CO htt;have hi:t/size<rows.length:=oM;have hj:t % size<(rows[t/size]).length:=by rw[hs1 _ (zLm hi)];exact i2
   obtain⟨u,c1,c2,_⟩:=hcur2 _ _ _ _ (zLe hi) (zLe hj);rw[i3]at c1;exact⟨u,c1,c2⟩)
  have hrun:(execOp a.eval o).run P w=.ok (.value (.slice (some ⟨g',0,none⟩) (n+ns.length) cap')) w':=yE ho (by rw[e,ex];exact r1)
  have hturn:=h5.turn (w':=w') (b':=⟨some g',cap',e',size⟩) (rows':=rows++ns) hb hm r9.size (fun t htt htn=>r9.block t htt htn) sI (fun hl=>by rw[List.length_append]at hl;omega)
   (fun g hg=>by
    simp at hg;subst hg;rcases r8 with h|h
    ·exact .inl h
    ·exact .inr (Nat.le_of_eq h)) h2.size (fun hfit=>by
   refine⟨fun r hr=>?_,fun hnn=>(by simp at hnn),fun _ _=>(by simp;omega),fun g hg=>?_⟩
   ·rcases List.mem_append.1 hr with h|h
    ·exact hs1 r h
    ·exact hs2 r h
   ·simp at hg;subst hg;refine⟨cur',r2,r3,by simpa[hn]using r4,r5,?_⟩;refine cY hs2 (fun i j r x hr hx=>?_) (fun t htt=>by rw[hn];exact r7 t htt) u2 (fun i j r x hr hx=>?_)
    ·obtain⟨u,c1,c2,c3⟩:=hcur2 i j r x hr hx;refine⟨u,?_,c2,hfit _ _ c3⟩;have hi:i<rows.length:=(zLg hr).1
     have hj:j<size:=by
      have:=(zLg hx).1;rwa[hs1 r (zLo hr)]at this
     rw[r6]
     ·exact c1
     ·have h20:(i+1)*size<=n*size:=Nat.mul_le_mul_right _ oM;have h21:(i+1)*size=i*size+size:=Nat.succ_mul i size;have h22:i*size+j<i*size+size:=Nat.add_lt_add_left hj _;exact Nat.lt_of_lt_of_le h22 (by rw[←h21];exact h20)
    ·obtain⟨v,c1,c2⟩:=u4 i j r x hr hx;exact⟨v,c1,hfit _ _ c2⟩)
  obtain⟨hm',hf'⟩:=hturn;refine qx hrun (hK _ _ ⟨(size_put ..).trans h0,h1'.put (hkd w' r9) (zo hd),?_,ok,bs.set k ⟨some g',cap',e',size⟩,h3,h4,hm',?_⟩)
  ·refine h2.trans ⟨r9.os,r9.tape,r9.output,r9.size,fun t htt=>r9.block t (Nat.lt_of_lt_of_le htt h2.size) fun e=>?_⟩;have:=(h5.own k b rows t hb hm e.symm).1;omega
  ·refine qP (h6.map hf') ?_ (fun d hdd=>by rw[h0];exact jN hd d hdd);simp only[FitsE];refine⟨⟨some g',cap',e',size⟩,by simp[hkl],fun rows' hm''=>?_⟩;rw[zLi hkm]at hm'';injection hm'' with hm''
   injection hm'' with hm''
   subst hm'';exact⟨by simp[hn],fun _=>rfl⟩
theorem jF{c0:Nat}(ho:o.op=.call {callee:=.builtin .append,args:=#[s,x],argTypes:=#[T,T]})(hd:qB o st.n=true)
  (hs:evO st.fr s=.pub (.v (.slice none 0 c0))) (hc0:c0=0) (hx:CS st.mem (evO st.fr x) ns) (ht:qN P T E size bytes) (hs2:∀r∈ns,r.length=size)
  (hby:ns.length*bytes<=140737488355328) (hmax:ns.length<=maxLen):
  OpM P G st o ⟨st.n,qc st.fr o.dst (.psl st.mem.length ns.length),st.mem++[.row ns]⟩:=by
 subst hc0;intro w0 ok0 a w hG hok hsit K Q hK;obtain⟨h0,h1',h2,ok,bs,h3,h4,h5,h6⟩:=hsit
 have e:a.eval s=.slice none 0 0:=by
  have hse:=qg (fr:=st.fr) (a:=a) (x:=s) fun t _=>h6.1 t;rw[hs]at hse;simp only[FitsE,Fits]at hse;exact hse.1
 obtain⟨A,c,us,ex,u1,u2,u3,u4⟩:=src_of h5 (qg (fr:=st.fr) (a:=a) (x:=x) fun t _=>h6.1 t) hx hs2;have ht':=Turn.push h5.len;rcases Nat.eq_zero_or_pos ns.length with hz|hpos
 ·have hns:ns=[]:=List.eq_nil_of_length_eq_zero hz;subst hns;have hrun:(execOp a.eval o).run P w=.ok (.value (.slice none 0 0)) w:=yE ho (by rw[e,ex];exact xx ht o.type none A 0 0 c (zLl _) w);refine qx hrun (hK _ _ (Sit.push (b:=⟨none,0,E,size⟩) h0 h1' h2 h3 h4 h5 h6 (Below.refl _ _) ⟨sI,fun _=>rfl,fun g hg=>(by simp at hg),fun g hg=>(by simp at hg)⟩ (fun g hg=>by simp at hg) ?_ (zo hd)));simp only[FitsE];refine⟨⟨none,0,E,size⟩,by rw[←h5.len];simp,fun rows hr=>?_⟩;simp at hr;subst hr;exact⟨sI,fun _=>rfl⟩
 ·obtain⟨ba,off,rfl,hbl,hcell⟩:=u3 hpos;obtain⟨w',g',cap',e',cur',r1,r2,r3,r4,r5,r6,r7,r8,r9⟩:=ij ht o.type w ⟨none,0,E,size⟩ 0 #[] rfl ba off ns.length c us u1 hcell u2 hpos (by simpa using hby) (by simpa using hmax) (fun t htt=>by simp at htt);have hg':w.heap.size=g':=r8.resolve_left sI;have hrun:(execOp a.eval o).run P w=.ok (.value (.slice (some ⟨g',0,none⟩) (0+ns.length) cap')) w':=yE ho (by rw[e,ex];exact r1);have hbel:Below w.heap.size w w':=⟨r9.os,r9.tape,r9.output,r9.size,fun t htt=>r9.block t htt sI⟩;refine qx hrun (hK _ _ (Sit.push (b:=⟨some g',cap',e',size⟩) h0 h1' h2 h3 h4 h5 h6 hbel ⟨hs2,fun hnn=>(by simp at hnn),fun _ _=>hpos,fun g hg=>?_⟩ (fun g hg=>by simp at hg;omega) ?_ (zo hd)))
  ·simp at hg;subst hg;refine⟨cur',r2,r3,by simpa using r4,r5,fun i j r x hr hx=>?_⟩;have hfit:∀(e:EV)(u:Value),FitsE ok w bs st.mem e u->FitsE ok w' (bs++[⟨some g',cap',e',size⟩]) (st.mem++[.row ns]) e u:=fun e u h=>h.mono (fun _ hb=>hb) (fun b hb=>hbel.block b (h5.lt b hb)) (ht' _ _)
   have:=cY (rows:=[]) (ns:=ns) (cur':=cur') (us:=us) (ok:=ok) (w':=w') (bs':=bs++[⟨some g',cap',e',size⟩]) (mem':=st.mem++[.row ns]) hs2 sI (fun t htt=>by simpa using r7 t htt) u2 (fun i j r x hr hx=>by
    obtain⟨v,c1,c2⟩:=u4 i j r x hr hx;exact⟨v,c1,hfit _ _ c2⟩) i j r x (by simpa using hr) hx
   exact this
  ·simp only[FitsE];refine⟨⟨some g',cap',e',size⟩,by rw[←h5.len];simp,fun rows hr=>?_⟩;simp at hr;subst hr;exact⟨zLl _,fun _=>by simp[PB.sl]⟩
theorem O0{m:Int}(ho:o.op=.makeSlice T x x)(hd:qB o st.n=true)(hx:evO st.fr x=I m)
  (hu:P.underlying T=some (.slice E)) (hi:P.info? E=some i) (hz:i.zero=some z) (hsz:i.size=size) (hbt:i.bytes=bytes) (hc:z.cells=zs.toArray) (hzl:zs.length=size) (h1:zs.all Value.oneCell'=true) (_hsp:0<size)
  (hm:0<m) (hm2:m<=1000000000) (hb:bytes<=1000):
  OpM P G st o ⟨st.n,qc st.fr o.dst (.psl st.mem.length m.toNat),st.mem++[.row (List.replicate m.toNat (zs.map fun v=>.pub (.v v)))]⟩:=by
 intro w0 ok0 a w hG hok hsit K Q hK;obtain⟨h0,h1',h2,ok,bs,h3,h4,h5,h6⟩:=hsit
 have e:a.eval x=.int .i64 m:=by
  have hse:=qg (fr:=st.fr) (a:=a) (x:=x) fun t _=>h6.1 t;rw[hx]at hse;simp only[FitsE,Fits]at hse;exact hse.1
 have hbytes:(i.bytes:Int)*m<=281474976710656:=by
  have h:(i.bytes:Int)*m<=1000*1000000000:=Int.mul_le_mul oM hm2 oM oM;omega
 have hmk:=run_make (P:=P) w T E i z hu hi hz .i64 .i64 m m oM oM hbytes oM;have hsize:z.cells.size=size:=by rw[hc];simpa using hzl
 have hrun:(execOp a.eval o).run P w=.ok (.value (.slice (some ⟨w.heap.size,0,none⟩) m.toNat m.toNat)) (w.alloc (.cells (madeCells z.cells (m.toNat*i.size)) E)):=by
  simp[execOp,ho,e,hmk]
 have hcs:(madeCells z.cells (m.toNat*i.size)).size=m.toNat*size:=by simp[madeCells,hsz]
 refine qx hrun (hK _ _ (Sit.push (b:=⟨some w.heap.size,m.toNat,E,size⟩) h0 h1' h2 h3 h4 h5 h6 (qu ..) ⟨fun r hr=>?_,fun hnn=>(by simp at hnn),fun _ _=>(by simp;omega),fun g hg=>?_⟩ (fun g hg=>by simp at hg;omega) ?_ (zo hd)))
 ·have:=List.eq_of_mem_replicate hr;rw[this];simpa using hzl
 ·simp at hg;subst hg;refine⟨_,heap_alloc_new w _,hcs,sI,by simp only[maxLen];omega,fun i' j r x hr hx=>?_⟩;have hil:i'<m.toNat:=by have:=(zLg hr).1;simpa using this
  have hr':=List.eq_of_mem_replicate (zLo hr);subst hr';simp only[zLq,zL7]at hx;obtain⟨v,hv,rfl⟩:=hx;have hj:j<size:=by have:=(zLg hv).1;omega
  have hlt:i'*size+j<m.toNat*size:=by
   have:(i'+1)*size<=m.toNat*size:=Nat.mul_le_mul_right _ hil;rw[Nat.succ_mul]at this;omega
  refine⟨v,?_,by rw[zLu]at h1;exact h1 v (zLo hv),qA (by rw[zLu]at h1;exact h1 v (zLo hv))⟩;have hmod:(i'*size+j) % size=j:=by rw[Nat.mul_comm,Nat.mul_add_mod,Nat.mod_eq_of_lt hj]
  simp only[madeCells,hsz,Array.getElem?_map];rw[zL5 (by simpa using hlt)];simp only[Array.getElem_range,Option.map_some,hsize,hmod];have hv':z.cells[j]?=some v:=by rw[hc];simpa using hv
  simp[Array.getElem!_eq_getD,zLw,hv']
 ·simp only[FitsE];refine⟨⟨some w.heap.size,m.toNat,E,size⟩,by rw[←h5.len];simp,fun rows hr=>?_⟩;simp at hr;subst hr;exact⟨sI,fun _=>rfl⟩
end
mutual
/-- What stands in a slot names parts below k alone. -/
def EV.lt(k:Nat):EV->Prop
 | .pub _=>True
 | .psl l _=>l<k
 | .pp l _ _ _=>l<k
 | .ppT l _ _=>l<k
 | .pslT l _ _=>l<k
 | .mix cs=>EV.ltL k cs
 | .fnm _ fs cs=>EV.ltL k fs/\EV.ltL k cs
 | .mpv l=>l<k
 | .tpl cs=>EV.ltL k cs
def EV.ltL(k:Nat):List EV->Prop
 |[]=>True
 |x::xs=>x.lt k/\EV.ltL k xs
end
theorem EV.ltL_iff{k:Nat}:∀{l:List EV},EV.ltL k l↔∀x∈l,x.lt k
 |[]=>by simp[EV.ltL]
 |x::xs=>by simp[EV.ltL,EV.ltL_iff (l:=xs)]
mutual
theorem b8{ok:Nat->Prop}{w:World}{bs:List PB}{mem:List PO}{k:Nat}:∀{e:EV}{u:Value},e.lt k->FitsE ok w bs mem e u->FitsE ok w (bs.take k) (mem.take k) e u
 | .pub x,u,_,h=>by simpa only[FitsE]using h
 | .psl l n,u,hl,h=>by
  simp only[FitsE]at h⊢;obtain⟨b,hb,h⟩:=h;simp only[EV.lt]at hl;exact⟨b,by rw[zLx,zLc hl];exact hb,fun rows hm=>h rows (by rwa[zLx,zLc hl]at hm)⟩
 | .pp l n i j,u,hl,h=>by
  simp only[FitsE]at h⊢;obtain⟨b,hb,h⟩:=h;simp only[EV.lt]at hl;exact⟨b,by rw[zLx,zLc hl];exact hb,fun rows hm=>h rows (by rwa[zLx,zLc hl]at hm)⟩
 | .ppT l n T,u,hl,h=>by
  simp only[FitsE]at h⊢;obtain⟨b,hb,h⟩:=h;simp only[EV.lt]at hl;exact⟨b,by rw[zLx,zLc hl];exact hb,fun rows hm=>h rows (by rwa[zLx,zLc hl]at hm)⟩
 | .pslT l n T,u,hl,h=>by
  simp only[FitsE]at h⊢;obtain⟨b,hb,h⟩:=h;simp only[EV.lt]at hl;exact⟨b,by rw[zLx,zLc hl];exact hb,fun rows hm=>h rows (by rwa[zLx,zLc hl]at hm)⟩
 | .mix cs,u,he,h=>by
  simp only[FitsE]at h⊢;simp only[EV.lt]at he;obtain⟨vs,e,h1,h2⟩:=h;exact⟨vs,e,h1,xg he h2⟩
 | .fnm f fs cs,u,he,h=>by
  simp only[FitsE]at h⊢;simp only[EV.lt]at he;obtain⟨us,vs,e,h1,h2⟩:=h;exact⟨us,vs,e,xg he.1 h1,xg he.2 h2⟩
 | .tpl cs,u,he,h=>by
  simp only[FitsE]at h⊢;simp only[EV.lt]at he;obtain⟨vs,e,h2⟩:=h;exact⟨vs,e,xg he h2⟩
 | .mpv l,u,hl,h=>by
  simp only[FitsE]at h⊢;obtain⟨b,hb,h⟩:=h;simp only[EV.lt]at hl;exact⟨b,by rw[zLx,zLc hl];exact hb,fun es hm=>h es (by rwa[zLx,zLc hl]at hm)⟩
theorem xg{ok:Nat->Prop}{w:World}{bs:List PB}{mem:List PO}{k:Nat}:∀{l:List EV}{us:List Value},EV.ltL k l->FitsEL ok w bs mem l us->FitsEL ok w (bs.take k) (mem.take k) l us
 |[],us,_,h=>by simpa only[FitsEL]using h
 |x::xs,us,hl,h=>by
  simp only[FitsEL]at h⊢;simp only[EV.ltL]at hl;obtain⟨u,us',e,h1,h2⟩:=h;exact⟨u,us',e,b8 hl.1 h1,xg hl.2 h2⟩
end
mutual
theorem yt{ok:Nat->Prop}{w:World}{bs:List PB}{mem:List PO}:∀{e:EV}{u:Value},FitsE ok w bs mem e u->e.lt bs.length
 | .pub x,u,h=>by simp only[EV.lt]
 | .psl l n,u,h=>by
  simp only[FitsE]at h;simp only[EV.lt];obtain⟨b,hb,_⟩:=h;exact(zLg hb).1
 | .pp l n i j,u,h=>by
  simp only[FitsE]at h;simp only[EV.lt];obtain⟨b,hb,_⟩:=h;exact(zLg hb).1
 | .ppT l n T,u,h=>by
  simp only[FitsE]at h;simp only[EV.lt];obtain⟨b,hb,_⟩:=h;exact(zLg hb).1
 | .pslT l n T,u,h=>by
  simp only[FitsE]at h;simp only[EV.lt];obtain⟨b,hb,_⟩:=h;exact(zLg hb).1
 | .mix cs,u,h=>by
  simp only[FitsE]at h;simp only[EV.lt];obtain⟨vs,_,_,h2⟩:=h;exact vn h2
 | .fnm f fs cs,u,h=>by
  simp only[FitsE]at h;simp only[EV.lt];obtain⟨us,vs,_,h1,h2⟩:=h;exact⟨vn h1,vn h2⟩
 | .tpl cs,u,h=>by
  simp only[FitsE]at h;simp only[EV.lt];obtain⟨vs,_,h2⟩:=h;exact vn h2
 | .mpv l,u,h=>by
  simp only[FitsE]at h;simp only[EV.lt];obtain⟨b,hb,_⟩:=h;exact(zLg hb).1
theorem vn{ok:Nat->Prop}{w:World}{bs:List PB}{mem:List PO}:∀{l:List EV}{us:List Value},FitsEL ok w bs mem l us->EV.ltL bs.length l
 |[],us,_=>by simp only[EV.ltL]
 |x::xs,us,h=>by
  simp only[FitsEL]at h;simp only[EV.ltL];obtain⟨u,us',_,h1,h2⟩:=h;exact⟨yt h1,vn h2⟩
end
variable{n:NS}{fr:Nat->EV}{mem:List PO}
theorem aX(k:Nat)(hf:∀t,(fr t).lt k)(hm:∀(l:Nat)(rows:List (List EV)),l<k->mem[l]?=some (.row rows)->∀r∈rows,∀x∈r,x.lt k)(hgh:∀p∈n.gh,p.1.lt k)(hme:∀(l:Nat)(es:List (Value × EV)),l<k->mem[l]?=some (.map es)->∀p∈es,p.2.lt k):Weak ⟨n,fr,mem⟩ ⟨n,fr,mem.take k⟩:=by
 intro w0 ok0 a w ⟨h0,h1,h2,ok,bs,h3,h4,h5,h6⟩
 have get:∀{α:Type}(l:Nat)(xs:List α)(x:α),(xs.take k)[l]?=some x->l<k/\xs[l]?=some x:=fun l xs x h=>by
  rw[zLx]at h;split at h
  ·rename_i hl;exact⟨hl,h⟩
  ·cases h
 refine⟨h0,h1,h2,ok,bs.take k,h3,h4,⟨?_,h5.lt,fun l b rows hb hmm=>?_,fun l b es hb hmm=>?_,fun l b o g hb hmm ho hg=>?_,fun l l' b b' o o' g hb hmm ho hb' hmm' ho' hg hg'=>?_⟩,fun t=>b8 (hf t) (h6.1 t),fun p hp=>b8 (hgh p hp) (h6.2 p hp)⟩
 ·have:=h5.len;simp only at this⊢;rw[List.length_take,List.length_take,this]
 ·obtain⟨hl,hb⟩:=get l bs b hb;obtain⟨_,hmm⟩:=get l mem _ hmm;have hr:=h5.row l b rows hb hmm;refine⟨hr.size,hr.nil,hr.pos,fun g hg=>?_⟩;obtain⟨cur,c1,c2,c3,c4,c5⟩:=hr.blk g hg;refine⟨cur,c1,c2,c3,c4,fun i j r x hri hx=>?_⟩;obtain⟨u,d1,d2,d3⟩:=c5 i j r x hri hx;exact⟨u,d1,d2,b8 (hm l rows hl hmm r (zLo hri) x (zLo hx)) d3⟩
 ·obtain⟨hl,hb⟩:=get l bs b hb;obtain⟨_,hmm⟩:=get l mem _ hmm;obtain⟨g,arr,c1,c2,c3,c4⟩:=h5.mp l b es hb hmm;refine⟨g,arr,c1,c2,c3,fun i q x hx=>?_⟩;obtain⟨v,d1,d2⟩:=c4 i q x hx;exact⟨v,d1,b8 (hme l es hl hmm (q,x) (zLo hx)) d2⟩
 ·obtain⟨_,hb⟩:=get l bs b hb;obtain⟨_,hmm⟩:=get l mem _ hmm;exact h5.own' l b o g hb hmm ho hg
 ·obtain⟨_,hb⟩:=get l bs b hb;obtain⟨_,hmm⟩:=get l mem _ hmm;obtain⟨_,hb'⟩:=get l' bs b' hb';obtain⟨_,hmm'⟩:=get l' mem _ hmm';exact h5.dist' l l' b b' o o' g hb hmm ho hb' hmm' ho' hg hg'
theorem yZ(d:Tmp)(h:fr d=.pub (.v (.slice none 0 0))):Weak ⟨n,fr,mem⟩ ⟨n,qc fr (some d) (.psl mem.length 0),mem++[.row []]⟩:=by
 intro w0 ok0 a w ⟨h0,h1,h2,ok,bs,h3,h4,h5,h6⟩;have ht:=Turn.push h5.len ⟨none,0,0,0⟩ (.row []);refine⟨h0,h1,h2,ok,bs++[⟨none,0,0,0⟩],h3,h4,h5.push (Below.refl _ _) h2.size ⟨sI,fun _=>rfl,fun g hg=>(by simp at hg),fun g hg=>(by simp at hg)⟩ (fun g hg=>by simp at hg),fun t=>?_,fun p hp=>(h6.2 p hp).mono (fun _ hb=>hb) (fun _ _=>rfl) ht⟩;simp only[vi]
 by_cases htd:t=d
 ·subst htd;simp only[if_true];have h7:=h6.1 t;simp only at h7;rw[h]at h7;simp only[FitsE,Fits]at h7;simp only[FitsE];have hlen:=h5.len;simp only at hlen;refine⟨⟨none,0,0,0⟩,by rw[←hlen];simp,fun rows hr=>?_⟩;simp at hr;subst hr;exact⟨zLl _,fun _=>h7.1⟩
 ·simp only[zLy htd];exact(h6.1 t).mono (fun _ hb=>hb) (fun _ _=>rfl) ht
theorem GR{k m:Nat}{rows:List (List AV)}(ds:List Tmp)(hm:mem[k]?=some (.row (rows.map (·.map .pub))))(hn:rows.length=m)(hd:∀d∈ds,fr d=.psl k m):
  Weak ⟨n,fr,mem⟩ ⟨n,fun t=>bif ds.contains t then .pub (.sl rows)else fr t,mem.set k .dead⟩:=by
 intro w0 ok0 a w ⟨h0,h1,h2,ok,bs,h3,h4,h5,h6⟩;have hkm:k<mem.length:=(zLg hm).1;have hlen:=h5.len;simp only at hlen h5 h6;have hkb:k<bs.length:=oM;have hb:bs[k]?=some bs[k]:=zLe hkb
 have ht:Turn bs bs mem (mem.set k .dead):=by
  refine⟨fun l b0 hb0=>⟨b0,hb0,fun rows' hr=>⟨rows',?_,zLl _,fun _=>rfl⟩⟩,fun l b0 b0' es h0 h0' hr=>?_⟩
  ·by_cases hl:k=l
   ·subst hl;rw[zLi hkm]at hr;cases hr
   ·rwa[zLn hl]at hr
  ·rw[h0]at h0';injection h0' with h0'
   by_cases hl:k=l
   ·subst hl;rw[zLi hkm]at hr;cases hr
   ·rw[zLn hl]at hr;exact⟨⟨es,hr⟩,h0'.symm⟩
 have get:∀(l:Nat)(r:PO),r.live=true->(mem.set k .dead)[l]?=some r->l≠k/\mem[l]?=some r:=fun l r hlv hr=>by
  by_cases hl:k=l
  ·subst hl;rw[zLi hkm]at hr;injection hr with hr;subst hr;cases hlv
  ·rw[zLn hl]at hr;exact⟨fun e=>hl e.symm,hr⟩
 -- what is let now
 let ok':Nat->Prop:=fun b=>ok b∨bs[k].blk=some b;have hk:∀b,ok b->ok' b:=fun b hb=>.inl hb;refine⟨h0,h1,h2,ok',bs,fun b hb=>.inl (h3 b hb),fun b hb'=>?_,⟨by simpa using hlen,fun b hb'=>?_,fun l b rows' hb' hr=>?_,fun l b es hb' hr=>?_,fun l b rows' g hb' hr ho hg=>?_,fun l l' b b' r r' g hb1 hr1 ho1 hb2 hr2 ho2 hg1 hg2=>?_⟩,fun t=>?_,fun p hp=>(h6.2 p hp).mono hk (fun _ _=>rfl) ht⟩
 ·rcases hb' with h|h
  ·exact h4 b h
  ·exact .inr (h5.own k _ _ b hb hm h).1
 ·rcases hb' with h|h
  ·exact h5.lt b h
  ·exact h5.own_lt hb hm h
 ·obtain⟨hne,hr⟩:=get l _ rfl hr;have hrow:=h5.row l b rows' hb' hr;refine⟨hrow.size,hrow.nil,hrow.pos,fun g hg=>?_⟩;obtain⟨cur,c1,c2,c3,c4,c5⟩:=hrow.blk g hg;refine⟨cur,c1,c2,c3,c4,fun i j r x hri hx=>?_⟩;obtain⟨u,d1,d2,d3⟩:=c5 i j r x hri hx;exact⟨u,d1,d2,d3.mono hk (fun _ _=>rfl) ht⟩
 ·obtain⟨hne,hr⟩:=get l _ rfl hr;obtain⟨g,arr,c1,c2,c3,c4⟩:=h5.mp l b es hb' hr;refine⟨g,arr,c1,c2,c3,fun i q x hx=>?_⟩;obtain⟨v,d1,d2⟩:=c4 i q x hx;exact⟨v,d1,d2.mono hk (fun _ _=>rfl) ht⟩
 ·obtain⟨hne,hr⟩:=get l rows' ho hr;obtain⟨e1,e2⟩:=h5.own' l b rows' g hb' hr ho hg;refine⟨e1,fun h=>?_⟩;rcases h with h|h
  ·exact e2 h
  ·exact hne (h5.dist' l k b _ rows' _ g hb' hr ho hb hm Y hg h)
 ·obtain⟨_,hr1⟩:=get l r ho1 hr1;obtain⟨_,hr2⟩:=get l' r' ho2 hr2;exact h5.dist' l l' b b' r r' g hb1 hr1 ho1 hb2 hr2 ho2 hg1 hg2
 ·cases hc:ds.contains t with
  |false=>
   simp only[hc,cond_false];exact(h6.1 t).mono hk (fun _ _=>rfl) ht
  |true=>
   simp only[hc,cond_true];have hf:FitsE ok w bs mem (fr t) (a.tmps.getD t undef):=h6.1 t;rw[hd t (by simpa using hc)]at hf;simp only[FitsE]at hf⊢;obtain⟨b,hb',hf⟩:=hf;rw[hb]at hb';injection hb' with hb'
   subst hb';have e:=(hf _ hm).2 (by simpa using hn);have hr:=h5.row k _ _ hb hm;simp only[Fits];cases hg:bs[k].blk with
   |none=>
    have h7:=hr.nil hg;have h8:rows=[]:=by simpa using h7
    subst h8;simp only[PB.sl,hg]at e;exact⟨none,0,0,by rw[e];rfl,sI,by simp[maxLen],sI,sI⟩
   |some g=>
    obtain⟨cur,c1,c2,c3,c4,c5⟩:=hr.blk g hg;simp only[PB.sl,hg]at e
    have hsz:∀r∈rows,r.length=bs[k].size:=fun r hr'=>by
     have:=hr.size (r.map .pub) (List.mem_map_of_mem hr');simpa using this
    refine⟨_,bs[k].cap,bs[k].size,by rw[hn];exact e,by simpa using c3,c4,hsz,fun _=>⟨g,0,Y,.inr hg,FitsR.of_get hsz fun i r hri=>FitsC.of_get fun j x hx=>?_⟩⟩;obtain⟨u,d1,d2,d3⟩:=c5 i j (r.map .pub) (.pub x) (by simp[hri]) (by simp[hx]);refine⟨u,?_,d2,?_⟩
    ·rw[cell_of_row w g _ cur _ _ c1];simpa using d1
    ·simp only[FitsE]at d3;exact d3.mono hk (fun _ _=>rfl)
section
variable{r:Option Nat}{P:Program}{G:Glob}{st:ASt}{ops:Array Oper}{l:List Oper}{Q:Exit->ASt->Prop}
theorem zI{o1 o2:Oper}{T:TypeId}{d:Tmp}{x:Operand}{cs:List AV}{z:Value}{agg:Bool}{size:Nat}(g1:o1.guard.isNone=true)(g2:o2.guard.isNone=true)(h1:o1.op=.alloc T)(hd1:o1.dst=some d)(hd:qB o1 st.n=true)
  (h2:o2.op=.store T (.tmp d) x) (hd2:o2.dst=none) (hz:(P.info? T).bind (·.zero)=some z) (ht:zS P T agg size=true) (hzs:z.cells.size=size) (hcl:cs.length=size)
  (hx:qn st.mem (evO st.fr x) (cs.map .pub)) (hne:(match x with| .tmp t=>Nat.beq t d|_=>false)=false)
  (h:qq (r:=r) P G ops l ⟨st.n,qc st.fr (some d) (.pub (.ptr cs)),st.mem⟩ Q):qq (r:=r) P G ops (o1::o2::l) st Q:=by
 intro w0 ok0 a w hG hok ⟨c0,c1,c2,ok,bs,c3,c4,c5,c6⟩;obtain⟨us,u1,u2,u3⟩:=kc (qg (fr:=st.fr) (a:=a) (x:=x) fun t _=>c6.1 t) hx;have hul:us.length=size:=by rw[u3.length];simpa using hcl
 have hdl:d<st.n.n:=jN hd d hd1
 have hrun1:(execOp a.eval o1).run P w=.ok (.value (.pointer (some ⟨w.heap.size,0,none⟩))) (w.alloc (.cells z.cells T)):=by
  cases hi:P.info? T with
  |none=>simp[hi]at hz
  |some i=>
   have hz':i.zero=some z:=by simpa[hi]using hz
   simp[execOp,h1,Instr.alloc,zeroValue,typeInfo,hi,hz',newVar,newRow]
 refine wpListIn_plain (by simpa using g1) fun K hK=>jR (by rw[h1];simp)<|qx hrun1 (hK _ _ ?_)
 have hev:(a.put o1.dst (.pointer (some ⟨w.heap.size,0,none⟩))).eval x=a.eval x:=by
  rw[hd1];cases x with
  |tmp t=>
   have:t≠d:=fun e=>by subst e;simp at hne
   simp only[Act.eval,Act.put,jy];simp[this]
  |_=>rfl
 have hpv:(a.put o1.dst (.pointer (some ⟨w.heap.size,0,none⟩))).eval (.tmp d)=.pointer (some ⟨w.heap.size,0,none⟩):=by
  rw[hd1];have hlt:d<a.tmps.size:=by rw[c0];exact hdl
  simp[Act.eval,Act.put,hlt]
 obtain⟨cur',r1,r2,r3⟩:=yX (P:=P) w.heap.size 0 T z.cells us (w.alloc (.cells z.cells T)) (heap_alloc_new w _) (.inl rfl) oM u2;refine wpListIn_plain (by simpa using g2) fun K hK=>?_
 have hrun2:(execOp (a.put o1.dst (.pointer (some ⟨w.heap.size,0,none⟩))).eval o2).run P (w.alloc (.cells z.cells T))=.ok .skip ((w.alloc (.cells z.cells T)).setRow w.heap.size cur'):=by
  simp only[execOp,h2,hpv,hev,Instr.storeAt,Instr.sureAddr,Sem.run_bind,Sem.run_pure,Result.andThen_ok,storeVar,aj ht,u1];simp[hul,r1]
 refine jR (by rw[h2];simp) ?_;unfold Oper.wp;rw[hrun2];simp only[Oper.upon];refine hK _ _ ?_;have hpn:∀b:Act,b.put o2.dst undef=b:=fun b=>by rw[hd2];rfl
 rw[hpn];have hheap:((w.alloc (.cells z.cells T)).setRow w.heap.size cur').heap[w.heap.size]?=some (.cells cur' T (0,0)):=setRow_heap _ _ _ _ T _ (heap_alloc_new w _)
 have hbel:Below w.heap.size w ((w.alloc (.cells z.cells T)).setRow w.heap.size cur'):=⟨rfl,rfl,rfl,sI,fun k hk=>by
  rw[setRow_other _ _ k _ oM];exact heap_alloc_old w _ hk⟩
 refine h w0 ok0 _ _ hG hok ?_;rw[hd1];refine Sit.put c0 c1 c2 c3 c4 c5 c6 hbel ?_ (fun e he=>by injection he with he;subst he;exact zo hd _ hd1);simp only[FitsE,Fits];refine⟨w.heap.size,0,Y,.inr ⟨zLl _,sI⟩,FitsC.of_get fun i y hy=>?_⟩;obtain⟨u,e1,e2⟩:=(FitsEL.pub.1 u3).get hy;refine⟨u,?_,u2 u (zLo e1),e2.mono (fun b hb=>.inl hb) (fun b hb=>hbel.block b (c5.lt b hb))⟩
 rw[cell_of_row _ _ _ cur' T _ hheap,r3,zLc (by
  have:=(zLg e1).1;omega)]
 simpa using e1
end
end Go.Av
end
