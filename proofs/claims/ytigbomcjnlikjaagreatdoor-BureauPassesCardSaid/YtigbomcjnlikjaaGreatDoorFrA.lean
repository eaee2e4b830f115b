import GoSem.ClaimGoes
import Derived.KernelRfl
import Derived.Test.YtigbomcjnlikjaaGreatDoorExG
import Derived.Handed
import Derived.Lib.LaidTab
import Derived.Stop.Joined
import Derived.Lay
import Derived.LaidMore
import Derived.Test.YtigbomcjnlikjaaGreatDoorCards
import Derived.Test.YtigbomcjnlikjaaGreatDoorTie
set_option linter.unusedVariables false
set_option linter.unusedSimpArgs false
set_option maxRecDepth 100000
set_option maxHeartbeats 9000000
section
namespace Go.Av
variable{P:Program}
theorem Ah(h:P.funcs.any Func.goes=false)(f:FuncId):P.goes f=false:=by
 have key:∀(g:FuncId)(fn:Func),P.funcs[g]?=some fn->fn.goes=false:=fun g fn hg=>by
  cases e:fn.goes with
  |false=>rfl
  |true=>
   rw[Array.any_eq_false']at h;exact absurd e (h fn (Array.mem_of_getElem? hg))
 unfold Program.goes;rw[h,Bool.and_false,Bool.or_false,List.any_eq_false];intro g _;cases e:P.funcs[g]?with
 |none=>simp
 |some fn=>simp[key g fn e]
theorem af(h:P.funcs.any Func.goes=false)(c:OpenClaim):false=c.goesBy P:=by
 symm;unfold OpenClaim.goesBy Program.goesAt Program.goesFrom;rw[Bool.or_eq_false_iff];constructor
 ·cases P.funcNamed c.func with
  |none=>rfl
  |some f=>simp[Ah h f]
 ·split
  ·rfl
  ·rw[List.any_eq_false];intro f _;simp[Ah h f]
end Go.Av
namespace Go.Proofs.YtigbomcjnlikjaaGreatDoor
open Go Go.ChangeShapes Go.WideShapes Go.ChangeAt Go.RowKit Go.Av
theorem own:ownKnob Tryz.prog.godebug=none:=nR
theorem laidOut:laidOutB Tryz.prog=true:=nR
theorem zJ{a b:Bool}(ha:a=true)(hb:b=true):(a&&b)=true:=by rw[ha,hb];rfl
theorem nu:mapsRowed Tryz.prog=true:=nR
theorem eY:(Tryz.prog.stops==[])=true:=nR
theorem eH:(Tryz.prog.stopKnobs==[])=true:=nR
theorem nV:(false==Tryz.prog.plainKeys)=true:=nR
theorem eU:Tryz.prog.stopsHeard=true:=nR
theorem eO:Tryz.prog.mayEnter=true:=nR
theorem t_lifted:(Rows.bureauCostsRow.lifted==Tryz.prog.liftsFinal)=true:=nR
theorem oa:(Tryz.prog.make==some Rows.bureauCostsRow.make)=true:=nR
theorem aa:true=Tryz.prog.looks []:=nR
theorem Uj:Tryz.prog.globalNamed "internal/strconv.uint64pow10"=some 1:=nR
theorem Jo:Tryz.prog.funcs.any Func.goes=false:=nR
abbrev GT:Glob:=Bu.GB
theorem known:ACall Tryz.prog GT 14 [] (.v (.bool true)):=Bu.q14
theorem px{w:World}(h:w.ShapedOpen Tryz.prog):∃m,w.cell? ⟨0,0,none⟩=some (.int .i64 m):=
 Go.Proofs.cell_of_shapedOpen_int (zero:=#[.int .i64 0]) (t:=3) h (of_decide_eq_true nR) nR rfl nR nR Tryz.underlying3
theorem ff{L:List (String × DataW Unit)}(htab:∀W:World,laidMetH Tryz.prog L W->W.ShapedOpen Tryz.prog->GT.holds W)(os:Os)(started:os.Started)(H:Type)(enc:TypeId × Value->H){f:FuncId}{fn:Func}{s:ChangeSpec}{n:Nat}
  (hfn:Tryz.prog.funcs[f]?=some fn) (noInit:Tryz.prog.inits.idxOf? f=none) (hp:(fn.params.toList.all fun t=>ww Tryz.prog (n+1) t)=true) (hr:(fn.params.toList.all fun t=>Tryz.prog.readableRec t&&decide (t<Tryz.prog.types.size))=true)
  (hres:fn.resultTypes=#[4]) (hvars:s.vars=[]) (hs:∀ds:List (DataW H),ds.length=fn.params.size->s.fn H ds={results:=[.lit (.bool true)],args:=ds,vars:=[]})
  (hcall:∀xs,aP Tryz.prog n fn.params.toList xs->ACall Tryz.prog GT f xs (.v (.bool true)))
  (witness:∃(w:World)(tape:Tape)(i:Input),w.os=os/\(w.forCall tape i).Shaped Tryz.checked.prog/\i.vars=[]/\Input.okWide Tryz.checked.prog (w.forCall tape i) .any w.heap.size f i/\
   ((s.pre enc Tryz.checked.prog fn [] false (w.forCall tape i).memory i.args/\laidMetH Tryz.prog L (w.forCall tape i).memory)/\sizedMet enc Tryz.checked.prog fn (OpenSpec.ofChange s) false (w.forCall tape i).memory i.args)/\({}:Assume).holds Tryz.checked.prog (lone (Frame.enter Tryz.checked.prog f i.args .normal) [] (w.forCall tape i))):
  ReturnsInHanded {} Tryz.checked os f .any (fun w args=>(s.pre enc Tryz.prog fn [] false w args/\laidMetH Tryz.prog L w)/\sizedMet enc Tryz.prog fn (OpenSpec.ofChange s) false w args)
   (s.post enc Tryz.prog fn false true false false):=by
 refine returnsInHanded_of_calls own started noInit witness ?_;intro w tape i _ hsh _ hok hpre hholds;obtain⟨_,_,_,fn',hfn',_,_,_,_,hval0⟩:=hok;have e':fn'=fn:=Option.some.inj (hfn'.symm.trans hfn);subst e';obtain⟨⟨⟨ds,gs,before,hw,_⟩,hx⟩,_⟩:=hpre;have hW0:=DataW.Whole.of_heap (w':=w.forCall tape i) rF hw;have hL0:laidMetH Tryz.prog L (w.forCall tape i):=hx.of_heap rF
 suffices main:∀(W:World)(base:Nat)(args:Array Value),(∀(j:Nat) t v,fn'.params[j]?=some t->args[j]?=some v->Value.okWide Tryz.prog W .any base t v)->DataW.Whole enc Tryz.prog fn'.params.toList s.vars false W args.toList ds gs before->laidMetH Tryz.prog L W->W.ShapedOpen Tryz.prog->
   Calls Tryz.prog f args W fun e W'=>∃v,e=.returned v/\s.post enc Tryz.prog fn' false true false false W args v W' by
  refine(main (w.forCall tape i) w.heap.size i.args hval0 hW0 hL0 hsh).mono fun e W' ⟨v,he,hp⟩=>?_;subst he;exact ChangeSpec.post_blind hp
 intro W base args hval0 hW hL hsh;have hval:∀(j:Nat) t v,fn'.params.toList[j]?=some t->args.toList[j]?=some v->Value.okWide Tryz.prog W .any base t v:=fun j t v h1 h2=>hval0 j t v (by simpa using h1) (by simpa using h2);have hW':DataW.Whole enc Tryz.prog fn'.params.toList s.vars false W args.toList ds gs before:=hW;obtain⟨p,q,hA,hV,e,hz,hn⟩:=hW';obtain⟨xs,h1,h2⟩:=fC (ok:=fun b=>b<W.heap.size) (fun _ h=>h) hp hval hA;obtain⟨he,hc⟩:=hcall xs h1
 have hlen:ds.length=fn'.params.size:=by
  have:∀(ts:List TypeId)(vs:List Value)(ds:List (DataW H))(ps:List MemPlace),DataW.TrodAll enc Tryz.prog W 0 (fun _=>true) true ts vs ds ps->ds.length=ts.length:=by
   intro ts
   induction ts with
   |nil=>intro vs ds ps h;obtain⟨rfl,rfl,rfl⟩:=trodAll_nil h;rfl
   |cons t ts ih=>intro vs ds ps h;obtain⟨v,vs',d,ds',p,q,rfl,rfl,rfl,_,h2⟩:=trodAll_cons h;simp[ih _ _ _ h2]
  simpa using this _ _ _ _ hA
 have hcc:=hc (fun b=>b<W.heap.size) W args.toList (htab W hL hsh) (fun _ h=>h) h2;rw[Array.toArray_toList]at hcc;refine Calls.mono hcc fun e W' ⟨u,he,hb,hf⟩=>?_;simp only[Fits]at hf;obtain⟨rfl,_⟩:=hf;exact⟨_,he,iK laidOut hr Tryz.underlying4 hres hvars (hs ds hlen) hW hb⟩
def laid5:List (String × DataW Unit):=[("math/bits.deBruijn32tab",Rows.laid_math_bits_deBruijn32tab),("math/bits.deBruijn64tab",Rows.laid_math_bits_deBruijn64tab),("internal/strconv.uint64pow10",Rows.laid_internal_strconv_uint64pow10),("unicode/utf8.acceptRanges",Rows.laid_unicode_utf8_acceptRanges),("unicode/utf8.first",Rows.laid_unicode_utf8_first)]
theorem vD(W:World)(h:laidMetH Tryz.prog laid5 W)(hs:W.ShapedOpen Tryz.prog):GT.holds W:=by
 refine⟨?_,px hs⟩;rw[MakeChecks.laidMetH_plain _ _ _ nR]at h;have h2:=h.filter (fun x=>x.1== "internal/strconv.uint64pow10");have e:(laid5.filter fun x=>x.1== "internal/strconv.uint64pow10")=("internal/strconv.uint64pow10",Lib.tabData .u64 Lib.pow10Tab)::[]:=nR;rw[e]at h2;have h3:Lib.TabIs Tryz.prog W "internal/strconv.uint64pow10" .u64 Lib.pow10Tab:=Lib.tabIs_of_head (t:=434) (e:=379) (n:=20) Uj nR nR nR nR nR h2;unfold Lib.TabIs at h3;simp only[World.var?,Uj,Option.bind_some]at h3;split at h3
 ·rename_i cs T fz hh
  injection h3 with h3
  exact⟨T,fz,by rw[hh,h3]⟩
 ·cases h3
theorem xI(os:Os)(args:Array Value):laidMetH Tryz.prog laid5 ((World.laidAll Tryz.prog os laid5).forCall (fun _ _=>0) ⟨#[],args,[]⟩).memory:=by
 rw[MakeChecks.laidMetH_plain _ _ _ nR];exact laidMet_laidAll _ nR nR
theorem eM(os:Os)(args:Array Value):((World.laidAll Tryz.prog os laid5).forCall (fun _ _=>0) ⟨#[],args,[]⟩).Shaped Tryz.checked.prog:=World.shaped_of_ZipB nR nR
end Go.Proofs.YtigbomcjnlikjaaGreatDoor
namespace Go.Proofs.YtigbomcjnlikjaaGreatDoor
open Go Go.ChangeShapes Go.WideShapes Go.RowKit Go.Av
variable{n:Nat}{xs:List AV}{x:AV}
theorem pl_int(h:qa Tryz.prog (n+1) 3 xs):∃q:Int,xs=[.v (.int .i64 q)]:=by
 obtain⟨q,h,_⟩:=lq Tryz.underlying3 h;exact⟨q,h⟩
theorem oc(h:qa Tryz.prog (n+2) 24 xs):∃l:List (Int),xs=[Hs.eI l]:=by
 obtain⟨rows,rfl,_,hr⟩:=q8 Tryz.underlying24 h;obtain⟨l,rfl⟩:=wc (e:=fun q:Int=>[AV.v (.int .i64 q)]) (fun r hrm=>pl_int (hr r hrm));exact⟨l,Y⟩
theorem bj(h:qa Tryz.prog (n+2) 63 xs):∃a b:Int,xs=[.v (.int .i64 a),.v (.int .i64 b)]:=by
 have h:=qC Tryz.underlying63 h;obtain⟨a,_,rfl,h1,b,_,rfl,h2,rfl⟩:=h;obtain⟨x,rfl⟩:=pl_int h1;obtain⟨y,rfl⟩:=pl_int h2;exact⟨x,y,Y⟩
theorem Ju(h:qa Tryz.prog (n+3) 23 xs):∃l:List (Int × Int),xs=[.sl (l.map Wr.eSpn)]:=by
 obtain⟨rows,rfl,_,hr⟩:=q8 Tryz.underlying23 h
 obtain⟨l,rfl⟩:=wc (e:=Wr.eSpn) (fun r hrm=>by
  obtain⟨x,y,rfl⟩:=bj (hr r hrm);exact⟨(x,y),Y⟩)
 exact⟨l,Y⟩
theorem P2(h:qa Tryz.prog (n+4) 26 xs):∃c:Wr.Cod,xs=Wr.eCod c:=by
 have h:=qC Tryz.underlying26 h;obtain⟨a,_,rfl,h1,b,_,rfl,h2,d,_,rfl,h3,rfl⟩:=h;obtain⟨x,rfl⟩:=Ju h1;obtain⟨y,rfl⟩:=oc h2;obtain⟨z,rfl⟩:=pl_int h3;exact⟨⟨x,y,z⟩,Y⟩
theorem P3(h:qa Tryz.prog (n+3) 82 xs):∃r:Hs.Rep,xs=Hs.eRep r:=by
 have h:=qC Tryz.underlying82 h;obtain⟨a,_,rfl,h1,b,_,rfl,h2,d,_,rfl,h3,e,_,rfl,h4,f,_,rfl,h5,g,_,rfl,h6,rfl⟩:=h;obtain⟨x1,rfl⟩:=pl_int h1;obtain⟨x2,rfl⟩:=pl_int h2;obtain⟨x3,rfl⟩:=pl_int h3;obtain⟨x4,x5,rfl⟩:=bj h4;obtain⟨x6,rfl⟩:=pl_int h5;obtain⟨x7,rfl⟩:=pl_int h6;exact⟨⟨x1,x2,x3,x4,x5,x6,x7⟩,Y⟩
theorem IK(h:qa Tryz.prog (n+4) 29 xs):∃l:List Hs.Rep,xs=[.sl (l.map Hs.eRep)]:=by
 obtain⟨rows,rfl,_,hr⟩:=q8 Tryz.underlying29 h;obtain⟨l,rfl⟩:=wc (e:=Hs.eRep) (fun r hrm=>P3 (hr r hrm));exact⟨l,Y⟩
theorem Px(h:qa Tryz.prog (n+2) 208 xs):∃r:Hs.Lnk,xs=Hs.eLnk r:=by
 have h:=qC Tryz.underlying208 h;obtain⟨a,_,rfl,h1,b,_,rfl,h2,d,_,rfl,h3,rfl⟩:=h;obtain⟨x1,rfl⟩:=pl_int h1;obtain⟨x2,rfl⟩:=pl_int h2;obtain⟨x3,rfl⟩:=pl_int h3;exact⟨⟨x1,x2,x3⟩,Y⟩
theorem IJ(h:qa Tryz.prog (n+3) 30 xs):∃l:List Hs.Lnk,xs=[.sl (l.map Hs.eLnk)]:=by
 obtain⟨rows,rfl,_,hr⟩:=q8 Tryz.underlying30 h;obtain⟨l,rfl⟩:=wc (e:=Hs.eLnk) (fun r hrm=>Px (hr r hrm));exact⟨l,Y⟩
theorem PT(h:qa Tryz.prog (n+3) 210 xs):∃r:Hs.Prt,xs=Hs.ePrt r:=by
 have h:=qC Tryz.underlying210 h;obtain⟨a,_,rfl,h1,b,_,rfl,h2,d,_,rfl,h3,rfl⟩:=h;obtain⟨x1,x2,rfl⟩:=bj h1;obtain⟨x3,rfl⟩:=pl_int h2;obtain⟨x4,rfl⟩:=pl_int h3;exact⟨⟨x1,x2,x3,x4⟩,Y⟩
theorem Jv(h:qa Tryz.prog (n+4) 31 xs):∃l:List Hs.Prt,xs=[.sl (l.map Hs.ePrt)]:=by
 obtain⟨rows,rfl,_,hr⟩:=q8 Tryz.underlying31 h;obtain⟨l,rfl⟩:=wc (e:=Hs.ePrt) (fun r hrm=>PT (hr r hrm));exact⟨l,Y⟩
theorem V7(h:qa Tryz.prog (n+5) 33 xs):∃w:Hs.Wt,xs=Hs.eWt w:=by
 have h:=qC Tryz.underlying33 h;obtain⟨a,_,rfl,h1,b,_,rfl,h2,d,_,rfl,h3,e,_,rfl,h4,f,_,rfl,h5,g,_,rfl,h6,i,_,rfl,h7,j,_,rfl,h8,k,_,rfl,h9,rfl⟩:=h;obtain⟨x1,rfl⟩:=pl_int h1;obtain⟨x2,rfl⟩:=IK h2;obtain⟨x3,rfl⟩:=IJ h3;obtain⟨x4,rfl⟩:=Jv h4;obtain⟨x5,rfl⟩:=pl_int h5;obtain⟨x6,rfl⟩:=pl_int h6;obtain⟨x7,rfl⟩:=pl_int h7;obtain⟨x8,rfl⟩:=pl_int h8;obtain⟨x9,rfl⟩:=pl_int h9;exact⟨⟨x1,x2,x3,x4,x5,x6,x7,x8,x9⟩,Y⟩
theorem Q3(h:qa Tryz.prog (n+3) 206 xs):∃r:Hs.Chk,xs=Hs.eChk r:=by
 have h:=qC Tryz.underlying206 h;obtain⟨a,_,rfl,h1,b,_,rfl,h2,rfl⟩:=h;obtain⟨x1,rfl⟩:=pl_int h1;obtain⟨x2,x3,rfl⟩:=bj h2;exact⟨⟨x1,x2,x3⟩,Y⟩
theorem Q5(h:qa Tryz.prog (n+6) 68 xs):∃r:Hs.BSt,xs=Hs.eBSt r:=by
 have h:=qC Tryz.underlying68 h;obtain⟨a,_,rfl,g1,b,_,rfl,g2,rfl⟩:=h;obtain⟨x,rfl⟩:=pl_int g2;have h:=qC Tryz.underlying66 g1;obtain⟨a,_,rfl,h1,b,_,rfl,h2,d,_,rfl,h3,e,_,rfl,h4,f,_,rfl,h5,g,_,rfl,h6,i,_,rfl,h7,rfl⟩:=h;obtain⟨x1,x2,rfl⟩:=bj h1;obtain⟨x3,x4,rfl⟩:=bj h2;obtain⟨x5,rfl⟩:=pl_int h3;obtain⟨x6,rfl⟩:=pl_int h4;obtain⟨x7,rfl⟩:=pl_int h5;obtain⟨x8,rfl⟩:=pl_int h6;obtain⟨rows,rfl,_,hr⟩:=q8 Tryz.underlying64 h7;obtain⟨l,rfl⟩:=wc (e:=Hs.eChk) (fun r hrm=>Q3 (hr r hrm));exact⟨⟨⟨x1,x2,x3,x4,x5,x6,x7,x8,l⟩,x⟩,Y⟩
theorem KY(h:qa Tryz.prog (n+7) 22 xs):∃l:List Hs.BSt,xs=[.sl (l.map Hs.eBSt)]:=by
 obtain⟨rows,rfl,_,hr⟩:=q8 Tryz.underlying22 h;obtain⟨l,rfl⟩:=wc (e:=Hs.eBSt) (fun r hrm=>Q5 (hr r hrm));exact⟨l,Y⟩
theorem E2{t:TypeId}(ht:Tryz.prog.underlying t=Tryz.prog.underlying 28)(h:qa Tryz.prog (n+2) t xs):∃a b c:Int,xs=[.v (.int .i64 a),.v (.int .i64 b),.v (.int .i64 c)]:=by
 have h:=qC (ht.trans Tryz.underlying28) h;obtain⟨a,_,rfl,h1,b,_,rfl,h2,d,_,rfl,h3,rfl⟩:=h;obtain⟨x1,rfl⟩:=pl_int h1;obtain⟨x2,rfl⟩:=pl_int h2;obtain⟨x3,rfl⟩:=pl_int h3;exact⟨x1,x2,x3,Y⟩
theorem OX(h:qa Tryz.prog (n+2) 35 xs):∃a b c:Int,xs=[.v (.int .i64 a),.v (.int .i64 b),.v (.int .i64 c)]:=by
 have h:=qC Tryz.underlying35 h;obtain⟨a,_,rfl,h1,b,_,rfl,h2,d,_,rfl,h3,rfl⟩:=h;obtain⟨x1,rfl⟩:=pl_int h1;obtain⟨x2,rfl⟩:=pl_int h2;obtain⟨x3,rfl⟩:=pl_int h3;exact⟨x1,x2,x3,Y⟩
theorem mr(h:yn Tryz.prog 8 37 x):∃s:Hs.Sut,x=.agg (Hs.eSut s):=by
 unfold yn at h;rw[Tryz.underlying37]at h;obtain⟨xs,rfl,h⟩:=h;obtain⟨a,_,rfl,h1,b,_,rfl,h2,d,_,rfl,h3,e,_,rfl,h4,f,_,rfl,h5,g,_,rfl,h6,i,_,rfl,h7,j,_,rfl,h8,k,_,rfl,h9,l,_,rfl,h10,m,_,rfl,h11,rfl⟩:=h;obtain⟨st,rfl⟩:=KY (n:=1) h1;obtain⟨c,rfl⟩:=P2 (n:=4) h2;obtain⟨t1,t2,t3,rfl⟩:=E2 (n:=6) rfl h3;obtain⟨x4,rfl⟩:=pl_int h4;obtain⟨x5,rfl⟩:=pl_int h5;obtain⟨x6,rfl⟩:=pl_int h6;obtain⟨w,rfl⟩:=V7 (n:=3) h7;obtain⟨x8,rfl⟩:=pl_int h8;obtain⟨x9,rfl⟩:=oc (n:=6) h9;obtain⟨p1,p2,p3,rfl⟩:=OX (n:=6) h10;obtain⟨x11,rfl⟩:=pl_int h11;exact⟨⟨st,c,t1,t2,t3,x4,x5,x6,w,x8,x9,p1,p2,p3,x11⟩,Y⟩
theorem tH(h:yn Tryz.prog 8 3 x):∃q:Int,x=Hs.ei q:=by
 unfold yn at h;rw[Tryz.underlying3]at h;obtain⟨q,h⟩:=pl_int h;exact⟨q,by simpa using h⟩
theorem O4(h:qa Tryz.prog (n+1) 9 xs):∃s:List UInt8,xs=[eS s]:=by
 obtain⟨s,h,_⟩:=cd Tryz.underlying9 h;exact⟨s.data.toList,by rw[h,S1]⟩
theorem Ks(h:qa Tryz.prog (n+2) 108 xs):∃l:List (List UInt8),xs=[Wr.eStrs l]:=by
 obtain⟨rows,rfl,_,hr⟩:=q8 Tryz.underlying108 h;obtain⟨l,rfl⟩:=wc (e:=fun q:List UInt8=>[eS q]) (fun r hrm=>O4 (hr r hrm));exact⟨l,Y⟩
theorem Pj(h:qa Tryz.prog (n+3) 46 xs):∃l:List (List (List UInt8)),xs=[Wr.eCps l]:=by
 obtain⟨rows,rfl,_,hr⟩:=q8 Tryz.underlying46 h;obtain⟨l,rfl⟩:=wc (e:=fun q:List (List UInt8)=>[Wr.eStrs q]) (fun r hrm=>Ks (hr r hrm));exact⟨l,Y⟩
theorem PX(h:qa Tryz.prog (n+4) 48 xs):∃a:Bu.Ac,xs=Bu.eAc a:=by
 have h:=qC Tryz.underlying48 h;obtain⟨a,_,rfl,h1,b,_,rfl,h2,c,_,rfl,h3,rfl⟩:=h;obtain⟨x,rfl⟩:=pl_int h1;obtain⟨y,rfl⟩:=oc h2;obtain⟨z,rfl⟩:=Pj h3;exact⟨⟨x,y,z⟩,Y⟩
theorem Kq(h:qa Tryz.prog (n+5) 38 xs):∃l:List Bu.Ac,xs=[.sl (l.map Bu.eAc)]:=by
 obtain⟨rows,rfl,_,hr⟩:=q8 Tryz.underlying38 h;obtain⟨l,rfl⟩:=wc (e:=Bu.eAc) (fun r hrm=>PX (hr r hrm));exact⟨l,Y⟩
theorem eL(h:yn Tryz.prog 8 38 x):∃l:List Bu.Ac,x=.sl (l.map Bu.eAc):=by
 unfold yn at h;rw[Tryz.underlying38]at h;obtain⟨l,h⟩:=Kq (n:=4) h;exact⟨l,by simpa using h⟩
theorem Qg(h:yn Tryz.prog 8 82 x):∃r:Hs.Rep,x=.agg (Hs.eRep r):=by
 unfold yn at h;rw[Tryz.underlying82]at h;obtain⟨xs,rfl,h⟩:=h;obtain⟨a,_,rfl,h1,b,_,rfl,h2,d,_,rfl,h3,e,_,rfl,h4,f,_,rfl,h5,g,_,rfl,h6,rfl⟩:=h;obtain⟨x1,rfl⟩:=pl_int (n:=6) h1;obtain⟨x2,rfl⟩:=pl_int (n:=6) h2;obtain⟨x3,rfl⟩:=pl_int (n:=6) h3;obtain⟨x4,x5,rfl⟩:=bj (n:=5) h4;obtain⟨x6,rfl⟩:=pl_int (n:=6) h5;obtain⟨x7,rfl⟩:=pl_int (n:=6) h6;exact⟨⟨x1,x2,x3,x4,x5,x6,x7⟩,Y⟩
end Go.Proofs.YtigbomcjnlikjaaGreatDoor
end
