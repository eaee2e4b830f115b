import Derived.Test.YtigbomcjnlikjaaGreatDoorHsB
set_option linter.unusedVariables false
set_option linter.unusedSimpArgs false
set_option maxRecDepth 100000
set_option maxHeartbeats 9000000
section
namespace Go.Av
namespace Hs
open Go.Proofs Tryz
variable{G:Glob}
variable{g:Gls}{j k:Nat}{l:List BSt}{s:Sut}{d:Int}
theorem Q1(h:clB g=false){i:Nat}(hij:i<j)(hj:j<g.ck.length):ctB g i j=false:=by
 cases hc:ctB g i j with
 |false=>rfl
 |true=>rw[Gv oM hj hij hc]at h;cases h
theorem f269(hs:stGB g=true)(hc:clB g=false):ACall tP G 175 [.agg (eGs g)] (.tup [.top,.top,.v (.bool false)]):=by
 have hg1:=gls_ok hs;have hcl:(g.ck.map eChk).length=g.ck.length:=sI;refine aC func175 ?_;refine Z8 ?_;refine Fp ?_;refine Z8 ?_;refine Eh ?_;refine Z7 ?_;refine zb (zM Y Y Y underlying64) (Z4 ?_);refine zD (ι:={a:Nat//a<=g.ck.length}) (fun a=>⟨Tryz.f175.ntmps,frL [(1,.pub (.ptr (eGs g))),(5,I 0),(6,I 0),(7,B false),(13,.pub (.sl (g.ck.map eChk))),(14,I (((g.ck.map eChk).length:Nat):Int)),(15,I (a.1:Int))],[]⟩) (fun a=>g.ck.length-a.1) (⟨0,oM⟩) ?_ ?_
 ·exact zd _ rL (Y)
 ·rintro⟨a,ha⟩;dsimp only;refine Z6 ?_;refine nC ?_ ?_<;>intro h0
  ·skip;have hlt:a<g.ck.length:=by simpa using h0
   refine Z7 ?_;refine zb (zc Y Y Y xj oM (by exact f8 (i:=a) hlt) xm) (Z ?_);refine fJ Y Y Y Y Y Y Y Y (xP Y Y) Y Y Y pQ rb Y rF (zF Y) Y ?_;refine Z10 ?_;refine zD (ι:={b:Nat//a+1<=b/\b<=g.ck.length}) (fun b=>⟨Tryz.f175.ntmps,frL [(1,.pub (.ptr (eGs g))),(5,I 0),(6,I 0),(7,B false),(13,.pub (.sl (g.ck.map eChk))),(14,I (((g.ck.map eChk).length:Nat):Int)),(15,I (a:Int)),(8,I (a:Int)),(9,.pub (.ptr (eChk (ckG g a)))),(10,I (b.1:Int))],[]⟩) (fun b=>g.ck.length-b.1) (⟨a+1,oM⟩) ?_ ?_
   ·exact zd _ rL (Y)
   ·rintro⟨b,hb⟩;dsimp only;refine Z7 ?_;refine zb (zM Y Y Y underlying64) (Z3 ?_);refine nC ?_ ?_<;>intro h1
    ·skip;have hbl:b<g.ck.length:=by simpa using h1
     refine Z5 ?_;refine zN mixed nR Y ?_;refine Z6 ?_;refine zH Y (zc Y Y Y xj oM (by exact f8 (i:=b) hbl) xm) (Z ?_);refine zH Y (zi (av:=[_,_,_]) Y rL (f317 hs a b oM hbl)) (Z2 ?_);refine nC ?_ ?_<;>intro h2
     ·skip;exfalso;rw[Q1 hc oM hbl]at h2;cases h2
     ·skip;refine Z8 ?_;exact⟨⟨b+1,oM⟩,by dsimp only;omega,zd _ rL (Y)⟩
    ·skip;refine Z10 ?_;exact⟨⟨a+1,oM⟩,by dsimp only;omega,zd _ rL (Y)⟩
  ·skip;refine Z16 ?_;refine Q9 ?_;exact⟨.inr Y,⟨_,Y,⟨_,_,Y,AVle.top _,⟨_,_,Y,AVle.top _,⟨_,_,Y,AVle.refl _,Y⟩⟩⟩⟩⟩
theorem f270(g:Gls)(d:Int):ACall tP G 254 [.agg (eGs g),ei d] (.fn 319 [] [.ptr (eGs g),.ptr [ei d]]):=by
 refine aC func254 ?_;refine Z14 ?_;exact aR
theorem V3:qN tP 64 206 3 24:=⟨underlying64,Tryz.t206,_,nR,rfl,rfl,rfl,rfl,dE⟩
theorem XZ:qN tP 23 63 2 16:=⟨underlying23,Tryz.t63,_,nR,rfl,rfl,rfl,rfl,dE⟩
theorem PN:qN tP 30 208 3 24:=⟨underlying30,Tryz.t208,_,nR,rfl,rfl,rfl,rfl,dE⟩
theorem za2:qN tP 31 210 4 32:=⟨underlying31,Tryz.t210,_,nR,rfl,rfl,rfl,rfl,dE⟩
theorem eB{rows:List (TA)}{n:Nat}(h:∀q∈rows,q.length=n):∀r∈rows.map (·.map EV.pub),r.length=n:=fun r hr=>by
 obtain⟨q,hq,rfl⟩:=zLj.1 hr;rw[zL8];exact h q hq
theorem f139(l:List Int)(hl:l.length<=1000):ACall tP G 162 [.sl (l.map (fun n=>[ei n]))] (.sl (l.map (fun n=>[ei n]))):=by
 refine aC func162 ?_;refine Z8 ?_;refine zm Y (jF Y Y Y Y Y Eb (eB (mp_len fun _=>rfl)) (by simp;omega) (by unfold maxLen;simp;omega)) ?_;refine Z4 ?_;exact⟨.inr Y,⟨l.map (fun n=>[ei n]),Y,sI,Y⟩⟩
theorem f137(l:List Chk)(hl:l.length<=1000):ACall tP G 216 [.sl (l.map eChk)] (.sl (l.map eChk)):=by
 refine aC func216 ?_;refine Z8 ?_;refine zm Y (jF Y Y Y Y Y V3 (eB (mp_len fun _=>rfl)) (by simp;omega) (by unfold maxLen;simp;omega)) ?_;refine Z4 ?_;exact⟨.inr Y,⟨l.map eChk,Y,sI,Y⟩⟩
theorem f138(l:List (Int × Int))(hl:l.length<=1000):ACall tP G 217 [.sl (l.map Wr.eSpn)] (.sl (l.map Wr.eSpn)):=by
 refine aC func217 ?_;refine Z8 ?_;refine zm Y (jF Y Y Y Y Y XZ (eB (mp_len fun _=>rfl)) (by simp;omega) (by unfold maxLen;simp;omega)) ?_;refine Z4 ?_;exact⟨.inr Y,⟨l.map Wr.eSpn,Y,sI,Y⟩⟩
theorem f141(l:List Lnk)(hl:l.length<=1000):ACall tP G 219 [.sl (l.map eLnk)] (.sl (l.map eLnk)):=by
 refine aC func219 ?_;refine Z8 ?_;refine zm Y (jF Y Y Y Y Y PN (eB (mp_len fun _=>rfl)) (by simp;omega) (by unfold maxLen;simp;omega)) ?_;refine Z4 ?_;exact⟨.inr Y,⟨l.map eLnk,Y,sI,Y⟩⟩
theorem f142(l:List Prt)(hl:l.length<=1000):ACall tP G 220 [.sl (l.map ePrt)] (.sl (l.map ePrt)):=by
 refine aC func220 ?_;refine Z8 ?_;refine zm Y (jF Y Y Y Y Y za2 (eB (mp_len fun _=>rfl)) (by simp;omega) (by unfold maxLen;simp;omega)) ?_;refine Z4 ?_;exact⟨.inr Y,⟨l.map ePrt,Y,sI,Y⟩⟩
theorem f144(b:Bool)(e:Int):ACall tP G 204 [.v (.bool b),ei e] (ei (if b then 0 else e)):=by
 refine aC func204 ?_;refine Z11 ?_;refine nC ?_ ?_<;>intro h0
 ·skip;refine Z7 ?_;exact⟨.inr Y,AVle.of (by rw[h0];rfl)⟩
 ·skip;refine Z9 ?_;exact⟨.inr Y,AVle.of (by rw[h0];rfl)⟩
theorem zbX:qN tP 22 68 10 96:=⟨underlying22,Tryz.t68,_,nR,rfl,rfl,rfl,rfl,dE⟩
def rBS(l:List BSt):List (TE):=l.map fun b=>(eBSt b).map .pub
theorem uv(h:k<l.length):(rBS l)[k]?=some ((eBSt l[k]).map .pub):=by simp[rBS,h]
theorem vk:(rBS l).length=l.length:=by simp[rBS]
theorem QZ:∀r∈rBS l,r.length=10:=fun r hr=>by
 obtain⟨q,_,rfl⟩:=zLj.1 hr;rfl
theorem set_self{α:Type}{l:List α}{x:α}(h:l[k]?=some x):l.set k x=l:=by
 apply List.ext_getElem?;intro i
 by_cases e:k=i
 ·subst e;rw[zLi (zLg h).1,h]
 ·rw[zLn e]
theorem J7(h:k<l.length):(rBS l).set k ((eBSt l[k]).map .pub)=rBS l:=set_self (uv h)
theorem PQ:PO.okL k (.row (rBS l)):=fun r hr x hx=>by
 obtain⟨b,_,rfl⟩:=zLj.1 hr;obtain⟨y,_,rfl⟩:=zLj.1 hx;simp[EV.lt]
theorem QI(l:List BSt)(hl:l.length<=1000)(A B:PO)(hA:PO.okL 3 A)(hB:PO.okL 3 B):zv tP G 215 [.pub (.sl (l.map eBSt))] [A,B] (.ret (.psl 2 l.length) [A,B,.row (rBS l)]):=by
 refine y3 func215 Y nR Y (fun gh hold=>?_);refine Z8 ?_;refine zm Y (jF Y Y Y Y Y zbX (eB (mp_len fun _=>rfl)) (by simp;omega) (by unfold maxLen;simp;omega)) ?_;refine Z4 ?_;exact zR [] (zLz (fun z=>[A,B,PO.row z]) (by rw[rBS,List.map_map];rfl)) ⟨hA,hB,PQ,trivial⟩ sI (.inr Y) (by simp[EV.lt]) (zLz (EV.psl 2) sI)
def rSu(e:EV)(s:Sut):TE:=[e,.pub (.sl (s.code.fields.map Wr.eSpn)),.pub (eI s.code.turns),I s.code.most,I s.op,I s.fr,I s.mo,I s.wide,I s.rows,I s.slope,
 I s.w.n,.pub (.sl (s.w.reps.map eRep)),.pub (.sl (s.w.lnks.map eLnk)),.pub (.sl (s.w.prts.map ePrt)),I s.w.fall,I s.w.win,I s.w.hold,I s.w.dawn,I s.w.dusk,I s.cls,.pub (eI s.wts),I s.pb,I s.pr,I s.pl,I s.days]
def zSu:TE:=[.pub (.v (.slice none 0 0)),.pub (.v (.slice none 0 0)),.pub (.v (.slice none 0 0)),I 0,I 0,I 0,I 0,I 0,I 0,I 0,I 0,.pub (.v (.slice none 0 0)),.pub (.v (.slice none 0 0)),.pub (.v (.slice none 0 0)),I 0,I 0,I 0,I 0,I 0,I 0,.pub (.v (.slice none 0 0)),I 0,I 0,I 0,I 0]
def mK(s:Sut):TP:=[.row [rSu (.psl 2 s.st.length) s],.row [zSu],.row (rBS s.st)]
theorem zaa:PO.okL k (.row [rSu (.pub (.sl (s.st.map eBSt))) s]):=fun r hr x hx=>by
 rw[zLh]at hr;subst hr;simp only[rSu,List.mem_cons,List.not_mem_nil,or_false]at hx;rcases hx with rfl|rfl|rfl|rfl|rfl|rfl|rfl|rfl|rfl|rfl|rfl|rfl|rfl|rfl|rfl|rfl|rfl|rfl|rfl|rfl|rfl|rfl|rfl|rfl|rfl<;>simp[EV.lt,I]
theorem zat:PO.okL k (.row [zSu]):=fun r hr x hx=>by
 rw[zLh]at hr;subst hr;simp only[zSu,List.mem_cons,List.not_mem_nil,or_false]at hx;rcases hx with rfl|rfl|rfl|rfl|rfl|rfl|rfl|rfl|rfl|rfl|rfl|rfl|rfl|rfl|rfl|rfl|rfl|rfl|rfl|rfl|rfl|rfl|rfl|rfl|rfl<;>simp[EV.lt,I]
theorem PK(h:k<s.st.length):[PO.row [rSu (.psl 2 s.st.length) s],.row [zSu],.row ((rBS s.st).set k (putCells ((eBSt s.st[k]).map .pub) 8 [.pub (.sl ((s.st[k]).g.ck.map eChk))]))]=mK s:=by
 rw[show putCells ((eBSt s.st[k]).map EV.pub) 8 [.pub (.sl ((s.st[k]).g.ck.map eChk))]=(eBSt s.st[k]).map .pub from rfl,J7 h];rfl
theorem R7:wL tP 308 1 [nZ,nZ,nZ,nZ,nZ,nZ]:=⟨_,_,Tryz.t51,underlying308,nR,nR,nR⟩
theorem du:vy tP 308 6 1=true:=nR
theorem iW:zS tP 51 false 1=true:=nR
structure SuP(s:Sut):Prop where
 n:1<=s.st.length/\s.st.length<=3
 days:1<=s.days/\s.days<=4
 map:Ct.mapB (mpS s)=true
 st:∀x∈s.st,Ct.inB x.pt 0 (s.wide*s.rows-1)=true/\stGB x.g=true/\clB x.g=false
 code:Wr.codB s.code=true
 tar:tarB s.op s.fr s.mo=true
 w:okWtB s.w=true
 s6:s6B s.cls s.wts=true
 pap:papB s.pb s.pr s.pl=true
theorem suP(h:suB s=true):SuP s:=by
 simp only[suB,zLa,inB_iff,zLu]at h;obtain⟨⟨⟨h1,h2⟩,h3⟩,h4,⟨⟨⟨h5,h6⟩,h7⟩,h8⟩,h9⟩:=h;refine⟨oM,h2,h3,fun x hx=>?_,h5,h6,by rw[←Jd];exact h7,h8,h9⟩;have:=h4 x hx;simp only[dI,zLa,Bool.not_eq_true']at this;exact⟨this.1.1,this.1.2,this.2⟩
theorem f51(s:Sut)(hsm:smB s=true)(hS:SuP s)(h135:∀x∈s.st,ACall tP G 214 [.agg (eGls x.g),ei 0] (.tup [.agg [.top,.top],ei 0])):ACall tP G 110 [.agg (eSut s)] (ei 0):=by
 obtain⟨⟨hn1,hn2,hn3,hn4,hn5,hn6,hn7⟩,hck⟩:=sm_all hsm;have hm:(s.st.map eBSt).length=s.st.length:=sI;have hn:=hS.n;have hdy:=hS.days;obtain⟨m1,m2,m3,m4,_⟩:=(Ct.okM_iff (mpS s)).1 hS.map
 have hwr:0<=s.wide*s.rows/\s.wide*s.rows<=30:=by
   have a1:1<=s.wide:=m1;have a2:s.wide<=6:=m2;have a3:1<=s.rows:=m3;have a4:s.rows<=5:=m4;refine⟨Int.mul_nonneg oM oM,?_⟩;have:=Int.mul_le_mul a2 a4 oM (by omega:(0:Int)<=6);omega
 have sp11:ACall tP G 98 [.agg (eWt s.w)] (ei 0):=by
   have:=f11 (G:=G) s.w;rw[hS.w]at this;exact this
 refine aC func110 ?_;refine Z10 ?_;refine yc (f129 _ _ _ hS.pap) ?_;refine Z11 ?_;refine yc (f130 _ _ _ hS.tar) ?_;refine Z9 ?_;refine zN mixed nR Y ?_;refine Z2 ?_;refine zH Y (zi (av:=[_]) Y rL (f131 s.code oM hS.code)) (Z2 ?_);refine zH Y (zi (av:=[_]) Y rL (f53 s)) (zH Y (zi (av:=[_]) Y rL (f132 (mpS s) hS.map)) ?_);refine Z2 ?_;refine zH Y (zi (av:=[_]) Y rL sp11) (Z4 ?_);refine zH Y (zu (cs:=[_,_,_]) Y Oe Y (zk (zk Y)) rF (by simp[ofV])) ?_;refine zH Y (zi (av:=[_]) Y rL (f133 _ _ oM hS.s6)) ?_;refine Z ?_;refine zH Y (v8 (cs:=[_,_,_,_,_,_]) Y R7 Y (zk (zk (zk (zk (zk (zk Y)))))) rF (by simp[ofV])) ?_;refine Z4 ?_;refine zD (ι:={k:Nat//k<7}) (fun k=>match k.1 with|0=>⟨Tryz.f110.ntmps,frL [(1,.pub (.ptr (eSut s))),(42,.pub (.agg [ei 0,ei 0,ei 0,ei 0,ei 0,ei 0])),(43,I 0)],[]⟩|1=>⟨Tryz.f110.ntmps,frL [(1,.pub (.ptr (eSut s))),(42,.pub (.agg [ei 0,ei 0,ei 0,ei 0,ei 0,ei 0])),(43,I 1)],[]⟩|2=>⟨Tryz.f110.ntmps,frL [(1,.pub (.ptr (eSut s))),(42,.pub (.agg [ei 0,ei 0,ei 0,ei 0,ei 0,ei 0])),(43,I 2)],[]⟩|3=>⟨Tryz.f110.ntmps,frL [(1,.pub (.ptr (eSut s))),(42,.pub (.agg [ei 0,ei 0,ei 0,ei 0,ei 0,ei 0])),(43,I 3)],[]⟩|4=>⟨Tryz.f110.ntmps,frL [(1,.pub (.ptr (eSut s))),(42,.pub (.agg [ei 0,ei 0,ei 0,ei 0,ei 0,ei 0])),(43,I 4)],[]⟩|5=>⟨Tryz.f110.ntmps,frL [(1,.pub (.ptr (eSut s))),(42,.pub (.agg [ei 0,ei 0,ei 0,ei 0,ei 0,ei 0])),(43,I 5)],[]⟩|_=>⟨Tryz.f110.ntmps,frL [(1,.pub (.ptr (eSut s))),(42,.pub (.agg [ei 0,ei 0,ei 0,ei 0,ei 0,ei 0])),(43,I 6)],[]⟩) (fun k=>7-k.1) (⟨0,oM⟩) ?_ ?_
 ·exact zd _ rL (Y)
 ·rintro⟨k,hk⟩;have hk3:k=0∨k=1∨k=2∨k=3∨k=4∨k=5∨k=6:=oM;rcases hk3 with rfl|rfl|rfl|rfl|rfl|rfl|rfl
  ·dsimp only;refine Z6 ?_;refine nC ?_ ?_<;>intro h0
   ·skip;refine Z6 ?_;refine zb (qJ rfl rfl rfl du (fun e he=>by rw[underlying308]at he;cases he;exact iW) oM oM rfl) (Z9 ?_);refine nC ?_ ?_<;>intro h1
    ·skip;exfalso;simp at h1
    ·skip;refine Z7 ?_;exact⟨⟨1,oM⟩,by dsimp only;omega,(by refine zd (mem':=[]) [(1,.pub (.ptr (eSut s))),(42,.pub (.agg [ei 0,ei 0,ei 0,ei 0,ei 0,ei 0])),(43,I 1)] ?_ ?_;exact rL;exact(Y))⟩
   ·skip;exfalso;simp at h0
  ·dsimp only;refine Z6 ?_;refine nC ?_ ?_<;>intro h0
   ·skip;refine Z6 ?_;refine zb (qJ rfl rfl rfl du (fun e he=>by rw[underlying308]at he;cases he;exact iW) oM oM rfl) (Z9 ?_);refine nC ?_ ?_<;>intro h1
    ·skip;exfalso;simp at h1
    ·skip;refine Z7 ?_;exact⟨⟨2,oM⟩,by dsimp only;omega,(by refine zd (mem':=[]) [(1,.pub (.ptr (eSut s))),(42,.pub (.agg [ei 0,ei 0,ei 0,ei 0,ei 0,ei 0])),(43,I 2)] ?_ ?_;exact rL;exact(Y))⟩
   ·skip;exfalso;simp at h0
  ·dsimp only;refine Z6 ?_;refine nC ?_ ?_<;>intro h0
   ·skip;refine Z6 ?_;refine zb (qJ rfl rfl rfl du (fun e he=>by rw[underlying308]at he;cases he;exact iW) oM oM rfl) (Z9 ?_);refine nC ?_ ?_<;>intro h1
    ·skip;exfalso;simp at h1
    ·skip;refine Z7 ?_;exact⟨⟨3,oM⟩,by dsimp only;omega,(by refine zd (mem':=[]) [(1,.pub (.ptr (eSut s))),(42,.pub (.agg [ei 0,ei 0,ei 0,ei 0,ei 0,ei 0])),(43,I 3)] ?_ ?_;exact rL;exact(Y))⟩
   ·skip;exfalso;simp at h0
  ·dsimp only;refine Z6 ?_;refine nC ?_ ?_<;>intro h0
   ·skip;refine Z6 ?_;refine zb (qJ rfl rfl rfl du (fun e he=>by rw[underlying308]at he;cases he;exact iW) oM oM rfl) (Z9 ?_);refine nC ?_ ?_<;>intro h1
    ·skip;exfalso;simp at h1
    ·skip;refine Z7 ?_;exact⟨⟨4,oM⟩,by dsimp only;omega,(by refine zd (mem':=[]) [(1,.pub (.ptr (eSut s))),(42,.pub (.agg [ei 0,ei 0,ei 0,ei 0,ei 0,ei 0])),(43,I 4)] ?_ ?_;exact rL;exact(Y))⟩
   ·skip;exfalso;simp at h0
  ·dsimp only;refine Z6 ?_;refine nC ?_ ?_<;>intro h0
   ·skip;refine Z6 ?_;refine zb (qJ rfl rfl rfl du (fun e he=>by rw[underlying308]at he;cases he;exact iW) oM oM rfl) (Z9 ?_);refine nC ?_ ?_<;>intro h1
    ·skip;exfalso;simp at h1
    ·skip;refine Z7 ?_;exact⟨⟨5,oM⟩,by dsimp only;omega,(by refine zd (mem':=[]) [(1,.pub (.ptr (eSut s))),(42,.pub (.agg [ei 0,ei 0,ei 0,ei 0,ei 0,ei 0])),(43,I 5)] ?_ ?_;exact rL;exact(Y))⟩
   ·skip;exfalso;simp at h0
  ·dsimp only;refine Z6 ?_;refine nC ?_ ?_<;>intro h0
   ·skip;refine Z6 ?_;refine zb (qJ rfl rfl rfl du (fun e he=>by rw[underlying308]at he;cases he;exact iW) oM oM rfl) (Z9 ?_);refine nC ?_ ?_<;>intro h1
    ·skip;exfalso;simp at h1
    ·skip;refine Z7 ?_;exact⟨⟨6,oM⟩,by dsimp only;omega,(by refine zd (mem':=[]) [(1,.pub (.ptr (eSut s))),(42,.pub (.agg [ei 0,ei 0,ei 0,ei 0,ei 0,ei 0])),(43,I 6)] ?_ ?_;exact rL;exact(Y))⟩
   ·skip;exfalso;simp at h0
  ·dsimp only;refine Z6 ?_;refine nC ?_ ?_<;>intro h0
   ·skip;exfalso;simp at h0
   ·skip;refine Z10 ?_;refine zb (zM Y Y Y underlying22) ?_;refine yc (f134 _ _ _) ?_;refine Z4 ?_;refine yd Y (fun hg=>(f134 _ _ _)) ?_;refine Z4 ?_;refine nC ?_ ?_<;>intro h2
    ·skip;exfalso;simp[inB]at h2;omega
    ·skip;refine Z7 ?_;refine zb (zM Y Y Y underlying22) (Z4 ?_);refine zD (ι:={a:Nat//a<=s.st.length}) (fun a=>⟨Tryz.f110.ntmps,frL [(1,.pub (.ptr (eSut s))),(61,.pub (.sl (s.st.map eBSt))),(62,I (((s.st.map eBSt).length:Nat):Int)),(63,I (a.1:Int))],[]⟩) (fun a=>s.st.length-a.1) (⟨0,oM⟩) ?_ ?_
     ·exact zd _ rL (Y)
     ·rintro⟨a,ha⟩;dsimp only;refine Z6 ?_;refine nC ?_ ?_<;>intro h3
      ·skip;have hlt:a<s.st.length:=by simpa using h3
       have hst:=hS.st _ (zLm hlt);refine Z6 ?_;refine zb (zc Y Y Y wu oM (by exact HS (k:=a) hlt) (mp_len fun _=>rfl)) ?_;refine Z ?_;refine zI Y Y Y Y Y Y Y Ni kT Y rF (zF Y) Y (Z6 ?_);refine yc (h135 _ (zLm hlt)) ?_;refine Z3 ?_;refine zI Y Y Y Y Y Y Y uh dw Y rF (zF Y) Y (Z9 ?_);refine zh Y (fun hg=>zl Y (Y) Y ki) (Z ?_);refine zh Y (fun hg=>zl Y (Y) Y ki) (Z ?_);refine zh Y (fun hg=>zl Y (Y) Y ki) (Z2 ?_);refine zh Y (fun hg=>zi (av:=[_,_,_]) Y ⟨((by first|exact Y|exact(zLc hg))),Y,((by first|exact Y|exact(zLc hg))),trivial⟩ (f134 _ _ _)) ?_;refine zh Y (fun hg=>q0 Y (Y)) (zb (ju Y Y Y Y) ?_);refine Z2 ?_;refine nC ?_ ?_<;>intro h4
       ·skip;exfalso;have:=hst.1;simp[Ct.inB]at this;simp[inB]at h4;omega
       ·skip;refine Z7 ?_;exact⟨⟨a+1,oM⟩,by dsimp only;omega,zd _ rL (Y)⟩
      ·skip;refine Z11 ?_;exact aR
def rG(g:Gls)(e:EV):TE:=[I g.hl,I g.hh,I g.gl,I g.gh,I g.dr,I g.rd,I g.ea,I g.sl,.pub (.sl (g.ck.map eChk)),e]
theorem GI{l:Nat}(h:l<k):PO.okL k (.row [rG g (.mpv l)]):=fun r hr x hx=>by
 rw[zLh]at hr;subst hr;simp only[rG,List.mem_cons,List.not_mem_nil,or_false]at hx;rcases hx with rfl|rfl|rfl|rfl|rfl|rfl|rfl|rfl|rfl|rfl<;>simp[EV.lt,I,h]
theorem Qm(g:Gls)(A B C:PO)(hA:PO.okL 5 A)(hB:PO.okL 5 B)(hC:PO.okL 5 C):zv tP G 174 [.pub (.agg (eGls g))] [A,B,C] (.ret (.mix (rG g (.mpv 4))) [A,B,C,.row [rG g (.mpv 4)],.map []]):=by
 refine y3 func174 Y nR Y (fun gh hold=>?_);refine Z3 ?_;refine zm Y (zE Y Y uD Y Y) (Z5 ?_);refine zm Y (vR Y Y) ?_;refine zb (rT (cs:=[_,_,_,_,_,_,_,_,_,_]) Y Xp Y (zk (zk Y)) rF (by simp[ofV])) ?_;refine zm Y (zp Y Y Y Y Y Y cEx dY rF bL) (Z3 ?_);exact zR [] rfl ⟨hA,hB,hC,GI (by simp),(by intro p hp;cases hp),trivial⟩ (by simp) (.inr rfl) (by simp[EV.lt,EV.ltL,rG,I]) ⟨_,_,rfl,by simp,rfl,.inr ⟨_,by first|exact dY|exact rfl,by exact zLb rfl,rfl⟩⟩
def zG:TE:=[I 0,I 0,I 0,I 0,I 0,I 0,I 0,I 0,.pub (.v (.slice none 0 0)),.pub (.v (.map none))]
theorem Ux:PO.okL k (.row [zG]):=fun r hr x hx=>by
 rw[zLh]at hr;subst hr;simp only[zG,List.mem_cons,List.not_mem_nil,or_false]at hx;rcases hx with rfl|rfl|rfl|rfl|rfl|rfl|rfl|rfl|rfl|rfl<;>simp[EV.lt,I]
theorem XB(hs:stGB g=true)(hc:clB g=false)(A B:PO)(hA:PO.okL 5 A)(hB:PO.okL 5 B):zv tP G 76 [.pub (.agg (eGls g)),.pub (.v (.bool true))] [A,B] (.ret (.tpl [.mix (rG g (.mpv 4)),I 0]) [A,B,.row [rG g (.mpv 4)],.row [rG g (.mpv 4)],.map []]):=by
 have hgk:=gls_ok hs;refine lm func76 Y nR Y (fun gh hold=>?_);refine Z3 ?_;refine zm Y (zE Y Y uD Y Y) (Z7 ?_);refine yc (f267 g oM) ?_;refine Z7 ?_;refine nC ?_ ?_<;>intro h0
 ·skip;exfalso;simp[hs]at h0
 ·skip;refine Z5 ?_;refine mc (Qm g A B (.row [zG]) hA hB Ux) ?_;refine zm Y (zE Y Y uD Y Y) ?_;refine zm Y (zp Y Y Y Y Y Y cEx dY rF bL) (Z6 ?_);refine zb (oq (av:=[.agg (eGs g)]) Y ⟨_,_,Y,AVle.refl _,Y⟩ (f269 hs hc)) ?_;refine Z14 ?_;refine nC ?_ ?_<;>intro h1
  ·skip;exfalso;simp at h1
  ·skip;refine Z5 ?_;refine zm Y (zp Y Y Y Y Y Y cEx dY rF bL) (Z4 ?_);exact qQ [.row [rG g (.mpv 4)]] rfl ⟨hA,hB,GI sI,GI sI,(by intro p hp;cases hp),trivial⟩ sI (.inr rfl) (by simp[EV.lt,EV.ltL,rG,I]) ⟨dE,_,rfl,_,_,rfl,⟨_,_,rfl,sI,rfl,.inr ⟨_,dY,bL,rfl⟩⟩,_,_,rfl,rfl,rfl⟩
def encN(a:Int):Value:=.int .i64 a
theorem keyN:KeyT tP 3 encN:=oR underlying3
theorem zv46m:(tP.info? 63).bind (·.zero)=some (.agg #[nZ,nZ]):=nR
theorem lookN{fr:Nat->EV}{mem:TP}{o:Oper}{x i:Operand}{l:Nat}(ho:o.op=.lookup 156 x i true)(hx:evO fr x=.mpv l)(hm:mem[l]?=some (.map []))(hi:evO fr i=.pub (.v (.int .i64 d))):OpY tP G fr mem o (.pub (.tup [.agg [ei 0,ei 0],.v (.bool false)])):=
 dP (P:=tP) (G:=G) (enc:=encN) (es:=[]) (a:=d) (kx:=.v (.int .i64 d)) ho hx hm hi jr underlying156 keyN zv46m
def loS(g:Gls)(d:Int)(l:List Chk):Int:=l.foldl (fun a c=>max a (c.lo-g.dr*far d c.t)) (-2000)
def hiS(g:Gls)(d:Int)(l:List Chk):Int:=l.foldl (fun a c=>min a (c.hi+g.dr*far d c.t)) 2000
theorem fold_next{β:Type}{f:Int->β->Int}{z:Int}{l:List β}{x:β}(h:l[j]?=some x):(l.take (j+1)).foldl f z=f ((l.take j).foldl f z) x:=by
 have hl:j<l.length:=(zLg h).1;have he:l[j]=x:=(zLg h).2;rw[zLt hl,List.foldl_append,he];rfl
theorem Ve{A B C D:PO}{x:Chk}(h:g.ck[j]?=some x):[A,B,C,D,.map [],.row [rG g (.mpv 4)],.row [[I 0,I 0]],.row [[I (max (loS g d (g.ck.take j)) (x.lo-g.dr*far d x.t)),I (min (hiS g d (g.ck.take j)) (x.hi+g.dr*far d x.t))]]]=[A,B,C,D,.map [],.row [rG g (.mpv 4)],.row [[I 0,I 0]],.row [[I (loS g d (g.ck.take (j+1))),I (hiS g d (g.ck.take (j+1)))]]]:=by
 rw[show loS g d (g.ck.take (j+1))=max (loS g d (g.ck.take j)) (x.lo-g.dr*far d x.t) from fold_next h,show hiS g d (g.ck.take (j+1))=min (hiS g d (g.ck.take j)) (x.hi+g.dr*far d x.t) from fold_next h]
theorem mqE{A B C D:PO}:[A,B,C,D,.map [],.row [rG g (.mpv 4)],.row [[I 0,I 0]],.row [[I (loS g d (g.ck.take g.ck.length)),I (hiS g d (g.ck.take g.ck.length))]]]=[A,B,C,D,.map [],.row [rG g (.mpv 4)],.row [[I 0,I 0]],.row [[I (loS g d g.ck),I (hiS g d g.ck)]]]:=by rw[List.take_length]
theorem Vx(hs:stGB g=true)(d:Int)(hd:0<=d/\d<=400)(A B C D:PO)(hA:PO.okL 5 A)(hB:PO.okL 5 B)(hC:PO.okL 5 C)(hD:PO.okL 5 D):zv tP G 181 [.mix (rG g (.mpv 4)),.pub (.v (.int .i64 d))] [A,B,C,D,.map []] (.ret (.mix [I (loS g d g.ck),I (hiS g d g.ck)]) [A,B,C,D,.map [(encN d,.pub (.agg [ei (loS g d g.ck),ei (hiS g d g.ck)]))]]):=by
 refine y3 func181 Y nR Y (fun gh hold=>?_);refine Z2 ?_;refine zm Y (qI Y Y cEx) (zm Y (zE Y Y uh Y Y) ?_);refine Z8 ?_;refine zb (lookN Y Y Y Y) (Z3 ?_);refine zI Y Y Y Y Y Y Y uh dw Y rF (zF Y) Y (Z8 ?_);refine nC ?_ ?_<;>intro h0
 ·exfalso;simp at h0
 ·refine Z4 ?_;refine zb (zu (cs:=[_,_]) Y iV Y (zk (zk Y)) rF (by simp[ofV])) ?_;refine zm Y (zE Y Y uh Y Y) ?_;refine zm Y (zp Y Y Y Y Y Y cEx dw rF bL) (Z7 ?_);refine zb (oq (av:=[.agg (eGs g),.v (.int .i64 d)]) Y ⟨_,_,Y,AVle.refl _,_,_,Y,AVle.refl _,Y⟩ (f270 g d)) ?_;refine Z3 ?_;refine jS g.ck ((bdQ g d)) [1,2,4,7] (fun j=>True) (fun j=>[A,B,C,D,.map [],.row [rG g (.mpv 4)],.row [[I 0,I 0]],.row [[I (loS g d (g.ck.take j)),I (hiS g d (g.ck.take j))]]]) (trivial) Y (it318 hs d hd) Y (fun _=>rfl) Y Y ?_ ?_
  ·intro j x gh lp hd1 hd2 hq hV;refine Z ?_;refine zI Y Y Y Y Y Y Y uh dw Y rF (zF Y) Y (Z ?_);refine⟨Y,Y,?_⟩;refine Z ?_;refine qd (fun _=>True) (fun k=>match k with|13=>.writes|_=>.here) mixed nR rfl nR trivial ?_;refine Z4 ?_;refine zK Y Y (zw (size:=1) (rows:=[[_],[_]]) Y underlying24 Xs Y dE Y dE (zk (zk Y)) rF (by simp[ofV]) Y sI) ?_;refine zK Y Y (zi (av:=[_]) Y rL (f271 _ _)) ?_;refine Z4 ?_;refine zK Y Y (zw (size:=1) (rows:=[[_],[_]]) Y underlying24 Xs Y dE Y dE (zk (zk Y)) rF (by simp[ofV]) Y sI) ?_;refine zK Y Y (zi (av:=[_]) Y rL (f272 _ _)) ?_;refine zK Y Y (zu (cs:=[_,_]) Y iV Y (zk (zk Y)) rF (by simp[ofV])) ?_;refine qw Y Y (zz Y Y Y Y Y Y cEx dw rF rF) trivial (Z2 ?_);exact⟨Y,trivial,zd (mem':=[A,B,C,D,.map [],.row [rG g (.mpv 4)],.row [[I 0,I 0]],.row [[I (loS g d (g.ck.take (j+1))),I (hiS g d (g.ck.take (j+1)))]]]) [] trivial ((Ve hq))⟩
  ·intro hVn;refine Z3 ?_;refine zt (zd (mem':=[A,B,C,D,.map [],.row [rG g (.mpv 4)],.row [[I 0,I 0]],.row [[I (loS g d g.ck),I (hiS g d g.ck)]]]) [(1,.pub (.v (.int .i64 d))),(2,.pp 5 1 0 0),(4,.pp 6 1 0 0),(7,.pp 7 1 0 0)] ?_ ?_) ?_
   ·exact rL
   ·exact mqE
   refine Z5 ?_;refine zm Y (qt (enc:=encN) (es:=[]) (a:=d) (.inl Y) Y Y Y Y jr underlying156 keyN Y) (Z5 ?_);refine zm Y (zp Y Y Y Y Y Y cEx dw rF bL) (Z3 ?_);exact zR [.row [rG g (.mpv 4)],.row [[I (loS g d g.ck),I (hiS g d g.ck)]],.row [[I (loS g d g.ck),I (hiS g d g.ck)]]] Y ⟨hA,hB,hC,hD,(by intro p hp;simp at hp;subst hp;simp[EV.lt,EV.ltL,I]),trivial⟩ sI (.inr Y) (by simp[EV.lt,EV.ltL,I]) ⟨_,_,Y,sI,Y,.inr ⟨_,dw,bL,Y⟩⟩
theorem Si(hs:stGB g=true)(hc:clB g=false)(A B:PO):zv tP G 76 [.pub (.agg (eGls g)),.pub (.v (.bool true))] [A,B] (.ret (.tpl [.mix (rG g (.mpv 4)),I 0]) [A,B,.row [rG g (.mpv 4)],.row [rG g (.mpv 4)],.map []]):=
 bP (XB (G:=G) hs hc .dead .dead trivial trivial).1 fun hk=>XB hs hc A B (PO.okL_mono sI hk.1) (PO.okL_mono sI hk.2.1)
theorem m214L(hs:stGB g=true)(hc:clB g=false):∀{m:TP},m.length=2->zv tP G 76 [.pub (.agg (eGls g)),.pub (.v (.bool true))] m (.ret (.tpl [.mix (rG g (.mpv 4)),I 0]) (m++[.row [rG g (.mpv 4)],.row [rG g (.mpv 4)],.map []]))
 |[A,B],_=>Si hs hc A B
theorem XI(hs:stGB g=true)(d:Int)(hd:0<=d/\d<=400)(A B C D:PO):zv tP G 181 [.mix (rG g (.mpv 4)),.pub (.v (.int .i64 d))] [A,B,C,D,.map []] (.ret (.mix [I (loS g d g.ck),I (hiS g d g.ck)]) [A,B,C,D,.map [(encN d,.pub (.agg [ei (loS g d g.ck),ei (hiS g d g.ck)]))]]):=
 bP (Vx (G:=G) hs d hd .dead .dead .dead .dead trivial trivial trivial trivial).1 fun hk=>Vx hs d hd A B C D (PO.okL_mono sI hk.1) (PO.okL_mono sI hk.2.1) (PO.okL_mono sI hk.2.2.1) (PO.okL_mono sI hk.2.2.2.1)
theorem f135(hs:stGB g=true)(hc:clB g=false):ACall tP G 214 [.agg (eGls g),ei 0] (.tup [.agg [.top,.top],ei 0]):=by
 refine aC func214 ?_;refine Z3 ?_;refine zm Y (zE Y Y uh Y Y) (Z4 ?_);refine zt qE ?_;refine qd (fun _=>True) (fun k=>match k with|0=>.stable|1=>.stable|2=>.stable|3=>.grow [] 2|4=>.stable|5=>.stable|6=>.stable|7=>.own 1|8=>.writes|9=>.stable|_=>.here) mixed nR rfl nR trivial ?_;refine Z2 ?_;refine zC Y Y (fun m hm=>zi (av:=[_,_,_]) Y rL (f215 _ _ _)) ?_;refine KL [] Y Y Y (fun _=>trivial) (fun m hn hm=>vS (av:=[.pub (.agg (eGls g)),.pub (.v (.bool true))]) Y rL (m214L hs hc hn) sI (fun l h=>zLf h)) ?_;refine Z3 ?_;refine ku Y Y (qX Y uD Y Y Y) ?_;refine qw Y Y (zz Y Y Y Y Y Y cEx dY rF rF) trivial (Z10 ?_);refine nC ?_ ?_<;>intro h0
 ·skip;exfalso;simp at h0
 ·skip;refine Z6 ?_;refine mc (XI hs 0 oM _ _ _ _) ?_;refine zm Y (zp Y Y Y Y Y Y cEx dw rF bL) (Z4 ?_);exact⟨.inr Y,⟨_,Y,⟨_,_,Y,(zQ Y Y Y Y dw Y (vwT (vwT Y))),⟨_,_,Y,AVle.refl _,Y⟩⟩⟩⟩
def rRep(l:List Rep):List (TE):=l.map fun r=>(eRep r).map .pub
theorem rRep_len{l:List Rep}:(rRep l).length=l.length:=by simp[rRep]
theorem rRep_7{l:List Rep}:∀r∈rRep l,r.length=7:=fun r hr=>by
 obtain⟨q,_,rfl⟩:=zLj.1 hr;rfl
theorem rRep_ok{l:List Rep}:PO.okL k (.row (rRep l)):=fun r hr x hx=>by
 obtain⟨b,_,rfl⟩:=zLj.1 hr;obtain⟨y,_,rfl⟩:=zLj.1 hx;simp[EV.lt]
def rSK(e r:EV)(s:Sut):TE:=[e,.pub (.sl (s.code.fields.map Wr.eSpn)),.pub (eI s.code.turns),I s.code.most,I s.op,I s.fr,I s.mo,I s.wide,I s.rows,I s.slope,
 I s.w.n,r,.pub (.sl (s.w.lnks.map eLnk)),.pub (.sl (s.w.prts.map ePrt)),I s.w.fall,I s.w.win,I s.w.hold,I s.w.dawn,I s.w.dusk,I s.cls,.pub (eI s.wts),I s.pb,I s.pr,I s.pl,I s.days]
def cSu(s:Sut)(k n:Nat):TE:=rSK (.pub (.sl (s.st.map eBSt))) (.psl k n) s
theorem V4{e r:EV}(he:e.lt k)(hr:r.lt k):PO.okL k (.row [rSK e r s]):=fun q hq x hx=>by
 rw[zLh]at hq;subst hq;simp only[rSK,List.mem_cons,List.not_mem_nil,or_false]at hx;rcases hx with rfl|rfl|rfl|rfl|rfl|rfl|rfl|rfl|rfl|rfl|rfl|rfl|rfl|rfl|rfl|rfl|rfl|rfl|rfl|rfl|rfl|rfl|rfl|rfl|rfl<;>simp[EV.lt,I,he,hr]
theorem zbn(l:List Rep)(hl:l.length<=1000)(A B C:PO):zv tP G 218 [.pub (.sl (l.map eRep))] [A,B,C] (.ret (.psl 3 l.length) [A,B,C,.row (rRep l)]):=by
 refine xC func218 Y nR Y (fun gh hold hmk=>?_);refine Z8 ?_;refine zm Y (jF Y Y Y Y Y Qv (eB (mp_len fun _=>rfl)) (by simp;omega) (by unfold maxLen;simp;omega)) ?_;refine Z4 ?_;exact zR [] (zLz (fun z=>[A,B,C,PO.row z]) (by rw[rRep,List.map_map];rfl)) ⟨PO.okL_mono sI hmk.1,PO.okL_mono sI hmk.2.1,PO.okL_mono sI hmk.2.2.1,rRep_ok,trivial⟩ sI (.inr Y) (by simp[EV.lt]) (zLz (EV.psl 3) sI)
theorem m52(s:Sut)(hsm:smB s=true):zv tP G 111 [.pub (.agg (eSut s))] [] (.ret (.mix (cSu s 3 s.w.reps.length)) [.row [cSu s 3 s.w.reps.length],.row [cSu s 3 s.w.reps.length],.dead,.row (rRep s.w.reps)]):=by
 obtain⟨⟨hn1,hn2,hn3,hn4,hn5,hn6,hn7⟩,hck⟩:=sm_all hsm;refine xC func111 Y nR Y (fun gh hold hmk=>?_);refine Z2 ?_;refine zm Y (qI Y Y cEx) (zm Y (zE Y Y Vu Y Y) ?_);refine Z6 ?_;refine mc (QI s.st oM (.row [rSu (.pub (.sl (s.st.map eBSt))) s]) (.row [zSu]) zaa zat) ?_;refine Z ?_;refine zm Y (zp Y Y Y Y Y Y (jW Y Y vk) sV rF bL) (Z7 ?_);refine zb (jJ Y Y Y vk underlying22) (Z4 ?_);refine zD (ι:={a:Nat//a<=s.st.length}) (fun a=>⟨⟨Tryz.f111.ntmps,[],gh,false,hold⟩,frL [(1,.pp 0 1 0 0),(2,.pp 1 1 0 0),(11,I (s.st.length:Int)),(12,I (a.1:Int))],mK s⟩) (fun a=>s.st.length-a.1) (⟨0,oM⟩) ?_ ?_
 ·exact zd _ rL (Y)
 ·rintro⟨a,ha⟩;dsimp only;refine Z6 ?_;refine nC ?_ ?_<;>intro h0
  ·skip;have hlt:a<s.st.length:=by simpa using h0
   refine Z15 ?_;refine zb (qh Y Y Y Y vk wu oM oM QZ) (zb (ze Y Y Y vk IP) ?_);refine Z6 ?_;refine zb (zr Y Y Y vk) (zb (ze Y Y Y vk bV) (zb (zg (r:=(eBSt s.st[a]).map .pub) Y Y Y vk (uv hlt) Y N2) ?_));refine zb (zi (av:=[_]) Y rL (f137 _ (by have:=hck _ (zLm hlt);omega))) ?_;refine zb (zr Y Y Y vk) (zb (ze Y Y Y vk bV) ?_);refine zm Y (zp Y Y Y Y vk (uv hlt) (lL Y) N2 rF bL) (Z7 ?_);exact⟨⟨a+1,oM⟩,by dsimp only;omega,zd _ rL ((PK hlt))⟩
  ·skip;refine Z6 ?_;refine qd (fun mm=>mm=mK s) (fun k=>match k with|0=>.stable|1=>.stable|2=>.stable|3=>.stable|4=>.stable|5=>.stable|6=>.stable|7=>.stable|8=>.stable|9=>.stable|10=>.writes|11=>.stable|12=>.stable|13=>.writes|_=>.here) mixed nR rfl nR rfl ?_;refine zC Y Y (fun m hm=>ze Y Y (show _=some (PO.row [rSu (.psl 2 s.st.length) s]) by rw[hm];rfl) Y kB) ?_;refine zC Y Y (fun m hm=>ze Y Y (show _=some (PO.row [rSu (.psl 2 s.st.length) s]) by rw[hm];rfl) Y eX) ?_;refine zC Y Y (fun m hm=>zg (rows:=[rSu (.psl 2 s.st.length) s]) (r:=rSu (.psl 2 s.st.length) s) Y Y (by rw[hm];rfl) Y Y Y lb) ?_;refine zC Y Y (fun m hm=>zi (av:=[_]) Y rL (f138 _ oM)) ?_;refine zC Y Y (fun m hm=>ze Y Y (show _=some (PO.row [rSu (.psl 2 s.st.length) s]) by rw[hm];rfl) Y kB) ?_;refine zC Y Y (fun m hm=>ze Y Y (show _=some (PO.row [rSu (.psl 2 s.st.length) s]) by rw[hm];rfl) Y nz) ?_;refine zC Y Y (fun m hm=>zg (rows:=[rSu (.psl 2 s.st.length) s]) (r:=rSu (.psl 2 s.st.length) s) Y Y (by rw[hm];rfl) Y Y Y hU) ?_
   refine zC Y Y (fun m hm=>zi (av:=[_]) Y rL (f139 _ oM)) ?_;refine zC Y Y (fun m hm=>ze Y Y (show _=some (PO.row [rSu (.psl 2 s.st.length) s]) by rw[hm];rfl) Y kB) ?_;refine zC Y Y (fun m hm=>ze Y Y (show _=some (PO.row [rSu (.psl 2 s.st.length) s]) by rw[hm];rfl) Y eX) ?_;refine qw Y Y (zz Y Y Y Y Y Y cEx lb rF rF) Y ?_;refine zC Y Y (fun m hm=>ze Y Y (show _=some (PO.row [rSu (.psl 2 s.st.length) s]) by rw[hm];rfl) Y kB) ?_;refine zC Y Y (fun m hm=>ze Y Y (show _=some (PO.row [rSu (.psl 2 s.st.length) s]) by rw[hm];rfl) Y nz) ?_;refine qw Y Y (zz Y Y Y Y Y Y cEx hU rF rF) Y (Z3 ?_);refine qd (fun mm=>∃e,mm[0]?=some (PO.row [rSK (.psl 2 s.st.length) e s])) (fun k=>match k with|0=>.stable|1=>.stable|2=>.rd [0]|3=>.writes|4=>.stable|5=>.stable|6=>.stable|7=>.stable|8=>.stable|9=>.stable|10=>.stable|11=>.stable|12=>.stable|13=>.stable|14=>.writes|15=>.stable|16=>.stable|17=>.writes|18=>.stable|19=>.stable|20=>.writes|_=>.here) mixed nR rfl nR ⟨_,rfl⟩ ?_
   refine zC Y Y (fun m hm=>ze (rows:=[rSK (.psl 2 s.st.length) hm.choose s]) Y Y hm.choose_spec Y vG) (zC Y Y (fun m hm=>ze (rows:=[rSK (.psl 2 s.st.length) hm.choose s]) Y Y hm.choose_spec Y kD) ?_);refine wX [0] Y Y (fun m hm hC=>zg (rows:=[rSK (.psl 2 s.st.length) (.pub (.sl (s.w.reps.map eRep))) s]) (r:=rSK (.psl 2 s.st.length) (.pub (.sl (s.w.reps.map eRep))) s) Y Y (hm.one 0 Y) Y Y Y bY) ?_;refine qw rfl rfl (vS (av:=[.pub (.sl (s.w.reps.map eRep))]) rfl rL (zbn s.w.reps oM _ _ _) (by simp[mK]) (fun l h=>by have:l=0∨l=1∨l=2:=(by simp[mK]at h;omega);rcases this with rfl|rfl|rfl<;>rfl)) ⟨_,rfl⟩ ?_;refine zC Y Y (fun m hm=>ze (rows:=[rSK (.psl 2 s.st.length) hm.choose s]) Y Y hm.choose_spec Y vG) (zC Y Y (fun m hm=>ze (rows:=[rSK (.psl 2 s.st.length) hm.choose s]) Y Y hm.choose_spec Y A0) (zC Y Y (fun m hm=>zg (rows:=[rSK (.psl 2 s.st.length) hm.choose s]) (r:=rSK (.psl 2 s.st.length) hm.choose s) Y Y hm.choose_spec Y Y Y EQ) (zC Y Y (fun m hm=>zi (av:=[_]) Y rL (f141 _ oM)) (zC Y Y (fun m hm=>ze (rows:=[rSK (.psl 2 s.st.length) hm.choose s]) Y Y hm.choose_spec Y vG) (zC Y Y (fun m hm=>ze (rows:=[rSK (.psl 2 s.st.length) hm.choose s]) Y Y hm.choose_spec Y mY) (zC Y Y (fun m hm=>zg (rows:=[rSK (.psl 2 s.st.length) hm.choose s]) (r:=rSK (.psl 2 s.st.length) hm.choose s) Y Y hm.choose_spec Y Y Y Vb) (zC Y Y (fun m hm=>zi (av:=[_]) Y rL (f142 _ oM)) (zC Y Y (fun m hm=>ze (rows:=[rSK (.psl 2 s.st.length) hm.choose s]) Y Y hm.choose_spec Y vG) (zC Y Y (fun m hm=>ze (rows:=[rSK (.psl 2 s.st.length) hm.choose s]) Y Y hm.choose_spec Y kD) ?_)))))))))
   refine qw Y Y (zz Y Y Y Y Y Y (jW Y Y rRep_len) bY rF rF) ⟨_,Y⟩ ?_;refine zC Y Y (fun m hm=>ze (rows:=[rSK (.psl 2 s.st.length) hm.choose s]) Y Y hm.choose_spec Y vG) (zC Y Y (fun m hm=>ze (rows:=[rSK (.psl 2 s.st.length) hm.choose s]) Y Y hm.choose_spec Y A0) ?_);refine qw Y Y (zz Y Y Y Y Y Y cEx EQ rF rF) ⟨_,Y⟩ ?_;refine zC Y Y (fun m hm=>ze (rows:=[rSK (.psl 2 s.st.length) hm.choose s]) Y Y hm.choose_spec Y vG) (zC Y Y (fun m hm=>ze (rows:=[rSK (.psl 2 s.st.length) hm.choose s]) Y Y hm.choose_spec Y mY) ?_);refine qw Y Y (zz Y Y Y Y Y Y cEx Vb rF rF) ⟨_,Y⟩ ?_;refine Z6 ?_;refine zb (zi (av:=[_]) Y rL (f139 _ oM)) ?_;refine Z ?_;refine zm Y (zp Y Y Y Y Y Y cEx hU rF bL) (Z3 ?_);refine zt (zd (mem':=[.row [rSK (.psl 2 s.st.length) (.psl 3 s.w.reps.length) s],.row [zSu],.row (rBS s.st),.row (rRep s.w.reps)]) [(1,.pp 0 1 0 0),(2,.pp 1 1 0 0)] ⟨Y,Y,trivial⟩ Y) ?_;refine zt (kg (k:=2) (c:=0) (i:=0) (j:=0) (rows:=s.st.map eBSt) (by rw[List.map_map];rfl) sI Y Y Y Y) ?_
   refine Z2 ?_;refine zm Y (zp Y Y Y Y Y Y cEx EP rF bL) (Z3 ?_);exact zR [] Y ⟨V4 (by simp[EV.lt]) (by simp[EV.lt]),V4 (by simp[EV.lt]) (by simp[EV.lt]),trivial,rRep_ok,trivial⟩ sI (.inr Y) (by simp[EV.lt,EV.ltL,cSu,rSK,I]) ⟨_,_,Y,sI,Y,.inr ⟨_,EP,bL,Y⟩⟩
end Hs
end Go.Av
end
