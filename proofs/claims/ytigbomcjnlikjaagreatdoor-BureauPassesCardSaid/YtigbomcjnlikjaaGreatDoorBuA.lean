import Derived.Test.YtigbomcjnlikjaaGreatDoorTbB
import Derived.Test.YtigbomcjnlikjaaGreatDoorChC
set_option linter.unusedVariables false
set_option linter.unusedSimpArgs false
set_option maxRecDepth 100000
set_option maxHeartbeats 9000000
section
namespace Go.Av
namespace Bu
open Go.Proofs Tryz
abbrev ei(x:Int):AV:=.v (.int .i64 x)
abbrev eI(l:List Int):AV:=.sl (l.map fun n=>[ei n])
structure Std where
 parts:List Int
 came:Int
structure BS where
 reps:List Hs.Rep
 maps:List (List Ct.Stn)
 ships:List (List Int)
 said:List ((Int × Int) × Std)
 cost:Int
 acts:TA
def mpD(s:Hs.Sut)(l:List Ct.Stn):Ct.Mp:=⟨s.wide,s.rows,s.slope,l⟩
def enI(n:Int):Value:=.int .i64 n
def spE(p:Int × Int):Value:=.agg #[.int .i64 p.1,.int .i64 p.2]
def shL(l:List Int):List (Int × AV):=l.map fun n=>(n,.v (.bool true))
def sdL(l:List ((Int × Int) × Std)):List ((Int × Int) × AV):=l.map fun e=>(e.1,.ptr [eI e.2.parts,ei e.2.came])
def wR(s:Hs.Sut)(rs:List Hs.Rep):Hs.Wt:=⟨s.w.n,rs,s.w.lnks,s.w.prts,s.w.fall,s.w.win,s.w.hold,s.w.dawn,s.w.dusk⟩
def sR(s:Hs.Sut)(rs:List Hs.Rep):Hs.Sut:=⟨s.st,s.code,s.op,s.fr,s.mo,s.wide,s.rows,s.slope,wR s rs,s.cls,s.wts,s.pb,s.pr,s.pl,s.days⟩
def eBu(s:Hs.Sut)(b:BS):TA:=Hs.eSut (sR s b.reps)++[.sl (b.maps.map fun l=>Ct.eMp (mpD s l)),.sl (b.ships.map fun l=>[yo enI (shL l)]),yo spE (sdL b.said),ei b.cost,.sl (b.acts.map fun a=>[a]),.v (.bool true)]
structure Ix where
 row:Nat
 reps:Nat
 maps:Nat
 ships:Nat
 said:Nat
 acts:Nat
 sm:List Nat
 sp:List Nat
def Ix.all(ix:Ix):List Nat:=[ix.row,ix.reps,ix.maps,ix.ships,ix.said,ix.acts]++ix.sm++ix.sp
def cB(s:Hs.Sut)(b:BS)(ix:Ix):TE:=Hs.rSK (.pub (.sl (s.st.map Hs.eBSt))) (.psl ix.reps b.reps.length) s++[.psl ix.maps b.maps.length,.psl ix.ships b.ships.length,.mpv ix.said,I b.cost,.psl ix.acts b.acts.length,.pub (.v (.bool true))]
def mpC(s:Hs.Sut)(l:List Ct.Stn):TE:=(Ct.eMp (mpD s l)).map .pub
def acR(l:TA):List (TE):=l.map fun a=>[.pub a]
def sdO(l:List ((Int × Int) × Std))(sp:List Nat):List ((Int × Int) × EV):=(l.zip sp).map fun e=>(e.1.1,.pp e.2 1 0 0)
def sdC(e:Std):TE:=[.pub (eI e.parts),I e.came]
structure BuM(s:Hs.Sut)(b:BS)(ix:Ix)(mem:TP):Prop where
 row:mem[ix.row]?=some (.row [cB s b ix])
 reps:mem[ix.reps]?=some (.row (Hs.rRep b.reps))
 maps:mem[ix.maps]?=some (.row (b.maps.map (mpC s)))
 ships:mem[ix.ships]?=some (.row (ix.sm.map fun k=>[.mpv k]))
 sml:ix.sm.length=b.ships.length
 sm:∀(d k:Nat)(l:List Int),ix.sm[d]?=some k->b.ships[d]?=some l->mem[k]?=some (wM enI ((shL l).map fun p=>(p.1,.pub p.2)))
 said:mem[ix.said]?=some (wM spE (sdO b.said ix.sp))
 spl:ix.sp.length=b.said.length
 sp:∀(i k:Nat)(e:(Int × Int) × Std),ix.sp[i]?=some k->b.said[i]?=some e->mem[k]?=some (.row [sdC e.2])
 acts:mem[ix.acts]?=some (.row (acR b.acts))
 nd:ix.all.Nodup
variable{mem:TP}{l:List ((Int × Int) × Std)}{sp:List Nat}
theorem Hu:∀{rs:List (TE)}{vs:List (TA)},rs.length=vs.length->(∀(i:Nat)(r:TE)(v:TA),rs[i]?=some r->vs[i]?=some v->DVL mem r v)->DVR mem rs vs
 |[],[],_,_=>.nil
 |r::rs,v::vs,hl,h=>.cons (h 0 r v rfl rfl) (Hu (by simpa using hl) fun i r v h1 h2=>h (i+1) r v (by simpa using h1) (by simpa using h2))
 |[],_::_,hl,_=>by simp at hl
 |_::_,[],hl,_=>by simp at hl
theorem Et:∀{rs:TE}{vs:TA},rs.length=vs.length->(∀(i:Nat)(r:EV)(v:AV),rs[i]?=some r->vs[i]?=some v->DV mem r v)->DVL mem rs vs
 |[],[],_,_=>.nil
 |r::rs,v::vs,hl,h=>.cons (h 0 r v rfl rfl) (Et (by simpa using hl) fun i r v h1 h2=>h (i+1) r v (by simpa using h1) (by simpa using h2))
 |[],_::_,hl,_=>by simp at hl
 |_::_,[],hl,_=>by simp at hl
theorem DW{α:Type}{enc:α->Value}{l:Nat}{es:List (α × EV)}{xs:List (α × AV)}(hm:mem[l]?=some (wM enc es))(hk:es.map (·.1)=xs.map (·.1))(hv:DVL mem (es.map (·.2)) (xs.map (·.2))):DV mem (.mpv l) (yo enc xs):=by
 have h1:DV mem (.mpv l) (.mp ((es.map fun p=>(enc p.1,p.2)).map (·.1)) (xs.map (·.2))):=.mpv hm (by rw[List.map_map];exact hv)
 have h2:(es.map fun p=>(enc p.1,p.2)).map (·.1)=xs.map fun p=>enc p.1:=by
  rw[List.map_map,show((fun x:Value × EV=>x.1)∘fun p:α × EV=>(enc p.1,p.2))=enc∘(·.1) from rfl,←List.map_map,hk,List.map_map];rfl
 rw[h2]at h1;exact h1
theorem HC{k:Nat}{l:List Hs.Rep}(h:mem[k]?=some (.row (Hs.rRep l))):DV mem (.psl k l.length) (.sl (l.map Hs.eRep)):=
 .psl h Hs.rRep_len (by rw[show Hs.rRep l=(l.map Hs.eRep).map (·.map .pub) from by rw[List.map_map];rfl];exact DVR.pubs _)
theorem If(h:sp.length=l.length):(sdO l sp).length=l.length:=by simp[sdO,h]
theorem N1{i k:Nat}{e:(Int × Int) × Std}(h1:l[i]?=some e)(h2:sp[i]?=some k):(sdO l sp)[i]?=some (e.1,.pp k 1 0 0):=by
 have:(l.zip sp)[i]?=some (e,k):=List.getElem?_zip_eq_some.2 ⟨h1,h2⟩;rw[sdO,zLq,this];rfl
theorem BuM.dv{s:Hs.Sut}{b:BS}{ix:Ix}(h:BuM s b ix mem):DV mem (.pp ix.row 1 0 0) (.ptr (eBu s b)):=by
 have hmaps:DV mem (.psl ix.maps b.maps.length) (.sl (b.maps.map fun l=>Ct.eMp (mpD s l))):=.psl h.maps sI (by
  rw[show b.maps.map (mpC s)=(b.maps.map fun l=>Ct.eMp (mpD s l)).map (·.map .pub) from by rw[List.map_map];rfl];exact DVR.pubs _)
 have hships:DV mem (.psl ix.ships b.ships.length) (.sl (b.ships.map fun l=>[yo enI (shL l)])):=.psl h.ships (by simp[h.sml]) (Hu (by simp[h.sml]) fun i r v h1 h2=>by
  rw[zLq]at h1 h2;cases hk:ix.sm[i]?with
  |none=>rw[hk]at h1;cases h1
  |some k=>
   cases hl:b.ships[i]?with
   |none=>rw[hl]at h2;cases h2
   |some l=>
    rw[hk]at h1;rw[hl]at h2;simp only[Option.map_some,zLs]at h1 h2;subst h1;subst h2;refine .cons (DW (h.sm i k l hk hl) sI ?_) .nil;rw[List.map_map];exact(show DVL mem (((shL l).map (·.2)).map .pub) _ from DVL.pubs _)|>fun z=>by rw[List.map_map]at z;exact z)
 have hsaid:DV mem (.mpv ix.said) (yo spE (sdL b.said)):=by
  refine DW h.said ?_ ?_
  ·apply List.ext_getElem?;intro i;rw[zLq,zLq];cases hl:b.said[i]?with
   |none=>
    have:b.said.length<=i:=List.getElem?_eq_none_iff.1 hl;rw[List.getElem?_eq_none (by rw[If h.spl];exact this),List.getElem?_eq_none (by simp[sdL];exact this)];rfl
   |some e=>
    have hi:i<b.said.length:=(zLg hl).1;have hk:ix.sp[i]?=some (ix.sp[i]'(by rw[h.spl];exact hi)):=zLe _;rw[N1 hl hk];simp[sdL,hl]
  ·refine Et (by simp[If h.spl,sdL]) fun i r v h1 h2=>?_;rw[zLq]at h1 h2;cases hl:b.said[i]?with
   |none=>simp[sdL,hl]at h2
   |some e=>
    have hi:i<b.said.length:=(zLg hl).1;have hk:ix.sp[i]?=some (ix.sp[i]'(by rw[h.spl];exact hi)):=zLe _;rw[N1 hl hk]at h1;simp[sdL,hl]at h1 h2;subst h1;subst h2;exact .pp (h.sp i _ e hk hl) Y Y (DVL.pubs [eI e.2.parts,ei e.2.came])
 have hacts:DV mem (.psl ix.acts b.acts.length) (.sl (b.acts.map fun a=>[a])):=.psl h.acts (by simp[acR]) (by
  rw[show acR b.acts=(b.acts.map fun a=>[a]).map (·.map .pub) from by rw[List.map_map];rfl];exact DVR.pubs _)
 exact .pp h.row Y Y (.cons .r (.cons .r (.cons .r (.cons .r (.cons .r (.cons .r (.cons .r (.cons .r (.cons .r (.cons .r (.cons .r (.cons (HC h.reps) (.cons .r (.cons .r (.cons .r (.cons .r (.cons .r (.cons .r (.cons .r (.cons .r (.cons .r (.cons .r (.cons .r (.cons .r (.cons .r
  (.cons hmaps (.cons hships (.cons hsaid (.cons .r (.cons hacts (.cons .r .nil)))))))))))))))))))))))))))))))
end Bu
end Go.Av
namespace Go.Av
namespace Bu
open Go.Proofs Tryz
variable{G:Glob}
theorem Ig:zO tP 178 6 30=true:=nR
theorem j8:zO tP 178 0 0=true:=nR
theorem sV:zS tP 22 false 1=true:=nR
theorem jv:zO tP 178 1 25=true:=nR
theorem kT:zS tP 173 false 1=true:=nR
theorem bH:zO tP 126 3 3=true:=nR
theorem uK:zS tP 124 false 1=true:=nR
theorem D4:qN tP 124 121 3 24:=⟨underlying124,Tryz.t121,_,nR,rfl,rfl,rfl,rfl,dE⟩
theorem MJ:zU tP 121 [(0,1),(1,2)] [nZ,nZ,nZ]:=⟨_,underlying121,nR,nR⟩
theorem NZ:tP.info? 121=some Tryz.t121:=nR
theorem f147(a l h:Int):ACall tP G 159 [ei a,ei l,ei h] (.v (.bool (Hs.inB a l h))):=by
 refine aC func159 ?_;refine Z19 ?_;exact⟨.inr Y,AVle.of (by simp[Hs.inB])⟩
theorem f94(s:Hs.Sut)(b:BS):ACall tP G 88 [.ptr (eBu s b)] (.v (.bool false)):=by
 refine aC func88 ?_;refine Z8 ?_;refine zb (tp Y Y underlying42) (Z3 ?_);refine zh Y (fun hg=>zf Y (Y) Ig) (zh Y (fun hg=>zl Y (Y) Y ty4) (zh Y (fun hg=>q0 Y (Y)) ?_));refine zb (wm Y Y (fun h=>absurd h dE) (fun _=>rfl)) ?_;refine Z4 ?_;exact aR
theorem f190(s:Hs.Sut)(hS:Hs.SuP s)(b:BS)(n:Int):ACall tP G 143 [.ptr (eBu s b),ei n] (.v (.bool (Hs.inB n 0 (s.days-1)))):=by
 have hd:=hS.days;refine aC func143 ?_;refine Z13 ?_;refine zb (j4 Y Y Y ⟨by show _<=s.days-1;omega,by show s.days-1<=_;omega⟩) ?_;refine yc (f147 _ _ _) ?_;refine Z4 ?_;exact aR
theorem f212(s:Hs.Sut)(hS:Hs.SuP s)(b:BS)(n:Int):ACall tP G 147 [.ptr (eBu s b),ei n] (.v (.bool (Hs.inB n 0 ((s.st.length:Int)-1)))):=by
 have hd:=hS.n;have hm:((sR s b.reps).st.map Hs.eBSt).length=s.st.length:=by simp[sR]
 refine aC func147 ?_;refine Z13 ?_;refine zb (zM Y Y Y underlying22) (Z ?_);refine yc (f147 _ _ _) ?_;refine Z4 ?_;exact⟨.inr Y,AVle.of (by rw[hm])⟩
theorem f214(s:Hs.Sut)(b:BS)(d:Nat)(hd:d<b.maps.length):ACall tP G 149 [.ptr (eBu s b),ei d] (.v (.bool (decide (((b.maps[d]).length:Int)<12)))):=by
 have hm:(b.maps.map fun l=>Ct.eMp (mpD s l)).length=b.maps.length:=sI;refine aC func149 ?_;refine Z12 ?_;refine zb (zc Y Y Y mO oM (by exact Hs.mp_at (e:=fun l=>Ct.eMp (mpD s l)) hd) (Hs.mp_len fun _=>rfl)) ?_;refine Z2 ?_;refine zb (zM Y Y Y underlying124) (Z5 ?_);exact⟨.inr Y,AVle.of (by simp[mpD])⟩
theorem f228(s:Hs.Sut)(hS:Hs.SuP s)(b:BS)(d n:Int):ACall tP G 164 [.ptr (eBu s b),ei d,ei n] (.v (.bool (Hs.inB d 0 (s.days-1)&&Hs.inB n 0 ((s.wts.length:Int)-1)))):=by
 have hm:((sR s b.reps).wts.map fun n=>[Hs.ei n]).length=s.wts.length:=by simp[sR]
 have h6:=hS.s6;have hw:s.wts.length<=3:=by simp[Hs.s6B,Hs.inB]at h6;omega
 refine aC func164 ?_;refine Z9 ?_;refine yc (f190 s hS b d) ?_;refine Z7 ?_;refine zh Y (fun hg=>zM Y Y (zLc hg) underlying24) (Z ?_);refine yd Y (fun hg=>(f147 _ _ _)) ?_;refine Z5 ?_;exact⟨.inr Y,AVle.of (by rw[hm])⟩
def rSt(l:List Ct.Stn):List (TE):=l.map fun t=>(Ct.eStn t).map .pub
theorem eB{rows:List (TA)}{n:Nat}(h:∀q∈rows,q.length=n):∀r∈rows.map (·.map EV.pub),r.length=n:=fun r hr=>by
 obtain⟨q,hq,rfl⟩:=zLj.1 hr;rw[zL8];exact h q hq
variable{l:List Ct.Stn}
theorem eD:(rSt l).length=l.length:=by simp[rSt]
theorem Md:∀r∈rSt l,r.length=3:=fun r hr=>by
 obtain⟨q,_,rfl⟩:=zLj.1 hr;rfl
theorem QM{k:Nat}:PO.okL k (.row (rSt l)):=fun r hr x hx=>by
 obtain⟨b,_,rfl⟩:=zLj.1 hr;obtain⟨y,_,rfl⟩:=zLj.1 hx;simp[EV.lt]
theorem zby(l:List Ct.Stn)(hl:l.length<=1000)(A B:PO):zv tP G 316 [.pub (.sl (l.map Ct.eStn))] [A,B] (.ret (.psl 2 l.length) [A,B,.row (rSt l)]):=by
 refine xC func316 Y nR Y (fun gh hold hmk=>?_);refine Z8 ?_;refine zm Y (jF Y Y Y Y Y D4 (eB (Hs.mp_len fun _=>rfl)) (by simp;omega) (by unfold maxLen;simp;omega)) ?_;refine Z4 ?_;exact zR [] (zLz (fun z=>[A,B,PO.row z]) (by rw[rSt,List.map_map];rfl)) ⟨PO.okL_mono sI hmk.1,PO.okL_mono sI hmk.2.1,QM,trivial⟩ sI (.inr Y) (by simp[EV.lt]) (zLz (EV.psl 2) sI)
theorem N7(l:List Ct.Stn)(hl:l.length<=1000):∀{m:TP},m.length=2->zv tP G 316 [.pub (.sl (l.map Ct.eStn))] m (.ret (.psl 2 l.length) (m++[.row (rSt l)]))
 |[A,B],_=>zby l hl A B
theorem F2{t:Ct.Stn}:rSt l++[(Ct.eStn t).map .pub]=rSt (l++[t]):=by simp[rSt]
def wiM(s:Hs.Sut)(l:List Ct.Stn)(pt lo hi:Int):Ct.Mp:=mpD s (l++[⟨pt,lo,hi⟩])
theorem zbc{mem:TP}{k n:Nat}(h:mem[k]?=some (.row (rSt l)))(hn:l.length=n):uQ mem (.psl k n) (.sl (l.map Ct.eStn)):=⟨l.map Ct.eStn,by rw[h,rSt,List.map_map];rfl,by simpa using hn,rfl⟩
theorem f326(s:Hs.Sut)(b:BS)(d:Nat)(hd:d<b.maps.length)(hl:(b.maps[d]).length<=1000)(pt lo hi:Int):ACall tP G 242 [.ptr (eBu s b),ei d,ei pt,.agg [ei lo,ei hi]] (.agg (Ct.eMp (wiM s b.maps[d] pt lo hi))):=by
 have hm:(b.maps.map fun l=>Ct.eMp (mpD s l)).length=b.maps.length:=sI;refine aC func242 ?_;refine Z3 ?_;refine zm Y (zE Y Y uM Y Y) (Z9 ?_);refine zb (zc Y Y Y mO oM (by exact Hs.mp_at (e:=fun l=>Ct.eMp (mpD s l)) hd) (Hs.mp_len fun _=>rfl)) ?_;refine Z ?_;refine zm Y (zE Y Y uM Y Y) ?_;refine zm Y (zp Y Y Y Y Y Y cEx fL rF bL) (Z3 ?_);refine qd (fun _=>True) (fun k=>match k with|0=>.rd [1]|1=>.rd [1]|2=>.grow [] 2|3=>.stable|4=>.stable|5=>.stable|6=>.stable|7=>.rw [] (2)|8=>.rd [1]|9=>.writes|_=>.here) mixed nR rfl nR trivial ?_;refine wX [1] Y Y (fun m hm hC=>ze Y Y (hm.one 1 Y) Y bH) ?_;refine wX [1] Y Y (fun m hm hC=>zg (rows:=[[I s.wide,I s.rows,I s.slope,.pub (.sl ((b.maps[d]).map Ct.eStn))]]) (r:=[I s.wide,I s.rows,I s.slope,.pub (.sl ((b.maps[d]).map Ct.eStn))]) Y Y (hm.one 1 Y) Y Y Y uK) ?_;refine KL [] Y Y Y (fun _=>trivial) (fun m hn hm=>vS (av:=[.pub (.sl ((b.maps[d]).map Ct.eStn))]) Y rL (N7 b.maps[d] hl hn) sI (fun l h=>zLf h)) ?_
 refine Z2 ?_;refine zC Y Y (fun m hm=>zu (cs:=[_,_,_]) Y MJ Y (zk (zk Y)) rF (by simp[ofV])) ?_;refine zC Y Y (fun m hm=>zw (size:=3) (rows:=[[_,_,_]]) Y underlying124 NZ Y dE Y dE (zk Y) rF (by simp[ofV]) Y sI) ?_;refine Dm [] (2) Y Y (fun _=>trivial) (fun m hm=>qz Y Y ((hm 2 sI).trans Y) eD Y D4 Md (by intro r hr;simp at hr;subst hr;rfl) (by simp;omega) (by unfold maxLen;simp;omega)) ?_;refine wX [1] Y Y (fun m hm hC=>ze Y Y (hm.one 1 Y) Y bH) ?_;refine qw Y Y (zz Y Y Y Y Y Y (jW Y Y (by simp[eD])) uK rF rF) trivial (Z3 ?_);refine zt (zd (mem':=[.row [[I 0,I 0,I 0,.pub (.v (.slice none 0 0))]],.row [[I s.wide,I s.rows,I s.slope,.psl 2 ((b.maps[d]).length+1)]],.row (rSt (b.maps[d]++[⟨pt,lo,hi⟩]))]) [(8,.pp 0 1 0 0),(9,.pp 1 1 0 0)] ?_ ?_) ?_
 ·exact rL
 ·exact(zLz (fun z=>[PO.row [[I 0,I 0,I 0,.pub (.v (.slice none 0 0))]],.row [[I s.wide,I s.rows,I s.slope,.psl 2 ((b.maps[d]).length+1)]],.row z]) (F2 (l:=b.maps[d]) (t:=⟨pt,lo,hi⟩)))
 refine Z2 ?_;refine zm Y (zp Y Y Y Y Y Y cEx fL rF bL) (Z3 ?_);exact⟨.inr Y,jb Y (zQ Y Y Y Y fL Y (vwR (vwR (vwR ⟨_,_,Y,zbc (l:=b.maps[d]++[⟨pt,lo,hi⟩]) Y sI,Y⟩))))⟩
def drB(m:Ct.Mp):Bool:=Ct.mapB m&&(Ct.clashOf m).isNone
theorem zaK(m:Ct.Mp):∃(F:Ct.Fld)(e:Int),ACall tP G 75 [.agg (Ct.eMp m)] (.tup [.agg (Ct.eFld F),ei e])/\decide (e=0)=drB m:=by
 cases hb:Ct.mapB m with
 |false=>exact⟨_,_,Ct.f22_bad m hb,by simp[drB,hb]⟩
 |true=>
  have hm:Ct.okM m:=(Ct.okM_iff m).1 hb;cases hc:Ct.clashOf m with
  |none=>exact⟨_,_,Ct.f22_ok m hm hc,by simp[drB,hb,hc]⟩
  |some p=>exact⟨_,_,Ct.f22_clash m hm p hc,by simp[drB,hb,hc]⟩
theorem f216(s:Hs.Sut)(b:BS)(d:Nat)(hd:d<b.maps.length)(hl:(b.maps[d]).length<=1000)(pt lo hi:Int):ACall tP G 151 [.ptr (eBu s b),ei d,ei pt,.agg [ei lo,ei hi]] (.v (.bool (drB (wiM s b.maps[d] pt lo hi)))):=by
 obtain⟨F,e,h87,he⟩:=zaK (G:=G) (wiM s b.maps[d] pt lo hi);refine aC func151 ?_;refine Z12 ?_;refine yc (f326 s b d hd hl pt lo hi) ?_;refine yc h87 ?_;refine Z3 ?_;refine zI Y Y Y Y Y Y Y IC tw Y rF (zF Y) Y (Z11 ?_);exact⟨.inr Y,AVle.of (zLz (fun z=>AV.v (.bool z)) he)⟩
end Bu
end Go.Av
end
