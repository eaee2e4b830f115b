import Derived.Test.YtigbomcjnlikjaaGreatDoorExC
import Derived.Test.YtigbomcjnlikjaaGreatDoorBuG
set_option linter.unusedVariables false
set_option linter.unusedSimpArgs false
set_option maxRecDepth 100000
set_option maxHeartbeats 9000000
section
namespace Go.Av
namespace Bu
open Go.Proofs Tryz
variable{G:Glob}
variable{M M2:TP}{R:Nat}{A W ZZ e:Int}{BB:AV}{l:List Int}
theorem zas(hle:M.length<=M2.length)(hlk:∀l,l<M.length->Like M M2 l)(x0 x1 x2 x3 x4 x5 x6 x7 x8 x9 x10:Int)(c:TC)(hq:zv tP G 70 [.pp R 1 0 0,I x0,.pub (.agg (qF ⟨x1,x2,x3,x4,x5,x6,x7,x8,x9,x10⟩))] M (.ret (I e) M2)):zv tP G 294 [.pp R 1 0 0,.pub (eI [x0,x1,x2,x3,x4,x5,x6,x7,x8,x9,x10]),.pub (Wr.eCps c)] M (.ret (.tpl [.pub (.v (.slice none 0 0)),I e]) M2):=by
 refine jd func294 Y nR Y (fun gh hold hmk=>?_);refine Z7 ?_;refine qd (fun _=>True) (fun k=>match k with|1=>.stable|2=>.stable|4=>.stable|5=>.stable|6=>.stable|7=>.stable|8=>.stable|9=>.stable|10=>.stable|11=>.stable|12=>.stable|13=>.stable|14=>.stable|15=>.stable|16=>.stable|17=>.stable|18=>.stable|19=>.stable|20=>.stable|21=>.stable|22=>.stable|23=>.stable|24=>.stable|25=>.stable|26=>.stable|27=>.stable|28=>.stable|29=>.stable|30=>.stable|31=>.stable|32=>.stable|33=>.stable|34=>.stable|35=>.stable|36=>.stable|38=>.writes|39=>.stable|40=>.stable|_=>.here) mixed nR rfl nR trivial ?_;refine Z2 ?_;refine zC Y Y (fun m hm=>zc Y Y Y zY oM (by exact zA (ds:=[x0,x1,x2,x3,x4,x5,x6,x7,x8,x9,x10]) (i:=0) sI) zn) (Z2 ?_);refine zC Y Y (fun m hm=>zc Y Y Y zY oM (by exact zA (ds:=[x0,x1,x2,x3,x4,x5,x6,x7,x8,x9,x10]) (i:=1) sI) zn) (Z2 ?_);refine zC Y Y (fun m hm=>zc Y Y Y zY oM (by exact zA (ds:=[x0,x1,x2,x3,x4,x5,x6,x7,x8,x9,x10]) (i:=2) sI) zn) (Z2 ?_)
 refine zC Y Y (fun m hm=>zc Y Y Y zY oM (by exact zA (ds:=[x0,x1,x2,x3,x4,x5,x6,x7,x8,x9,x10]) (i:=3) sI) zn) (Z2 ?_);refine zC Y Y (fun m hm=>zc Y Y Y zY oM (by exact zA (ds:=[x0,x1,x2,x3,x4,x5,x6,x7,x8,x9,x10]) (i:=4) sI) zn) (Z2 ?_);refine zC Y Y (fun m hm=>zc Y Y Y zY oM (by exact zA (ds:=[x0,x1,x2,x3,x4,x5,x6,x7,x8,x9,x10]) (i:=5) sI) zn) (Z2 ?_);refine zC Y Y (fun m hm=>zc Y Y Y zY oM (by exact zA (ds:=[x0,x1,x2,x3,x4,x5,x6,x7,x8,x9,x10]) (i:=6) sI) zn) (Z ?_);refine zC Y Y (fun m hm=>zu (cs:=[_,_]) Y iV Y (zk (zk Y)) rF (by simp[ofV])) ?_;refine Z ?_;refine zC Y Y (fun m hm=>zc Y Y Y zY oM (by exact zA (ds:=[x0,x1,x2,x3,x4,x5,x6,x7,x8,x9,x10]) (i:=7) sI) zn) (Z2 ?_);refine zC Y Y (fun m hm=>zc Y Y Y zY oM (by exact zA (ds:=[x0,x1,x2,x3,x4,x5,x6,x7,x8,x9,x10]) (i:=8) sI) zn) (Z ?_);refine zC Y Y (fun m hm=>zu (cs:=[_,_]) Y iV Y (zk (zk Y)) rF (by simp[ofV])) ?_;refine Z ?_;refine zC Y Y (fun m hm=>zc Y Y Y zY oM (by exact zA (ds:=[x0,x1,x2,x3,x4,x5,x6,x7,x8,x9,x10]) (i:=9) sI) zn) (Z2 ?_)
 refine zC Y Y (fun m hm=>zc Y Y Y zY oM (by exact zA (ds:=[x0,x1,x2,x3,x4,x5,x6,x7,x8,x9,x10]) (i:=10) sI) zn) (Z ?_);refine zC Y Y (fun m hm=>zu (cs:=[_,_]) Y iV Y (zk (zk Y)) rF (by simp[ofV])) ?_;refine zK Y Y (zu (cs:=[_,_,_,_,_,_,_,_,_,_]) Y X5 Y (zk (zk (zk (zk (zk (zk (zk Y))))))) rF (by simp[ofV])) ?_;refine qw Y Y (qO (av:=[.pp R 1 0 0,I x0,.pub (.agg (qF ⟨x1,x2,x3,x4,x5,x6,x7,x8,x9,x10⟩))]) Y rL hq hle hlk) trivial (Z5 ?_)
 exact fun hz=>qQ [] (List.append_nil _).symm hz hle (.inr Y) (by simp[EV.lt,EV.ltL,I]) ⟨dE,_,Y,_,_,Y,Y,_,_,Y,Y,Y⟩
theorem PW(hle:M.length<=M2.length)(hlk:∀l,l<M.length->Like M M2 l)(x0 x1:Int)(c:TC)(hq:zv tP G 71 [.pp R 1 0 0,I x0,I x1,.pub (Wr.eCps c)] M (.ret (I e) M2)):zv tP G 295 [.pp R 1 0 0,.pub (eI [x0,x1]),.pub (Wr.eCps c)] M (.ret (.tpl [.pub (.v (.slice none 0 0)),I e]) M2):=by
 refine jd func295 Y nR Y (fun gh hold hmk=>?_);refine Z7 ?_;refine qd (fun _=>True) (fun k=>match k with|1=>.stable|2=>.stable|4=>.stable|5=>.stable|8=>.writes|9=>.stable|10=>.stable|_=>.here) mixed nR rfl nR trivial ?_;refine Z2 ?_;refine zC Y Y (fun m hm=>zc Y Y Y zY oM (by exact zA (ds:=[x0,x1]) (i:=0) sI) zn) (Z2 ?_);refine zC Y Y (fun m hm=>zc Y Y Y zY oM (by exact zA (ds:=[x0,x1]) (i:=1) sI) zn) (Z2 ?_);refine qw Y Y (qO (av:=[.pp R 1 0 0,I x0,I x1,.pub (Wr.eCps c)]) Y rL hq hle hlk) trivial (Z5 ?_)
 exact fun hz=>qQ [] (List.append_nil _).symm hz hle (.inr Y) (by simp[EV.lt,EV.ltL,I]) ⟨dE,_,Y,_,_,Y,Y,_,_,Y,Y,Y⟩
theorem O3(hle:M.length<=M2.length)(hlk:∀l,l<M.length->Like M M2 l)(x0 x1 x2 x3 x4:Int)(c:TC)(hq:zv tP G 72 [.pp R 1 0 0,I x0,I x1,I x2,.pub (.agg [ei x3,ei x4])] M (.ret (I e) M2)):zv tP G 296 [.pp R 1 0 0,.pub (eI [x0,x1,x2,x3,x4]),.pub (Wr.eCps c)] M (.ret (.tpl [.pub (.v (.slice none 0 0)),I e]) M2):=by
 refine jd func296 Y nR Y (fun gh hold hmk=>?_);refine Z7 ?_;refine qd (fun _=>True) (fun k=>match k with|1=>.stable|2=>.stable|4=>.stable|5=>.stable|7=>.stable|8=>.stable|10=>.stable|11=>.stable|12=>.stable|13=>.stable|14=>.stable|15=>.stable|17=>.writes|18=>.stable|19=>.stable|_=>.here) mixed nR rfl nR trivial ?_;refine Z2 ?_;refine zC Y Y (fun m hm=>zc Y Y Y zY oM (by exact zA (ds:=[x0,x1,x2,x3,x4]) (i:=0) sI) zn) (Z2 ?_);refine zC Y Y (fun m hm=>zc Y Y Y zY oM (by exact zA (ds:=[x0,x1,x2,x3,x4]) (i:=1) sI) zn) (Z2 ?_);refine zC Y Y (fun m hm=>zc Y Y Y zY oM (by exact zA (ds:=[x0,x1,x2,x3,x4]) (i:=2) sI) zn) (Z2 ?_);refine zC Y Y (fun m hm=>zc Y Y Y zY oM (by exact zA (ds:=[x0,x1,x2,x3,x4]) (i:=3) sI) zn) (Z2 ?_);refine zC Y Y (fun m hm=>zc Y Y Y zY oM (by exact zA (ds:=[x0,x1,x2,x3,x4]) (i:=4) sI) zn) (Z ?_);refine zK Y Y (zu (cs:=[_,_]) Y iV Y (zk (zk Y)) rF (by simp[ofV])) ?_;refine qw Y Y (qO (av:=[.pp R 1 0 0,I x0,I x1,I x2,.pub (.agg [ei x3,ei x4])]) Y rL hq hle hlk) trivial (Z5 ?_)
 exact fun hz=>qQ [] (List.append_nil _).symm hz hle (.inr Y) (by simp[EV.lt,EV.ltL,I]) ⟨dE,_,Y,_,_,Y,Y,_,_,Y,Y,Y⟩
theorem VC(hle:M.length<=M2.length)(hlk:∀l,l<M.length->Like M M2 l)(x0 x1 x2 x3 x4 x5 x6:Int)(c:TC)(hq:zv tP G 31 [.pp R 1 0 0,.pub (.agg (Hs.eRep ⟨x0,x1,x2,x3,x4,x5,x6⟩))] M (.ret (I e) M2)):zv tP G 297 [.pp R 1 0 0,.pub (eI [x0,x1,x2,x3,x4,x5,x6]),.pub (Wr.eCps c)] M (.ret (.tpl [.pub (.v (.slice none 0 0)),I e]) M2):=by
 refine jd func297 Y nR Y (fun gh hold hmk=>?_);refine Z7 ?_;refine qd (fun _=>True) (fun k=>match k with|1=>.stable|2=>.stable|3=>.stable|4=>.stable|5=>.stable|6=>.stable|7=>.stable|8=>.stable|9=>.stable|10=>.stable|11=>.stable|12=>.stable|13=>.stable|14=>.stable|15=>.stable|16=>.stable|17=>.stable|18=>.stable|19=>.stable|20=>.stable|21=>.stable|22=>.stable|24=>.writes|25=>.stable|26=>.stable|_=>.here) mixed nR rfl nR trivial ?_;refine Z2 ?_;refine zC Y Y (fun m hm=>zc Y Y Y zY oM (by exact zA (ds:=[x0,x1,x2,x3,x4,x5,x6]) (i:=0) sI) zn) (Z2 ?_);refine zC Y Y (fun m hm=>zc Y Y Y zY oM (by exact zA (ds:=[x0,x1,x2,x3,x4,x5,x6]) (i:=1) sI) zn) (Z2 ?_);refine zC Y Y (fun m hm=>zc Y Y Y zY oM (by exact zA (ds:=[x0,x1,x2,x3,x4,x5,x6]) (i:=2) sI) zn) (Z2 ?_);refine zC Y Y (fun m hm=>zc Y Y Y zY oM (by exact zA (ds:=[x0,x1,x2,x3,x4,x5,x6]) (i:=3) sI) zn) (Z2 ?_);refine zC Y Y (fun m hm=>zc Y Y Y zY oM (by exact zA (ds:=[x0,x1,x2,x3,x4,x5,x6]) (i:=4) sI) zn) (Z ?_)
 refine zC Y Y (fun m hm=>zu (cs:=[_,_]) Y iV Y (zk (zk Y)) rF (by simp[ofV])) ?_;refine Z ?_;refine zC Y Y (fun m hm=>zc Y Y Y zY oM (by exact zA (ds:=[x0,x1,x2,x3,x4,x5,x6]) (i:=5) sI) zn) (Z2 ?_);refine zC Y Y (fun m hm=>zc Y Y Y zY oM (by exact zA (ds:=[x0,x1,x2,x3,x4,x5,x6]) (i:=6) sI) zn) (Z ?_);refine zK Y Y (zu (cs:=[_,_,_,_,_,_,_]) Y UU Y (zk (zk (zk (zk (zk (zk Y)))))) rF (by simp[ofV])) ?_;refine qw Y Y (qO (av:=[.pp R 1 0 0,.pub (.agg (Hs.eRep ⟨x0,x1,x2,x3,x4,x5,x6⟩))]) Y rL hq hle hlk) trivial (Z5 ?_)
 exact fun hz=>qQ [] (List.append_nil _).symm hz hle (.inr Y) (by simp[EV.lt,EV.ltL,I]) ⟨dE,_,Y,_,_,Y,Y,_,_,Y,Y,Y⟩
theorem Qc(hle:M.length<=M2.length)(hlk:∀l,l<M.length->Like M M2 l)(x0 x1:Int)(l:List Int)(c:TC)(hq:zv tP G 73 [.pp R 1 0 0,I x0,I x1,.pub (eI l)] M (.ret (I e) M2)):zv tP G 298 [.pp R 1 0 0,.pub (eI (x0::x1::l)),.pub (Wr.eCps c)] M (.ret (.tpl [.pub (.v (.slice none 0 0)),I e]) M2):=by
 refine jd func298 Y nR Y (fun gh hold hmk=>?_);refine Z7 ?_;refine qd (fun _=>True) (fun k=>match k with|1=>.stable|2=>.stable|4=>.stable|5=>.stable|7=>.stable|9=>.writes|10=>.stable|11=>.stable|_=>.here) mixed nR rfl nR trivial ?_;refine Z2 ?_;refine zC Y Y (fun m hm=>zc Y Y Y zY oM (by exact zA (ds:=x0::x1::l) (i:=0) sI) zn) (Z2 ?_);refine zC Y Y (fun m hm=>zc Y Y Y zY oM (by exact zA (ds:=x0::x1::l) (i:=1) sI) zn) (Z2 ?_);refine zK Y Y (fG Y Y) (qw Y Y (qO (av:=[.pp R 1 0 0,I x0,I x1,.pub (eI l)]) Y rL hq hle hlk) trivial ?_);refine Z5 ?_
 exact fun hz=>qQ [] (List.append_nil _).symm hz hle (.inr Y) (by simp[EV.lt,EV.ltL,I]) ⟨dE,_,Y,_,_,Y,Y,_,_,Y,Y,Y⟩
theorem P0(hle:M.length<=M2.length)(hlk:∀l,l<M.length->Like M M2 l)(x0 x1 x2:Int)(c:TC)(hq:zv tP G 74 [.pp R 1 0 0,I x0,I x1,I x2] M (.ret (I e) M2)):zv tP G 299 [.pp R 1 0 0,.pub (eI [x0,x1,x2]),.pub (Wr.eCps c)] M (.ret (.tpl [.pub (.v (.slice none 0 0)),I e]) M2):=by
 refine jd func299 Y nR Y (fun gh hold hmk=>?_);refine Z7 ?_;refine qd (fun _=>True) (fun k=>match k with|1=>.stable|2=>.stable|4=>.stable|5=>.stable|7=>.stable|8=>.stable|10=>.writes|11=>.stable|12=>.stable|_=>.here) mixed nR rfl nR trivial ?_;refine Z2 ?_;refine zC Y Y (fun m hm=>zc Y Y Y zY oM (by exact zA (ds:=[x0,x1,x2]) (i:=0) sI) zn) (Z2 ?_);refine zC Y Y (fun m hm=>zc Y Y Y zY oM (by exact zA (ds:=[x0,x1,x2]) (i:=1) sI) zn) (Z2 ?_);refine zC Y Y (fun m hm=>zc Y Y Y zY oM (by exact zA (ds:=[x0,x1,x2]) (i:=2) sI) zn) (Z ?_);refine qw Y Y (qO (av:=[.pp R 1 0 0,I x0,I x1,I x2]) Y rL hq hle hlk) trivial (Z5 ?_)
 exact fun hz=>qQ [] (List.append_nil _).symm hz hle (.inr Y) (by simp[EV.lt,EV.ltL,I]) ⟨dE,_,Y,_,_,Y,Y,_,_,Y,Y,Y⟩
theorem RL:(tP.info? 63).bind (·.zero)=some (.agg #[nZ,nZ]):=nR
theorem BY(l:List Int):ACall tP G 353 [eI l] (eI l):=by
 refine aC func353 ?_;refine Z12 ?_;exact aR
theorem Rj(x0:Int){F:Ct.Fld}(hq:ACall tP G 21 [BB,ei x0] (.tup [.agg (Ct.eFld F),ei e]))(c:TC):ACall tP G 300 [BB,eI [x0],Wr.eCps c] (.tup [Ct.eInts F.vals,ei e]):=by
 refine aC func300 ?_;refine Z10 ?_;refine zb (zc Y Y Y zY oM (by exact zA (ds:=[x0]) (i:=0) sI) zn) (Z ?_);refine yc hq ?_;refine Z3 ?_;refine zI Y Y Y Y Y Y Y IC tw Y rF (zF Y) Y (Z13 ?_);exact⟨.inr Y,⟨_,Y,⟨_,_,Y,AVle.refl _,⟨_,_,Y,AVle.refl _,Y⟩⟩⟩⟩
theorem zaT(x0 x1 x2:Int)(hq:ACall tP G 18 [BB,ei x0,ei x1,ei x2] (.tup [ei W,ei e]))(c:TC):ACall tP G 301 [BB,eI [x0,x1,x2],Wr.eCps c] (.tup [eI [W],ei e]):=by
 refine aC func301 ?_;refine Z7 ?_;refine zN mixed nR Y ?_;refine Z2 ?_;refine zH Y (zc Y Y Y zY oM (by exact zA (ds:=[x0,x1,x2]) (i:=0) sI) zn) (Z2 ?_);refine zH Y (zc Y Y Y zY oM (by exact zA (ds:=[x0,x1,x2]) (i:=1) sI) zn) (Z2 ?_);refine zH Y (zc Y Y Y zY oM (by exact zA (ds:=[x0,x1,x2]) (i:=2) sI) zn) (Z ?_);refine zH Y (zi (av:=[_,_,_,_]) Y rL hq) (Z10 ?_);refine zb (zw (size:=1) (rows:=[[_]]) Y underlying24 Xs Y dE Y dE (zk Y) rF (by simp[ofV]) Y sI) ?_;refine yc (BY [W]) ?_;refine Z6 ?_;exact⟨.inr Y,⟨_,Y,⟨_,_,Y,AVle.refl _,⟨_,_,Y,AVle.refl _,Y⟩⟩⟩⟩
theorem SA(hq:ACall tP G 27 [BB] (.tup [ei A,ei ZZ,ei e]))(c:TC):ACall tP G 303 [BB,eI [],Wr.eCps c] (.tup [eI [A,ZZ],ei e]):=by
 refine aC func303 ?_;refine Z9 ?_;refine yc hq ?_;refine Z13 ?_;refine zb (zw (size:=1) (rows:=[[_],[_]]) Y underlying24 Xs Y dE Y dE (zk (zk Y)) rF (by simp[ofV]) Y sI) ?_;refine yc (BY [A,ZZ]) ?_;refine Z6 ?_;exact⟨.inr Y,⟨_,Y,⟨_,_,Y,AVle.refl _,⟨_,_,Y,AVle.refl _,Y⟩⟩⟩⟩
theorem Us(x0 x1:Int)(hq:ACall tP G 29 [BB,ei x0,ei x1] (.tup [ei W,ei e]))(c:TC):ACall tP G 304 [BB,eI [x0,x1],Wr.eCps c] (.tup [eI [W],ei e]):=by
 refine aC func304 ?_;refine Z7 ?_;refine zN mixed nR Y ?_;refine Z2 ?_;refine zH Y (zc Y Y Y zY oM (by exact zA (ds:=[x0,x1]) (i:=0) sI) zn) (Z2 ?_);refine zH Y (zc Y Y Y zY oM (by exact zA (ds:=[x0,x1]) (i:=1) sI) zn) (Z ?_);refine zH Y (zi (av:=[_,_,_]) Y rL hq) (Z10 ?_);refine zb (zw (size:=1) (rows:=[[_]]) Y underlying24 Xs Y dE Y dE (zk Y) rF (by simp[ofV]) Y sI) ?_;refine yc (BY [W]) ?_;refine Z6 ?_;exact⟨.inr Y,⟨_,Y,⟨_,_,Y,AVle.refl _,⟨_,_,Y,AVle.refl _,Y⟩⟩⟩⟩
theorem zbY(x0:Int)(hq:ACall tP G 44 [BB,ei x0] (.tup [eI l,ei e]))(c:TC):ACall tP G 305 [BB,eI [x0],Wr.eCps c] (.tup [eI l,ei e]):=by
 refine aC func305 ?_;refine Z10 ?_;refine zb (zc Y Y Y zY oM (by exact zA (ds:=[x0]) (i:=0) sI) zn) (Z ?_);refine yc hq ?_;refine Z7 ?_;exact⟨.inr Y,⟨_,Y,⟨_,_,Y,AVle.refl _,⟨_,_,Y,AVle.refl _,Y⟩⟩⟩⟩
theorem zbG(hq:ACall tP G 32 [BB] (.tup [.agg [ei A,ei ZZ],ei e]))(c:TC):ACall tP G 306 [BB,eI [],Wr.eCps c] (.tup [eI [A,ZZ],ei e]):=by
 refine aC func306 ?_;refine Z9 ?_;refine yc hq ?_;refine Z3 ?_;refine zI Y Y Y Y Y Y Y RL vd Y rF (zF Y) Y (Z9 ?_);refine zb (zw (size:=1) (rows:=[[_],[_]]) Y underlying24 Xs Y dE Y dE (zk (zk Y)) rF (by simp[ofV]) Y sI) ?_;refine yc (BY [A,ZZ]) ?_;refine Z6 ?_;exact⟨.inr Y,⟨_,Y,⟨_,_,Y,AVle.refl _,⟨_,_,Y,AVle.refl _,Y⟩⟩⟩⟩
theorem X6(hq:ACall tP G 33 [BB] (.tup [.agg [ei A,ei ZZ],ei e]))(c:TC):ACall tP G 307 [BB,eI [],Wr.eCps c] (.tup [eI [A,ZZ],ei e]):=by
 refine aC func307 ?_;refine Z9 ?_;refine yc hq ?_;refine Z3 ?_;refine zI Y Y Y Y Y Y Y RL vd Y rF (zF Y) Y (Z9 ?_);refine zb (zw (size:=1) (rows:=[[_],[_]]) Y underlying24 Xs Y dE Y dE (zk (zk Y)) rF (by simp[ofV]) Y sI) ?_;refine yc (BY [A,ZZ]) ?_;refine Z6 ?_;exact⟨.inr Y,⟨_,Y,⟨_,_,Y,AVle.refl _,⟨_,_,Y,AVle.refl _,Y⟩⟩⟩⟩
theorem zay(hq:ACall tP G 39 [BB] (.tup [ei W,ei e]))(c:TC):ACall tP G 308 [BB,eI [],Wr.eCps c] (.tup [eI [W],ei e]):=by
 refine aC func308 ?_;refine Z9 ?_;refine yc hq ?_;refine Z10 ?_;refine zb (zw (size:=1) (rows:=[[_]]) Y underlying24 Xs Y dE Y dE (zk Y) rF (by simp[ofV]) Y sI) ?_;refine yc (BY [W]) ?_;refine Z6 ?_;exact⟨.inr Y,⟨_,Y,⟨_,_,Y,AVle.refl _,⟨_,_,Y,AVle.refl _,Y⟩⟩⟩⟩
theorem ti9:tP.info? 9=some Tryz.t9:=nR
def rS(l:TB):List (TE):=l.map fun s=>[.pub (eS s)]
theorem XS{l:TB}:∀r∈rS l,r.length=1:=by simp[rS]
theorem Vl{mem:TP}{k:Nat}{l:TB}(h:mem[k]?=some (.row (rS l))):DV mem (.psl k l.length) (eStrs l):=
 .psl h (by simp[rS]) (by
  clear h
  induction l with
  |nil=>exact .nil
  |cons a l ih=>exact .cons (.cons .r .nil) ih)
theorem Nc{k:Nat}(h:k<l.length):PO.row (rS ((l.take k).map Lib.itoa)++[[.pub (eS (Lib.itoa l[k]))]])=.row (rS ((l.take (k+1)).map Lib.itoa)):=by
 rw[zLt h];simp only[rS,List.map_append,List.map_cons,List.map_nil]
theorem V2(l:List Int)(hl:l.length<=100000)(hi:∀n∈l,-9223372036854775808<=n/\n<=9223372036854775807)(hj:(Lib.join (l.map Lib.itoa) [32]).length<=140737488355328):ACall tP GB 130 [eI l] (eS (Lib.join (l.map Lib.itoa) [32])):=by
 have hll:(l.map fun n=>[ei n]).length=l.length:=sI
 have sp32:ACall tP GB 224 [eStrs (l.map Lib.itoa),ofV (.string ⟨#[32]⟩)] (eS (Lib.join (l.map Lib.itoa) [32])):=by
  have:=VG (l.map Lib.itoa) [32] (by simp;omega) hj;rwa[show eS [32]=ofV (.string ⟨#[32]⟩) from by simp[ofV]]at this
 refine aC func130 ?_;refine Z12 ?_;refine zt (yZ 3 Y) ?_;refine Z2 ?_;first|refine jp rfl rfl (zM rfl rfl rfl underlying24) ?_|refine jp rfl rfl (jJ rfl rfl rfl (by simp) underlying24) ?_|refine jp rfl rfl (y5 rfl rfl underlying24) ?_
 refine Z4 ?_;refine zD (ι:={k:Nat//k<=l.length}) (fun k=>⟨Tryz.f130.ntmps,frL [(3,.psl 0 k.1),(6,.pub (eI l)),(7,I (((l.map fun n=>[ei n]).length:Nat):Int)),(8,I (k.1:Int))],[.row (rS ((l.take k.1).map Lib.itoa))]⟩) (fun k=>l.length-k.1) (⟨0,oM⟩) ?_ ?_
 ·exact zd _ rL (Y)
 ·rintro⟨k,hk⟩;dsimp only;refine Z6 ?_;refine nC ?_ ?_<;>intro h0
  ·skip;have hlt:k<l.length:=by rw[hll]at h0;simpa using h0
   refine Z6 ?_;first|refine jp rfl rfl (zc rfl rfl rfl zY (by omega) (by exact zA (ds:=l) (i:=k) hlt) zn) ?_|refine jp rfl rfl (qh rfl rfl rfl rfl rfl zY (by omega) (by exact zA (ds:=l) (i:=k) hlt) zn) ?_
   refine Z7 ?_;refine yc (uN l[k] (hi _ (zLm hlt))) ?_;refine zb (zw (size:=1) (rows:=[[_]]) Y underlying108 ti9 Y dE Y dE ⟨_,_,Y,jT Y,Y⟩ rF (by simp[ofV]) Y sI) ?_;refine zm Y (wn Y Y Y Y (by simp[rS];omega) Y U9 XS (by intro r hr;simp at hr;subst hr;rfl) (by simp;omega) (by unfold maxLen;simp;omega)) (Z8 ?_);exact⟨⟨k+1,by omega⟩,by dsimp only;omega,zd _ rL ((by first|exact zLz (fun x=>[x]) (Nc hlt)|exact zLz (· ::[]) (Nc hlt)))⟩
  ·skip;have hge:k=l.length:=by rw[hll]at h0;simp at h0;omega
   have hdv:DV [.row (rS ((l.take k).map Lib.itoa))] (.psl 0 k) (eStrs (l.map Lib.itoa)):=by
    have:=Vl (mem:=[.row (rS ((l.take k).map Lib.itoa))]) (k:=0) (l:=(l.take k).map Lib.itoa) rfl;have ht:l.take k=l:=by rw[hge,List.take_length]
    rw[ht]at this⊢;rw[zL8,←hge]at this;exact this
   refine Z8 ?_;refine zb (jc (av:=[_,_]) Y ⟨hdv,.r,trivial⟩ Y sp32) (Z4 ?_);exact aR
end Bu
end Go.Av
namespace Go.Av
namespace Bu
open Go.Proofs Tryz
theorem VV{w:List UInt8}{o:Od}{d:AV}(h:Po w=some o):wY w d ordL=odA o/\aZ w ordL=true:=by
 rw[Oq];exact(EZ w odA odL).1 o h
theorem OG(t:List UInt8):(wsT t)[0]'(xr t)=(wsT t).headD []:=hd_at.symm
theorem OE(t:List UInt8)(hl:t.length<=100000){o:Od}{x:List Int}{l:TC}(h:prP t=some (o,x,l)):ACall tP GB 129 [eS t] (.tup [eLn o x l,.v (.bool true)]):=by
  unfold prP at h;cases ho:Po ((wsT t).headD [])with
  |none=>rw[ho]at h;cases h
  |some o'=>
    rw[ho]at h;simp only at h;split at h
    · cases h
    · rename_i hc
      rw[zL7]at h;obtain⟨p,hp,he⟩:=h;injection he with e1 e2
      subst e1;have hlk:=f129 t hl (F:=.fn o'.f [] []) (many:=o'.many) (more:=o'.more) (cop:=o'.cop) (act:=o'.act) (is:=true) (by rw[OG];obtain⟨k1,k2⟩:=VV (d:=ofV (.agg #[.nilFunc,nZ,.bool false,.bool false,.bool false])) ho;rw[k1,k2];rfl);have hlen:((wsT t).drop 1).length=(wsT t).length-1:=sI;have hw:=xr t;rw[←hlen]at hp
      have hr:rLn (.fn o'.f [] []) o'.many o'.more o'.cop o'.act true ((wsT t).drop 1)=.tup [eLn o' x l,.v (.bool true)]:=by
        unfold rLn
        rw [zLy (by rw[hlen,show (((wsT t).length - 1 : Nat) : Int) = ((wsT t).length : Int) - 1 from oM];exact hc),hp]
        rw[show p=(x,l) from e2];rfl
      rw[hr]at hlk;exact hlk
end Bu
end Go.Av
namespace Go.Av
namespace Bu
open Go.Proofs Tryz
variable{G:Glob}
theorem S5:ACall tP GB 130 [.v (.slice none 0 0)] (eS []):=(V2 [] sI sI (by simp[Lib.join])).sub ⟨_,_,rfl,AVle.nil,rfl⟩ (AVle.refl _)
variable{x:List Int}
theorem qdo(t:List UInt8)(hl:t.length<=200){o:Od}{l:TC}(hp:prP t=some (o,x,l)){BB:AV}(h88:ACall tP GB 88 [BB] (.v (.bool false))){out:List Int}(hq:ACall tP GB o.f [BB,eI x,Wr.eCps l] (.tup [eI out,ei 0]))(ho:out.length<=100000)(hi:∀n∈out,-9223372036854775808<=n/\n<=9223372036854775807)(hj:(Lib.join (out.map Lib.itoa) [32]).length<=140737488355328):ACall tP GB 52 [BB,eS t] (.tup [eS (Lib.join (out.map Lib.itoa) [32]),ei 0]):=by
 refine aC func52 ?_;refine Z10 ?_;refine yc h88 ?_;refine Z2 ?_;refine nC ?_ ?_<;>intro h0
 ·skip;exfalso;simp at h0
 ·skip;refine Z6 ?_;first|refine jp rfl rfl (vt rfl rfl underlying9) ?_|refine jp rfl rfl (kl rfl rfl underlying9) ?_
  refine Z3 ?_;refine nC ?_ ?_<;>intro h1
  ·skip;exfalso;simp at h1;omega
  ·skip;refine Z5 ?_;refine yc (OE t oM hp) ?_;refine Z3 ?_;refine zI Y Y Y Y Y Y Y G8 dO Y rF (zF Y) Y (Z10 ?_);refine nC ?_ ?_<;>intro h2
   ·skip;exfalso;simp at h2
   ·skip;refine Z12 ?_;refine zb (m9 Y Y (av:=[_,_,_]) Y hq) (Z14 ?_);refine nC ?_ ?_<;>intro h3
    ·skip;exfalso;simp at h3
    ·skip;refine Z5 ?_;refine yc (V2 out ho hi hj) ?_;refine Z5 ?_;exact⟨.inr Y,⟨_,Y,⟨_,_,Y,AVle.refl _,⟨_,_,Y,AVle.refl _,Y⟩⟩⟩⟩
theorem mdo(t:List UInt8)(hl:t.length<=200){o:Od}{l:TC}(hp:prP t=some (o,x,l)){s:Hs.Sut}{b:BS}{ix:Ix}{M:TP}(h:BuM s b ix M){e:Int}{M2:TP}(hle:M.length<=M2.length)(hq:zv tP GB o.f [.pp ix.row 1 0 0,.pub (eI x),.pub (Wr.eCps l)] M (.ret (.tpl [.pub (.v (.slice none 0 0)),I e]) M2)):zv tP GB 52 [.pp ix.row 1 0 0,.pub (eS t)] M (.ret (.tpl [.pub (eS []),I e]) M2):=by
 refine jd func52 Y nR Y (fun gh hold hmk=>?_);refine Z10 ?_;refine zb (jc (av:=[.ptr (eBu s b)]) Y ⟨h.dv,trivial⟩ Y (f94 s b)) (Z2 ?_);refine nC ?_ ?_<;>intro h0
 ·skip;exfalso;simp at h0
 ·skip;refine Z6 ?_;first|refine jp rfl rfl (vt rfl rfl underlying9) ?_|refine jp rfl rfl (kl rfl rfl underlying9) ?_
  refine Z3 ?_;refine nC ?_ ?_<;>intro h1
  ·skip;exfalso;simp at h1;omega
  ·skip;refine Z5 ?_;refine yc (OE t oM hp) ?_;refine Z3 ?_;refine zI Y Y Y Y Y Y Y G8 dO Y rF (zF Y) Y (Z10 ?_);refine nC ?_ ?_<;>intro h2
   ·skip;exfalso;simp at h2
   ·skip;refine Z12 ?_;refine zm Y (qS (f:=o.f) (fs:=[]) (cs:=[]) (av:=[.pp ix.row 1 0 0,.pub (eI x),.pub (Wr.eCps l)]) Y Y ⟨Y,Y,Y⟩ rL hq) (Z14 ?_);refine nC ?_ ?_<;>intro h3
    ·skip;have he:e≠0:=by simpa using h3
     refine Z9 ?_
     exact fun hz=>qQ [] (List.append_nil _).symm hz hle (.inr Y) (by simp[EV.lt,EV.ltL,I]) ⟨dE,_,Y,_,_,Y,Y,_,_,Y,Y,Y⟩
    ·skip;have he:e=0:=by simpa using h3
     subst he;refine Z5 ?_;refine yc S5 ?_;refine Z5 ?_
     exact fun hz=>qQ [] (List.append_nil _).symm hz hle (.inr Y) (by simp[EV.lt,EV.ltL,I]) ⟨dE,_,Y,_,_,Y,Y,_,_,Y,Y,Y⟩
end Bu
end Go.Av
namespace Go.Av
namespace Bu
open Go.Proofs Tryz
def vH:List UInt8->List UInt8 × List UInt8 × Bool
 |[]=>([],[],false)
 |c::l=>if c=10 then([],l,true)else(c::(vH l).1,(vH l).2.1,(vH l).2.2)
theorem A1:∀t:List UInt8,(Lib.index t [10]=-1/\vH t=(t,[],false))∨∃i:Nat,Lib.index t [10]=i/\vH t=(t.take i,t.drop (i+1),true)
 |[]=>.inl ⟨rfl,rfl⟩
 |c::l=>by
  by_cases h:c=10
  ·subst h;exact .inr ⟨0,by simp[Lib.index,List.isPrefixOf],by simp[vH]⟩
  ·have hp:List.isPrefixOf [10] (c::l)=false:=by simp[List.isPrefixOf];exact fun e=>h e.symm
   rcases A1 l with⟨h1,h2⟩|⟨i,h1,h2⟩
   ·exact .inl ⟨by simp[Lib.index,hp,h1],by simp[vH,h,h2]⟩
   ·refine .inr ⟨i+1,?_,by simp[vH,h,h2]⟩;have:¬((i:Int)==-1)=true:=sI;simp only[Lib.index,hp,h1,this];simp
theorem Rt(t:List UInt8):Lib.cut t [10]=vH t:=by
 unfold Lib.cut;rcases A1 t with⟨h1,h2⟩|⟨i,h1,h2⟩
 ·rw[h1,h2,zLy dE]
 ·rw[h1,h2,zLc oM];simp
theorem pm:∀t:List UInt8,(vH t).2.1.length<=t.length
 |[]=>by simp[vH]
 |c::l=>by
  have:=pm l;unfold vH;split
  ·simp
  ·simp;omega
def rsN(t:List UInt8):Nat->List UInt8
 |0=>t
 |k+1=>(vH (rsN t k)).2.1
theorem AT(t:List UInt8):∀k,(rsN t k).length<=t.length
 |0=>zLl _
 |k+1=>zL6 (pm _) (AT t k)
def lnQ(t:List UInt8)(k:Nat):TA:=[eS (vH (rsN t k)).1,.v (.bool (vH (rsN t k)).2.2)]
def qsT(t:List UInt8)(n:Nat):List (TA):=(List.range n).map (lnQ t)
theorem RV{t:List UInt8}{n k:Nat}(h:k<n):(qsT t n)[k]?=some (lnQ t k):=by simp[qsT,h]
theorem OJ(s:List UInt8)(hs:s.length<4294967281):ACall tP GB 232 [eS s,ofV (.string ⟨#[10]⟩)] (.tup [eS (vH s).1,eS (vH s).2.1,.v (.bool (vH s).2.2)]):=by
 have:=X8 s [10] hs;rw[Rt]at this;rwa[show eS [10]=ofV (.string ⟨#[10]⟩) from by simp[ofV]]at this
theorem UE(t:List UInt8)(n:Nat)(hl:t.length<4294967281)(hne:∀k,k<n->rsN t k≠[])(hend:rsN t n=[]):gp tP GB 231 [] [.ptr [eS t]] (qsT t n):=by
 refine fc (qs:=qsT t n) func231 Y nR Y Y (fun C hC=>?_);refine qH ?_;refine jK ?_;refine Z4 ?_;refine zV ?_;refine wo ?_;refine cn (ι:={k:Nat//k<=n}) (fun k=>⟨Tryz.f231.ntmps,frL [(0,.pub (.v (.func (.yield C.l) #[] #[]))),(1,.pub (.ptr [eS t])),(3,SL (rsN t k.1))],[]⟩) (fun k=>.on k.1) (fun k=>n-k.1) (⟨0,oM⟩) Y ?_ ?_
 ·exact zd _ rL Y
 ·rintro⟨k,hk⟩;dsimp only;have hkl:=AT t k;refine qH ?_;refine qH ?_;refine jK ?_;refine Z2 ?_;refine zb (mn Y Y Y) (Z ?_);refine zV ?_;refine jM Y (fun h0=>?_) (fun h0=>?_)
  ·have hlt:k<n:=by
    rcases Nat.lt_or_ge k n with h|h
    ·exact h
    ·have:k=n:=oM;subst this;rw[hend]at h0;simp at h0
   refine wQ ?_;refine zV ?_;refine wo ?_;refine qH ?_;refine jK ?_;refine Z2 ?_;refine zb (zi (av:=[_,_]) Y rL (OJ _ oM)) (zb (e9 Y Y) ?_);refine Z7 ?_;refine zV ?_;refine qH ?_;refine qH ?_;refine vT ?_;refine jO Y Y (zX Y Y) ?_;refine jO Y Y (zX Y Y) ?_;refine jO Y Y (zX Y Y) ?_;refine kn (q:=lnQ t k) (c:=true) Y Y Y Y (fun _=>rfl) (fun _=>rfl) (fun _=>by rw[hC];exact RV hlt) Y Y Y Y Y (fun h=>absurd h dE) (fun _=>?_) (fun _=>?_)
   ·refine jO Y Y (q0 Y Y) ?_;refine yS ?_;refine zV ?_;refine jM (b:=false) Y (fun h=>absurd h dE) (fun _=>?_);refine wQ ?_;refine zV ?_;refine jK ?_;refine Z4 ?_;exact⟨⟨k+1,oM⟩,by dsimp only;omega,Y,zd _ rL Y⟩
   ·refine jO Y Y (q0 Y Y) ?_;refine yS ?_;refine zV ?_;refine jM (b:=true) Y (fun _=>?_) (fun h=>absurd h dE);refine mq ?_;refine yK ?_;refine yR ?_;refine yK ?_;refine yR ?_;exact⟨.inr Y,Y,.inr ⟨_,Y⟩⟩
  ·have hge:k=n:=by
    rcases Nat.lt_or_ge k n with h|h
    ·exact absurd (by simpa using h0) (hne k h)
    ·omega
   subst hge;refine bI ?_;refine vj ?_;refine vj ?_;refine cw ?_;exact⟨.inl Y,Y,.inl (by simp[qsT])⟩
end Bu
end Go.Av
end
