import Derived.Test.YtigbomcjnlikjaaGreatDoorBuA
set_option linter.unusedVariables false
set_option linter.unusedSimpArgs false
set_option maxRecDepth 100000
set_option maxHeartbeats 9000000
section
namespace Go.Av
namespace Bu
open Go.RowKit Go.Proofs Tryz
theorem nT:tP.underlying 194=some (.struct (tP.fieldsOf 194)):=nR
theorem UC:tP.stoodInHeld 194=false:=nR
def fD:Field:=⟨"day",3,0,false,"","isobar/bureau",0⟩
def fR:Field:=⟨"district",3,1,false,"","isobar/bureau",8⟩
theorem sC:(tP.fieldsOf 194).toList=[fD,fR]:=nR
theorem eqP(a b:Int × Int)(w:World):(Op.equal 194 (spE a) (spE b)).run tP w=.ok (decide (b=a)) w:=by
 show(Op.equalIn 10000 194 (spE a) (spE b)).run tP w=_;unfold spE;rw[run_equalIn_struct w 9999 194 _ _ nT UC,sC];have h1:∀p q:Int,(Op.equalIn 9999 3 (.int .i64 p) (.int .i64 q)).run tP w=.ok (p==q) w:=fun p q=>run_equalIn_int w 9998 3 .i64 .i64 p q underlying3;have p0:∀x y:Value,(part 3 #[x,y] 0).run tP w=.ok x w:=fun x y=>Hs.pt3 w rfl;have p1:∀x y:Value,(part 3 #[x,y] 1).run tP w=.ok y w:=fun x y=>Hs.pt3 w rfl
 have key:decide (b=a)=((a.1==b.1)&&(a.2==b.2)):=by
  rw[Bool.eq_iff_iff];simp only[beq_iff_eq,zLa,zLd,Prod.ext_iff];omega
 rw[key];simp only[Op.eqFields,fD,fR,ne_eq,String.reduceEq,not_false_eq_true,if_true,Sem.run_bind,p0,p1,h1,Result.andThen_ok];cases(a.1==b.1)with
 |false=>rfl
 |true=>
  simp only[Bool.not_true,Bool.false_eq_true,if_false,Sem.run_bind,p1,h1,Result.andThen_ok];cases(a.2==b.2)<;>rfl
theorem ckP(b:Bool)(c:Int × Int)(w:World):(Instr.checkKey b 10000 194 (spE c)).run tP w=.ok () w:=by
 have p0:∀(x y:Value)(w:World),(part 3 #[x,y] 0).run tP w=.ok x w:=fun x y w=>Hs.pt3 w rfl;have p1:∀(x y:Value)(w:World),(part 3 #[x,y] 1).run tP w=.ok y w:=fun x y w=>Hs.pt3 w rfl;unfold spE;rw[show(10000:Nat)=9998+2 from rfl,Instr.checkKey];simp only[Sem.run_bind,run_underlying nT,Result.andThen_ok];rw[←Array.forIn_toList,sC];simp only[List.forIn_cons,List.forIn_nil,fD,fR,ne_eq,String.reduceEq,not_false_eq_true,if_true,Sem.run_bind,p0,p1,Hs.ckI,Result.andThen_ok,Sem.run_pure]
theorem OM:KeyT tP 194 spE:=rB nT (fun _ _=>rfl) eqP ckP (fun a=>by simp[spE,Instr.sameBits])
theorem keyN:KeyT tP 3 enI:=oR underlying3
theorem zP:(tP.info? 195).bind (·.zero)=some (.pointer none):=nR
theorem IS(n:Int)(l:List Int):wY n (AV.v (.bool false)) (shL l)=.v (.bool (decide (n∈l))):=by
 induction l with
 |nil=>simp[shL,wY]
 |cons x l ih=>
  simp only[shL,List.map_cons,wY]at ih⊢
  by_cases h:x=n
  ·subst h;simp
  ·have h':¬n=x:=fun e=>h e.symm;simp only[h,if_false,List.mem_cons,h',false_or];exact ih
section
variable{G:Glob}{fr:Nat->EV}{mem:TP}{o:Oper}
variable{i x:Operand}{U:TypeId}{v:Option Std}
theorem Qb{l:List Int}{n:Int}(ho:o.op=.lookup 204 x i false)(hx:evO fr x=.pub (yo enI (shL l)))(hi:evO fr i=.pub (.v (.int .i64 n))):OpY tP G fr mem o (B (decide (n∈l))):=by
 have:=c9 (P:=tP) (G:=G) (mem:=mem) (enc:=enI) (es:=shL l) (a:=n) (kx:=.v (.int .i64 n)) ho hx hi jr underlying204 keyN zB;rwa[show ofV (Value.bool false)=AV.v (.bool false) from rfl,IS]at this
def jf(b:BS)(p:Int × Int):Option Std:=(b.said.find? fun e=>decide (e.1=p)).map (·.2)
def sdV:Option Std->AV
 |none=>.v (.pointer none)
 |some e=>.ptr [eI e.parts,ei e.came]
theorem Jj(p:Int × Int)(l:List ((Int × Int) × Std)):wY p (AV.v (.pointer none)) (sdL l)=sdV ((l.find? fun e=>decide (e.1=p)).map (·.2)):=by
 induction l with
 |nil=>rfl
 |cons x l ih=>
  simp only[sdL,List.map_cons,wY,List.find?_cons]at ih⊢
  by_cases h:x.1=p
  ·simp[h,sdV]
  ·simp only[h,if_false,decide_false];exact ih
theorem ng{b:BS}{p:Int × Int}(ho:o.op=.lookup 175 x i false)(hx:evO fr x=.pub (yo spE (sdL b.said)))(hi:evO fr i=.pub (.agg [ei p.1,ei p.2])):OpY tP G fr mem o (.pub (sdV (jf b p))):=by
 have:=c9 (P:=tP) (G:=G) (mem:=mem) (enc:=spE) (es:=sdL b.said) (a:=p) (kx:=.agg [ei p.1,ei p.2]) ho hx hi (cu (l:=[.int .i64 p.1,.int .i64 p.2]) rfl) underlying175 OM zP;rwa[show ofV (Value.pointer none)=AV.v (.pointer none) from rfl,Jj]at this
theorem KW(ho:o.op=.binOp .eql 195 x (.const (.pointer none)) U)(hx:evO fr x=.pub (sdV v)):OpY tP G fr mem o (B v.isNone):=by
 cases v with
 |none=>exact sY ho hx underlying195
 |some e=>exact tp ho hx underlying195
theorem IQ(ho:o.op=.binOp .neq 195 x (.const (.pointer none)) U)(hx:evO fr x=.pub (sdV v)):OpY tP G fr mem o (B v.isSome):=by
 refine qb fun ok bs w a _ _ hf=>?_;have h:=hf x (by simp[ho,Op.operands]);rw[hx]at h;have e2:a.eval (.const (.pointer none))=.pointer none:=rfl;cases v with
 |none=>
  simp only[sdV,FitsE,Fits]at h;refine⟨.bool false,?_,qA Y⟩;have hgd:(eqGuard .neq 195 x (.const (.pointer none)) (.pointer none) (.pointer none)).run tP w=.ok () w:=by simp[eqGuard]
  have hd:∀d:Nat,(Op.equalIn (d+1) 195 (.pointer none) (.pointer none)).run tP w=.ok true w:=fun d=>by simp[Op.equalIn,run_underlying underlying195]
  have hb:(binOp .neq 195 (.pointer none) (.pointer none)).run tP w=.ok (.bool false) w:=by
   simp only[binOp];simp[Op.equal,Op.maxDepth,hd 9999]
  simp only[execOp,ho,h.1,e2,Sem.run_bind,hgd,hb,Result.andThen_ok];rfl
 |some z=>
  simp only[sdV,FitsE,Fits]at h;obtain⟨g,off,e,_⟩:=h;refine⟨.bool true,?_,qA Y⟩;have hgd:(eqGuard .neq 195 x (.const (.pointer none)) (.pointer (some ⟨g,off,none⟩)) (.pointer none)).run tP w=.ok () w:=by simp[eqGuard]
  have hd:∀d:Nat,(Op.equalIn (d+1) 195 (.pointer (some ⟨g,off,none⟩)) (.pointer none)).run tP w=.ok false w:=fun d=>by simp[Op.equalIn,run_underlying underlying195]
  have hb:(binOp .neq 195 (.pointer (some ⟨g,off,none⟩)) (.pointer none)).run tP w=.ok (.bool true) w:=by
   simp only[binOp];simp[Op.equal,Op.maxDepth,hd 9999]
  simp only[execOp,ho,e,e2,Sem.run_bind,hgd,hb,Result.andThen_ok];rfl
def xc(p:Int):Int:=if p=2 then 4 else 8
theorem OL{T:TypeId}{y:Operand}{p:Int}(ho:o.op=.binOp .shl T (.const (.int .i64 1)) y U)(hy:evO fr y=I p)(hp:p=2∨p=3):OpY tP G fr mem o (I (xc p)):=by
 rcases hp with rfl|rfl
 ·exact jP ho Y hy (fun w=>by simp[binOp,Op.shift,xc];rfl) Y
 ·exact jP ho Y hy (fun w=>by simp[binOp,Op.shift,xc];rfl) Y
end
end Bu
end Go.Av
namespace Go.Av
namespace Bu
open Go.Proofs Tryz
variable{G:Glob}
theorem bY:zS tP 29 false 1=true:=nR
theorem nL:zO tP 75 0 0=true:=nR
theorem wu:qV tP 22 10=true:=nR
structure Rdg where
 day:Int
 min:Int
 clk:Int
 mer:Int
 al:Int
 ah:Int
 dl:Int
 dh:Int
 wl:Int
 wh:Int
def qF(r:Rdg):TA:=[ei r.day,ei r.min,ei r.clk,ei r.mer,ei r.al,ei r.ah,ei r.dl,ei r.dh,ei r.wl,ei r.wh]
theorem Qo(b:Bool):decide ((if b then(0:Int)else 2)=0)=b:=by cases b<;>rfl
theorem f130(s:Hs.Sut)(b:BS)(r:Hs.Rep):ACall tP G 97 [.ptr [.ptr (eBu s b)],.ptr (Hs.eRep r)] (.v (.bool (Hs.okWtB (wR s [r])))):=by
 refine aC func97 ?_;refine Z12 ?_;refine zm Y (zE Y Y UP Y Y) ?_;refine zm Y (zp Y Y Y Y Y Y cEx IU rF bL) (Z5 ?_);refine zb (zw (size:=7) (rows:=[[_,_,_,_,_,_,_]]) Y underlying29 NI Y dE Y dE (zk Y) rF (by simp[ofV]) Y sI) ?_;refine Z ?_;refine zm Y (zp Y Y Y Y Y Y cEx bY rF bL) (Z5 ?_);refine yc (Hs.f11 (wR s [r])) ?_;refine Z5 ?_;exact⟨.inr Y,AVle.of (zLz (fun z=>AV.v (.bool z)) (Qo _))⟩
theorem f132(s:Hs.Sut)(b:BS):ACall tP G 99 [.ptr [.ptr (eBu s b)]] (.v (.bool (decide ((b.reps.length:Int)<9)))):=by
 refine aC func99 ?_;refine Z13 ?_;refine zb (zM Y Y Y underlying29) (Z5 ?_);exact⟨.inr Y,AVle.of (by simp[sR,wR])⟩
theorem f133:ACall tP G 100 [] (.v (.bool true)):=by
 refine aC func100 ?_;refine Z11 ?_;exact aR
theorem f230:ACall tP G 166 [] (.v (.bool true)):=by
 refine aC func166 ?_;refine Z11 ?_;exact aR
theorem f213(s:Hs.Sut)(b:BS)(d:Nat)(hd:d<b.maps.length)(r:Rdg)(hr:r.day=(d:Int)):ACall tP G 148 [.ptr [.ptr (eBu s b)],.ptr (qF r)] (.v (.bool (decide (((b.maps[d]).length:Int)<12)))):=by
 refine aC func148 ?_;refine Z10 ?_;refine yc (hr▸f214 s b d hd) ?_;refine Z4 ?_;exact aR
theorem f221(s:Hs.Sut)(b:BS)(d:Nat)(hd:d<b.maps.length):ACall tP G 156 [.ptr [.ptr (eBu s b)],.ptr [ei (d:Int)]] (.v (.bool (decide (((b.maps[d]).length:Int)<12)))):=by
 refine aC func156 ?_;refine Z9 ?_;refine yc (f214 s b d hd) ?_;refine Z4 ?_;exact aR
theorem f224(s:Hs.Sut)(b:BS)(d:Nat)(hd:d<b.maps.length):ACall tP G 160 [.ptr [.ptr (eBu s b)],.ptr [ei (d:Int)]] (.v (.bool (decide (((b.maps[d]).length:Int)<12)))):=by
 refine aC func160 ?_;refine Z9 ?_;refine yc (f214 s b d hd) ?_;refine Z4 ?_;exact aR
theorem f215(s:Hs.Sut)(b:BS)(d:Nat)(hd:d<b.maps.length)(hl:(b.maps[d]).length<=1000)(i:Nat)(hi:i<s.st.length)(r:Rdg)(hr:r.day=(d:Int))(lo hi2:Int):ACall tP G 150 [.ptr [ei lo,ei hi2],.ptr [.ptr (eBu s b)],.ptr (qF r),.ptr [ei (i:Int)]] (.v (.bool (decide (lo<=99999)&&drB (wiM s b.maps[d] (s.st[i]).pt lo hi2)))):=by
 have hst:(s.st.map Hs.eBSt).length=s.st.length:=sI;refine aC func150 ?_;refine Z6 ?_;refine zN mixed nR Y ?_;refine Z13 ?_;refine zq Y (fun hg=>zc Y (zLc hg) (zLc hg) wu oM (by exact Hs.mp_at (e:=Hs.eBSt) hi) (Hs.mp_len fun _=>rfl)) ?_;refine Z3 ?_;refine zq Y (fun hg=>zi (av:=[_,_,_,_]) Y ⟨((zLc hg)),((zLc hg)),((zLc hg)),((zLc hg)),trivial⟩ (hr▸f216 s b d hd hl (s.st[i]).pt lo hi2)) ?_;refine Z5 ?_;exact aR
theorem f222(s:Hs.Sut)(b:BS)(d:Nat)(hd:d<b.maps.length)(hl:(b.maps[d]).length<=1000)(i:Nat)(hi:i<s.st.length)(c:Bool)(lo hi2:Int):ACall tP G 157 [.ptr [.v (.bool c)],.ptr [.ptr (eBu s b)],.ptr [ei (d:Int)],.ptr [ei (i:Int)],.ptr [ei lo,ei hi2]] (.v (.bool (c&&drB (wiM s b.maps[d] (s.st[i]).pt lo hi2)))):=by
 have hst:(s.st.map Hs.eBSt).length=s.st.length:=sI;refine aC func157 ?_;refine Z6 ?_;refine zN mixed nR Y ?_;refine Z10 ?_;refine zq Y (fun hg=>zc Y (zLc hg) (zLc hg) wu oM (by exact Hs.mp_at (e:=Hs.eBSt) hi) (Hs.mp_len fun _=>rfl)) ?_;refine Z3 ?_;refine zq Y (fun hg=>zi (av:=[_,_,_,_]) Y ⟨((zLc hg)),((zLc hg)),((zLc hg)),((zLc hg)),trivial⟩ (f216 s b d hd hl (s.st[i]).pt lo hi2)) (Z5 ?_);exact aR
theorem f223(s:Hs.Sut)(hS:Hs.SuP s)(b:BS)(n d pt lo hi:Int):ACall tP G 158 [.ptr [ei n],.ptr [.ptr (eBu s b)],.ptr [ei d],.ptr [ei pt],.ptr [ei lo,ei hi]] (.v (.bool (Hs.inB n 0 99&&Hs.inB d 0 (s.days-1)&&Hs.inB pt 0 (s.wide*s.rows-1)&&decide (lo≥0)&&decide (lo<=hi)&&decide (hi<=99999)))):=by
 obtain⟨m1,m2,m3,m4,_⟩:=(Ct.okM_iff (Hs.mpS s)).1 hS.map;have a1:1<=s.wide:=m1;have a2:s.wide<=6:=m2;have a3:1<=s.rows:=m3;have a4:s.rows<=5:=m4;have w0:0<=s.wide*s.rows:=Int.mul_nonneg oM oM
 have w1:s.wide*s.rows<=30:=by
   have:=Int.mul_le_mul a2 a4 oM (by omega:(0:Int)<=6);omega
 refine aC func158 ?_;refine Z6 ?_;refine zN mixed nR Y ?_;refine Z ?_;refine zH Y (zi (av:=[_,_,_]) Y rL (f147 _ _ _)) ?_;refine Z3 ?_;refine zq Y (fun hg=>zi (av:=[_,_]) Y ⟨((zLc hg)),((zLc hg)),trivial⟩ (f190 s hS b d)) (Z13 ?_);refine zq Y (fun hg=>y7 Y (zLc hg) (zLc hg) ⟨by show _<=s.wide*s.rows;omega,by show s.wide*s.rows<=_;omega⟩) ?_;refine zq Y (fun hg=>j4 Y (zLc hg) Y ⟨by show _<=s.wide*s.rows-1;omega,by show s.wide*s.rows-1<=_;omega⟩) ?_;refine zq Y (fun hg=>zi (av:=[_,_,_]) Y ⟨((zLc hg)),Y,((zLc hg)),trivial⟩ (f147 _ _ _)) ?_;refine Z22 ?_;exact aR
theorem f225(s:Hs.Sut)(b:BS)(d:Nat)(hd:d<b.maps.length)(hl:(b.maps[d]).length<=1000)(hd2:d<b.ships.length)(n pt lo hi:Int):ACall tP G 161 [.ptr [.ptr (eBu s b)],.ptr [ei (d:Int)],.ptr [ei n],.ptr [ei pt],.ptr [ei lo,ei hi]] (.v (.bool (!decide (n∈b.ships[d])&&drB (wiM s b.maps[d] pt lo hi)))):=by
 have hsm:(b.ships.map fun l=>[yo enI (shL l)]).length=b.ships.length:=sI;refine aC func161 ?_;refine Z6 ?_;refine zN mixed nR Y ?_;refine Z5 ?_;refine zH Y (zc Y Y Y Gt oM (by exact Hs.mp_at (e:=fun l=>[yo enI (shL l)]) hd2) (Hs.mp_len fun _=>rfl)) ?_;refine Z2 ?_;refine zH Y (Qb Y Y Y) (Z6 ?_);refine zq Y (fun hg=>zi (av:=[_,_,_,_]) Y ⟨((zLc hg)),((zLc hg)),((zLc hg)),((zLc hg)),trivial⟩ (f216 s b d hd hl pt lo hi)) (Z5 ?_);exact aR
theorem f229(s:Hs.Sut)(b:BS)(p:Int × Int):ACall tP G 165 [.ptr [.ptr (eBu s b)],.ptr [ei p.1,ei p.2]] (.v (.bool (jf b p).isNone)):=by
 refine aC func165 ?_;refine Z6 ?_;refine zN mixed nR Y ?_;refine Z5 ?_;refine zH Y (ng Y Y Y) (zH Y (KW Y Y) ?_);refine Z4 ?_;exact aR
theorem f233(s:Hs.Sut)(b:BS)(p:Int × Int):ACall tP G 169 [.ptr [.ptr (eBu s b)],.ptr [ei p.1,ei p.2]] (.v (.bool (jf b p).isSome)):=by
 refine aC func169 ?_;refine Z6 ?_;refine zN mixed nR Y ?_;refine Z5 ?_;refine zH Y (ng Y Y Y) (zH Y (IQ Y Y) ?_);refine Z4 ?_;exact aR
theorem PL{c:Int}{l:List Int}(h:Hs.s6B c l=true):c=2∨c=3:=by
 simp[Hs.s6B,Hs.inB]at h;omega
theorem f231(s:Hs.Sut)(hS:Hs.SuP s)(b:BS)(d n set:Int):ACall tP G 167 [.ptr [.ptr (eBu s b)],.ptr [ei d],.ptr [ei n],.ptr [ei set]] (.v (.bool (Hs.inB d 0 (s.days-1)&&Hs.inB n 0 ((s.wts.length:Int)-1)&&Hs.inB set 1 (xc s.cls-1)))):=by
 have hc:=PL hS.s6;have hsh:xc s.cls=4∨xc s.cls=8:=by unfold xc;split<;>simp
 refine aC func167 ?_;refine Z6 ?_;refine zN mixed nR Y ?_;refine Z3 ?_;refine zH Y (zi (av:=[_,_,_]) Y rL (f228 s hS b d n)) (Z7 ?_);refine zq Y (fun hg=>OL Y (zLc hg) hc) ?_;refine zq Y (fun hg=>j4 Y (zLc hg) Y ⟨by show _<=xc s.cls-1;omega,by show xc s.cls-1<=_;omega⟩) ?_;refine zq Y (fun hg=>zi (av:=[_,_,_]) Y ⟨((zLc hg)),Y,((zLc hg)),trivial⟩ (f147 _ _ _)) ?_;refine Z5 ?_;exact aR
variable{fr:Nat->EV}{i x:Operand}{p:Int × Int}
theorem uC{mem:TP}{o:Oper}{b:BS}{e:Std}(hs:jf b p=some e)(ho:o.op=.lookup 175 x i false)(hx:evO fr x=.pub (yo spE (sdL b.said)))(hi:evO fr i=.pub (.agg [ei p.1,ei p.2])):OpY tP G fr mem o (.pub (.ptr [eI e.parts,ei e.came])):=by
 have:=ng (G:=G) (mem:=mem) ho hx hi;rwa[hs]at this
theorem K0{mem:TP}{o:Oper}{b:BS}(hs:jf b p=none)(ho:o.op=.lookup 175 x i false)(hx:evO fr x=.pub (yo spE (sdL b.said)))(hi:evO fr i=.pub (.agg [ei p.1,ei p.2])):OpY tP G fr mem o (.pub (.v (.pointer none))):=by
 have:=ng (G:=G) (mem:=mem) ho hx hi;rwa[hs]at this
theorem CC(s:Hs.Sut)(b:BS)(p:Int × Int)(hs:jf b p=none):ACall tP G 168 [.ptr [.ptr (eBu s b)],.ptr [ei p.1,ei p.2]] (.v (.bool true)):=by
 refine aC func168 ?_;refine Z6 ?_;refine zN mixed nR Y ?_;refine Z5 ?_;refine zH Y (K0 hs Y Y Y) (zH Y (sY Y Y underlying195) ?_);refine Z ?_;refine xq Y ?_;refine xq Y ?_;refine xq Y ?_;refine xq Y ?_;refine xq Y ?_;refine xq Y ?_;refine xq Y ?_;refine xq Y ?_;refine xq Y ?_;refine xq Y ?_;refine zH Y (wm Y Y (fun _=>rfl) (fun h=>absurd h dE)) ?_;refine Z4 ?_;exact aR
theorem CG(s:Hs.Sut)(b:BS)(p:Int × Int)(e:Std)(hs:jf b p=some e):ACall tP G 168 [.ptr [.ptr (eBu s b)],.ptr [ei p.1,ei p.2]] (.v (.bool (decide (e.came=0)))):=by
 refine aC func168 ?_;refine Z6 ?_;refine zN mixed nR Y ?_;refine Z5 ?_;refine zH Y (uC hs Y Y Y) (zH Y (tp Y Y underlying195) ?_);refine Z2 ?_;refine zq Y (fun hg=>yx Y (Y)) (zq Y (fun hg=>zf Y (Y) gQ) (zq Y (fun hg=>zl Y (Y) Y Im) ?_));refine Z ?_;refine zq Y (fun hg=>uC hs Y (Y) (Y)) (zq Y (fun hg=>yx Y (Y)) (zq Y (fun hg=>zf Y (Y) o9) (zq Y (fun hg=>zl Y (Y) Y ki) (zq Y (fun hg=>vr Y (Y) Y) (zH Y (ju Y Y Y Y) ?_)))));refine Z4 ?_;exact aR
end Bu
end Go.Av
namespace Go.Av
namespace Bu
open Go.Proofs Tryz
variable{s:Hs.Sut}{b:BS}{ix:Ix}{mem mem' xs:TP}
theorem BuM.congr(h:BuM s b ix mem)(he:∀k∈ix.all,mem'[k]?=mem[k]?):BuM s b ix mem':=by
 have e:∀{k:Nat}{o:PO},k∈ix.all->mem[k]?=some o->mem'[k]?=some o:=fun hk ho=>by rw[he _ hk];exact ho
 have m1:∀{d k:Nat},ix.sm[d]?=some k->k∈ix.all:=fun hk=>by simp[Ix.all,zLo hk]
 have m2:∀{d k:Nat},ix.sp[d]?=some k->k∈ix.all:=fun hk=>by simp[Ix.all,zLo hk]
 exact⟨e (by simp[Ix.all]) h.row,e (by simp[Ix.all]) h.reps,e (by simp[Ix.all]) h.maps,e (by simp[Ix.all]) h.ships,h.sml,fun d k l h1 h2=>e (m1 h1) (h.sm d k l h1 h2),e (by simp[Ix.all]) h.said,h.spl,fun i k x h1 h2=>e (m2 h1) (h.sp i k x h1 h2),e (by simp[Ix.all]) h.acts,h.nd⟩
theorem BuM.lt(h:BuM s b ix mem):∀k∈ix.all,k<mem.length:=fun k hk=>by
 have q:∀{k:Nat}{o:PO},mem[k]?=some o->k<mem.length:=fun h=>(zLg h).1;simp only[Ix.all,List.cons_append,List.nil_append,List.mem_cons,List.mem_append]at hk;rcases hk with rfl|rfl|rfl|rfl|rfl|rfl|hk|hk
 ·exact q h.row
 ·exact q h.reps
 ·exact q h.maps
 ·exact q h.ships
 ·exact q h.said
 ·exact q h.acts
 ·obtain⟨d,hd,rfl⟩:=List.mem_iff_getElem.1 hk;have hd2:d<b.ships.length:=by rw[←h.sml];exact hd
  exact q (h.sm d _ _ (zLe hd) (zLe hd2))
 ·obtain⟨d,hd,rfl⟩:=List.mem_iff_getElem.1 hk;have hd2:d<b.said.length:=by rw[←h.spl];exact hd
  exact q (h.sp d _ _ (zLe hd) (zLe hd2))
theorem BuM.app(h:BuM s b ix mem):BuM s b ix (mem++xs):=h.congr fun k hk=>zLf (h.lt k hk)
theorem BuM.set(h:BuM s b ix mem){j:Nat}{x:PO}(hj:j∉ix.all):BuM s b ix (mem.set j x):=h.congr fun k hk=>zLn (fun e=>hj (by rw[e];exact hk))
structure NeI(ix:Ix):Prop where
 a:ix.row≠ix.reps/\ix.row≠ix.maps/\ix.row≠ix.ships/\ix.row≠ix.said/\ix.row≠ix.acts
 b:ix.reps≠ix.maps/\ix.reps≠ix.ships/\ix.reps≠ix.said/\ix.reps≠ix.acts
 c:ix.maps≠ix.ships/\ix.maps≠ix.said/\ix.maps≠ix.acts
 d:ix.ships≠ix.said/\ix.ships≠ix.acts/\ix.said≠ix.acts
 m:∀k∈ix.sm,k≠ix.row/\k≠ix.reps/\k≠ix.maps/\k≠ix.ships/\k≠ix.said/\k≠ix.acts
 p:∀k∈ix.sp,k≠ix.row/\k≠ix.reps/\k≠ix.maps/\k≠ix.ships/\k≠ix.said/\k≠ix.acts
 mp:∀k∈ix.sm,∀j∈ix.sp,k≠j
 mm:ix.sm.Nodup
 pp:ix.sp.Nodup
theorem BuM.ne(h:BuM s b ix mem):NeI ix:=by
 have:=h.nd;simp only[Ix.all,List.cons_append,List.nil_append,List.nodup_cons,List.mem_cons,List.mem_append,not_or,List.nodup_append]at this;obtain⟨⟨a1,a2,a3,a4,a5,a6,a7⟩,⟨b1,b2,b3,b4,b5,b6⟩,⟨c1,c2,c3,c4,c5⟩,⟨d1,d2,d3,d4⟩,⟨e1,e2,e3⟩,⟨f1,f2⟩,g1,g2,g3⟩:=this;refine⟨⟨a1,a2,a3,a4,a5⟩,⟨b1,b2,b3,b4⟩,⟨c1,c2,c3⟩,⟨d1,d2,e1⟩,fun k hk=>?_,fun k hk=>?_,fun k hk j hj=>g3 k hk j hj,g1,g2⟩
 ·exact⟨fun e=>a6 (e▸hk),fun e=>b5 (e▸hk),fun e=>c4 (e▸hk),fun e=>d3 (e▸hk),fun e=>e2 (e▸hk),fun e=>f1 (e▸hk)⟩
 ·exact⟨fun e=>a7 (e▸hk),fun e=>b6 (e▸hk),fun e=>c5 (e▸hk),fun e=>d4 (e▸hk),fun e=>e3 (e▸hk),fun e=>f2 (e▸hk)⟩
variable{d n:Nat}{t:Ct.Stn}
theorem tz(h:∀k∈ix.all,k<n):PO.okL n (.row [cB s b ix]):=fun q hq x hx=>by
 rw[zLh]at hq;subst hq;have h1:=h ix.reps (by simp[Ix.all]);have h2:=h ix.maps (by simp[Ix.all]);have h3:=h ix.ships (by simp[Ix.all]);have h4:=h ix.said (by simp[Ix.all]);have h5:=h ix.acts (by simp[Ix.all]);simp only[cB,Hs.rSK,List.cons_append,List.nil_append,List.mem_cons,List.not_mem_nil,or_false]at hx;rcases hx with rfl|rfl|rfl|rfl|rfl|rfl|rfl|rfl|rfl|rfl|rfl|rfl|rfl|rfl|rfl|rfl|rfl|rfl|rfl|rfl|rfl|rfl|rfl|rfl|rfl|rfl|rfl|rfl|rfl|rfl|rfl<;>simp[EV.lt,I, *]
theorem od{rows:List (TA)}:PO.okL n (.row (rows.map (·.map .pub))):=fun r hr x hx=>by
 obtain⟨y,_,rfl⟩:=zLj.1 hr;obtain⟨z,_,rfl⟩:=zLj.1 hx;simp[EV.lt]
theorem OO{l:TA}:PO.okL n (.row (acR l)):=by
 rw[show acR l=(l.map fun a=>[a]).map (·.map .pub) from by rw[List.map_map];rfl];exact od
theorem O2{l:List (List Ct.Stn)}:PO.okL n (.row (l.map (mpC s))):=by
 rw[show l.map (mpC s)=(l.map fun l=>Ct.eMp (mpD s l)).map (·.map .pub) from by rw[List.map_map];rfl];exact od
def BS.act(b:BS)(a:AV):BS:={b with acts:=b.acts++[a]}
def qK(s:Hs.Sut)(b:BS)(ix:Ix)(a:AV)(mem:TP):TP:=(mem.set ix.acts (.row (acR (b.acts++[a])))).set ix.row (.row [cB s (b.act a) ix])
theorem BuM.act(h:BuM s b ix mem)(a:AV):BuM s (b.act a) ix (qK s b ix a mem):=by
 have n:=h.ne;have g:∀{k:Nat}{o:PO},ix.row≠k->ix.acts≠k->mem[k]?=some o->(qK s b ix a mem)[k]?=some o:=fun h1 h2 h3=>zT h1 (zT h2 h3)
 exact⟨zj (zT n.a.2.2.2.2.symm h.row),g n.a.1 n.b.2.2.2.symm h.reps,g n.a.2.1 n.c.2.2.symm h.maps,g n.a.2.2.1 n.d.2.1.symm h.ships,h.sml,
  fun d k l h1 h2=>g (n.m k (zLo h1)).1.symm (n.m k (zLo h1)).2.2.2.2.2.symm (h.sm d k l h1 h2),g n.a.2.2.2.1 n.d.2.2.symm h.said,h.spl,
  fun i k x h1 h2=>g (n.p k (zLo h1)).1.symm (n.p k (zLo h1)).2.2.2.2.2.symm (h.sp i k x h1 h2),zT n.a.2.2.2.2 (zj h.acts),h.nd⟩
theorem jE{a:AV}:(qK s b ix a mem).length=mem.length:=by simp[qK]
theorem vK(h:BuM s b ix mem){a:AV}(hk:zW mem.length mem):zW (qK s b ix a mem).length (qK s b ix a mem):=by
 rw[jE];exact qY (qY hk OO) (tz h.lt)
def BS.put(b:BS)(d:Nat)(t:Ct.Stn):BS:={b with maps:=b.maps.set d ((b.maps.getD d [])++[t])}
def wG(s:Hs.Sut)(b:BS)(ix:Ix)(d:Nat)(t:Ct.Stn)(mem:TP):TP:=mem.set ix.maps (.row ((b.put d t).maps.map (mpC s)))
theorem OA:cB s (b.put d t) ix=cB s b ix:=by simp[cB,BS.put]
theorem BuM.put(h:BuM s b ix mem)(d:Nat)(t:Ct.Stn):BuM s (b.put d t) ix (wG s b ix d t mem):=by
 have n:=h.ne;have g:∀{k:Nat}{o:PO},ix.maps≠k->mem[k]?=some o->(wG s b ix d t mem)[k]?=some o:=fun h1 h3=>zT h1 h3
 exact⟨by rw[OA];exact g n.a.2.1.symm h.row,g n.b.1.symm h.reps,zj h.maps,g n.c.1 h.ships,h.sml,fun d k l h1 h2=>g (n.m k (zLo h1)).2.2.1.symm (h.sm d k l h1 h2),g n.c.2.1 h.said,h.spl,
  fun i k x h1 h2=>g (n.p k (zLo h1)).2.2.1.symm (h.sp i k x h1 h2),g n.c.2.2 h.acts,h.nd⟩
theorem kb:(wG s b ix d t mem).length=mem.length:=by simp[wG]
theorem bD(hk:zW mem.length mem):zW (wG s b ix d t mem).length (wG s b ix d t mem):=by
 rw[kb];exact qY hk O2
def BS.pay(b:BS)(c:Int):BS:={b with cost:=b.cost+c}
def bp(s:Hs.Sut)(b:BS)(ix:Ix)(c:Int)(mem:TP):TP:=mem.set ix.row (.row [cB s (b.pay c) ix])
theorem BuM.pay(h:BuM s b ix mem)(c:Int):BuM s (b.pay c) ix (bp s b ix c mem):=by
 have n:=h.ne;have g:∀{k:Nat}{o:PO},ix.row≠k->mem[k]?=some o->(bp s b ix c mem)[k]?=some o:=fun h1 h3=>zT h1 h3
 exact⟨zj h.row,g n.a.1 h.reps,g n.a.2.1 h.maps,g n.a.2.2.1 h.ships,h.sml,fun d k l h1 h2=>g (n.m k (zLo h1)).1.symm (h.sm d k l h1 h2),g n.a.2.2.2.1 h.said,h.spl,
  fun i k x h1 h2=>g (n.p k (zLo h1)).1.symm (h.sp i k x h1 h2),g n.a.2.2.2.2 h.acts,h.nd⟩
theorem gA{c:Int}:(bp s b ix c mem).length=mem.length:=by simp[bp]
theorem Ar(h:BuM s b ix mem){c:Int}(hk:zW mem.length mem):zW (bp s b ix c mem).length (bp s b ix c mem):=by
 rw[gA];exact qY hk (tz h.lt)
end Bu
end Go.Av
namespace Go.Av
namespace Bu
open Go.Proofs Tryz
variable{G:Glob}
theorem iW:zS tP 41 false 1=true:=nR
theorem AM:zS tP 176 false 1=true:=nR
theorem ct:zO tP 178 5 29=true:=nR
theorem f264(s:Hs.Sut)(b:BS):ACall tP G 203 [.ptr [.ptr (eBu s b)]] (ei 0):=by
 refine aC func203 ?_;refine Z8 ?_;refine yc (f94 s b) ?_;refine Z ?_;refine yc (Hs.f144 _ _) ?_;refine Z4 ?_;exact aR
variable{f:FuncId}{cs fs:TE}{F H N R:EV}{bh bn br:Bool}{A M M2 xs:TP}{k:Nat}{s:Hs.Sut}{b:BS}{ix:Ix}{t0:TypeId}{a x0:AV}{l:TA}
theorem zbD(hk:M[k]?=some (.row [[F]]))(hF:iO F f fs cs)(hR:zv tP G f (fs++[]++cs) M (.ret (.pub (.v (.bool br))) M2))(hle:M.length<=M2.length):zv tP G 205 [.pp k 1 0 0] M (.ret (I (if br then 0 else 2)) M2):=by
 refine mW func205 (fun gh hold hmk=>?_);refine Z7 ?_;refine zb (zg Y Y hk Y Y Y iW) (zm Y (qS (f:=f) (fs:=fs) (cs:=cs) (av:=[]) Y Y hF trivial hR) ?_);refine yc (Hs.f144 _ _) ?_;refine Z4 ?_
 exact fun hz=>zR [] sI hz hle (.inr Y) (by simp[EV.lt]) Y
theorem Qm(hk:M[k]?=some (.row [[F]]))(hF:iO F f fs cs)(hR:zv tP G f (fs++[]++cs) M (.ret (.pub (.v (.bool br))) M2))(hle:M.length<=M2.length):zv tP G 207 [.pp k 1 0 0] M (.ret (I (if br then 0 else 7)) M2):=by
 refine mW func207 (fun gh hold hmk=>?_);refine Z7 ?_;refine zb (zg Y Y hk Y Y Y iW) (zm Y (qS (f:=f) (fs:=fs) (cs:=cs) (av:=[]) Y Y hF trivial hR) ?_);refine yc (Hs.f144 _ _) ?_;refine Z4 ?_
 exact fun hz=>zR [] sI hz hle (.inr Y) (by simp[EV.lt]) Y
theorem DF{k0:Nat}(h:BuM s b ix M)(h0:M[k0]?=some (.row [[.pp ix.row 1 0 0]]))(ha:60<=b.acts.length):zv tP G 206 [.pp k0 1 0 0,.pp k 1 0 0] M (.ret (I 6) M):=by
 have hle:M.length<=M.length:=zLl _;have hde:decide ((b.acts.length:Int)<60)=false:=by simp;omega
 refine mW func206 (fun gh hold hmk=>?_);refine Z7 ?_;refine zb (zg Y Y h0 Y Y Y jG) (zb (zr Y Y h.row Y) (zb (ze Y Y h.row Y ct) (zb (zg Y Y h.row Y Y Y AM) ?_)));refine zb (jJ Y Y h.acts (by simp[acR]) underlying176) (Z2 ?_);refine yC Y (zLz some hde) (zo Y) ?_;refine yC Y (zLz some hde) (zo Y) ?_;refine zb (wm Y Y (fun h=>absurd h (by simp;omega)) (fun _=>rfl)) ?_;refine yc (Hs.f144 _ _) ?_;refine Z4 ?_
 exact fun hz=>zR [] sI hz hle (.inr Y) (by simp[EV.lt]) Y
theorem JQ{k0:Nat}(h:BuM s b ix M)(h0:M[k0]?=some (.row [[.pp ix.row 1 0 0]]))(ha:b.acts.length<60)(hk:M[k]?=some (.row [[F]]))(hF:iO F f fs cs)(hR:zv tP G f (fs++[]++cs) M (.ret (.pub (.v (.bool br))) M2))(hle:M.length<=M2.length):zv tP G 206 [.pp k0 1 0 0,.pp k 1 0 0] M (.ret (I (if br then 0 else 6)) M2):=by
 have hde:decide ((b.acts.length:Int)<60)=true:=by simp;omega
 refine mW func206 (fun gh hold hmk=>?_);refine Z7 ?_;refine zb (zg Y Y h0 Y Y Y jG) (zb (zr Y Y h.row Y) (zb (ze Y Y h.row Y ct) (zb (zg Y Y h.row Y Y Y AM) ?_)));refine zb (jJ Y Y h.acts (by simp[acR]) underlying176) (Z2 ?_);refine qT (fun _ h=>by cases h) rfl ((zLz some hde)) (OpY.toM (by exact zg rfl rfl hk rfl rfl rfl iW) (zo rfl)) ?_;refine qT (fun _ h=>by cases h) rfl ((zLz some hde)) (qS (f:=f) (fs:=fs) (cs:=cs) (av:=[]) rfl rfl hF trivial hR) ?_;refine zb (wm Y Y (fun _=>rfl) (fun h=>absurd h (by simp;omega))) ?_;refine yc (Hs.f144 _ _) ?_;refine Z4 ?_
 exact fun hz=>zR [] sI hz hle (.inr Y) (by simp[EV.lt]) Y
def qG(ix:Ix)(A:TP)(R N H:EV):TP:=A++[.row [[.pp ix.row 1 0 0]],.row [[R]],.row [[N]],.row [[H]]]
structure CondQ(G:Glob)(F:EV)(A B:TP)(br:Bool):Prop where
 fn:∃f fs cs,iO F f fs cs/\∀xs:TP,zv tP G f (fs++[]++cs) (A++xs) (.ret (.pub (.v (.bool br))) (B++xs))
 cell:∀m:TP,qn m F [F]
theorem fk{B:TP}(hA:A.length=B.length)(h:CondQ G F A B br)(hk:(A++xs)[k]?=some (.row [[F]])):zv tP G 205 [.pp k 1 0 0] (A++xs) (.ret (I (if br then 0 else 2)) (B++xs)):=by
 obtain⟨f,fs,cs,h1,h2⟩:=h.fn;exact zbD hk h1 (h2 xs) (by simp[hA])
theorem Fg(h:CondQ G F A A br)(hk:(A++xs)[k]?=some (.row [[F]])):zv tP G 207 [.pp k 1 0 0] (A++xs) (.ret (I (if br then 0 else 7)) (A++xs)):=by
 obtain⟨f,fs,cs,h1,h2⟩:=h.fn;exact Qm hk h1 (h2 xs) sI
theorem tJ{k0:Nat}(hB:BuM s b ix A)(h0:(A++xs)[k0]?=some (.row [[.pp ix.row 1 0 0]]))(ha:b.acts.length<60)(h:CondQ G F A A br)(hk:(A++xs)[k]?=some (.row [[F]])):zv tP G 206 [.pp k0 1 0 0,.pp k 1 0 0] (A++xs) (.ret (I (if br then 0 else 6)) (A++xs)):=by
 obtain⟨f,fs,cs,h1,h2⟩:=h.fn;exact JQ hB.app h0 ha hk h1 (h2 xs) sI
theorem bz(h:BuM s b ix M)(hk:M[k]?=some (.row [[.pp ix.row 1 0 0]])):DV M (.pp k 1 0 0) (.ptr [.ptr (eBu s b)]):=.pp hk rfl rfl (.cons h.dv .nil)
theorem wk:vy tP 302 4 1=true:=nR
theorem py:wL tP 302 1 [.nilFunc,.nilFunc,.nilFunc,.nilFunc]:=⟨_,_,Tryz.t301,underlying302,nR,nR,nR⟩
theorem vw:zS tP 301 false 1=true:=nR
theorem Ut:qN tP 176 217 1 16:=⟨underlying176,Tryz.t217,_,nR,rfl,rfl,rfl,rfl,dE⟩
theorem S3:tP.info? 217=some Tryz.t217:=nR
theorem Ff{B:TP}{bn bh:Bool}(hA:BuM s b ix A)(hB:BuM s b ix B)(hl:A.length=B.length)(hBk:zW A.length A->zW B.length B)(cR:CondQ G R A B br)(kN:∀m:TP,qn m N [N])(kH:∀m:TP,qn m H [H])(er:br=false):zv tP G 96 [.pp ix.row 1 0 0,.pub (.ifc t0 x0),R,N,H] A (.ret (I 2) (B)):=by
 have q264:zv tP G 203 [.pp A.length 1 0 0] (qG ix A R N H) (.ret (I 0) (qG ix A R N H)):=(f264 s b).d (.cons (bz hA.app (show(A++_)[A.length]?=_ from(jk (k:=0) rfl).trans rfl)) .nil) rfl;have q266:zv tP G 205 [.pp (A.length+1) 1 0 0] (qG ix A R N H) (.ret (I (if br then 0 else 2)) (qG ix B R N H)):=fk hl cR (show(A++_)[A.length+1]?=_ from(jk (k:=1) rfl).trans rfl);rw[er]at q266;refine mW func96 (fun gh hold hmk=>?_);refine Z2 ?_;refine zm Y (qI Y Y (wE Y hA.row Y)) (zm Y (qI Y Y (cR.cell _)) (zm Y (qI Y Y (kN _)) (zm Y (qI Y Y (kH _)) ?_)));refine Z10 ?_;refine zb (y8 (cs:=[_,_,_,_]) Y py Y ⟨_,_,Y,ji Y,_,_,Y,ji Y,_,_,Y,ji Y,_,_,Y,ji Y,Y⟩ rF sI) ?_;refine Z4 ?_;refine zD (ι:={k:Nat//k<2}) (fun k=>match k.1 with|0=>⟨⟨Tryz.f96.ntmps,[],gh,false,hold⟩,frL [(1,.pub (.ifc t0 x0)),(5,.pp A.length 1 0 0),(7,.pp (A.length+1) 1 0 0),(8,.pp (A.length+2) 1 0 0),(9,.pp (A.length+3) 1 0 0),(18,.mix [.fnm 203 [] [.pp A.length 1 0 0],.fnm 205 [] [.pp (A.length+1) 1 0 0],.fnm 206 [] [.pp A.length 1 0 0,.pp (A.length+2) 1 0 0],.fnm 207 [] [.pp (A.length+3) 1 0 0]]),(19,I 0)],qG ix A R N H⟩|_=>⟨⟨Tryz.f96.ntmps,[],gh,false,hold⟩,frL [(1,.pub (.ifc t0 x0)),(5,.pp A.length 1 0 0),(7,.pp (A.length+1) 1 0 0),(8,.pp (A.length+2) 1 0 0),(9,.pp (A.length+3) 1 0 0),(18,.mix [.fnm 203 [] [.pp A.length 1 0 0],.fnm 205 [] [.pp (A.length+1) 1 0 0],.fnm 206 [] [.pp A.length 1 0 0,.pp (A.length+2) 1 0 0],.fnm 207 [] [.pp (A.length+3) 1 0 0]]),(19,I 1)],qG ix A R N H⟩) (fun k=>2-k.1) (⟨0,oM⟩) ?_ ?_
 ·exact zd _ ⟨Y,Y,(by show EV.pp _ 1 0 0=_;simp),(by show EV.pp _ 1 0 0=_;simp),(by show EV.pp _ 1 0 0=_;simp),(by show EV.mix [.fnm 203 [] [.pp _ 1 0 0],.fnm 205 [] [.pp _ 1 0 0],.fnm 206 [] [.pp _ 1 0 0,.pp _ 1 0 0],.fnm 207 [] [.pp _ 1 0 0]]=_;simp),Y,trivial⟩ ((by simp[qG]))
 ·rintro⟨k,hk⟩;have hk3:k=0∨k=1:=oM;rcases hk3 with rfl|rfl
  ·dsimp only;refine Z6 ?_;refine nC ?_ ?_<;>intro h0
   ·skip;refine Z6 ?_;refine zb (qy rfl rfl rfl wk (fun e he=>by rw[underlying302]at he;cases he;exact vw) oM oM rfl) (Z6 ?_);refine zm Y (qS (f:=203) (fs:=[]) (cs:=[.pp A.length 1 0 0]) (av:=[]) Y Y ⟨Y,Y,Y⟩ trivial q264) (Z9 ?_);refine nC ?_ ?_<;>intro h1
    ·skip;exfalso;simp at h1
    ·skip;refine Z7 ?_;exact⟨⟨1,oM⟩,by dsimp only;omega,(by refine zd (mem':=qG ix A R N H) [(1,.pub (.ifc t0 x0)),(5,.pp A.length 1 0 0),(7,.pp (A.length+1) 1 0 0),(8,.pp (A.length+2) 1 0 0),(9,.pp (A.length+3) 1 0 0),(18,.mix [.fnm 203 [] [.pp A.length 1 0 0],.fnm 205 [] [.pp (A.length+1) 1 0 0],.fnm 206 [] [.pp A.length 1 0 0,.pp (A.length+2) 1 0 0],.fnm 207 [] [.pp (A.length+3) 1 0 0]]),(19,I 1)] ?_ ?_;exact rL;exact(Y))⟩
   ·skip;exfalso;simp at h0
  ·dsimp only;refine Z6 ?_;refine nC ?_ ?_<;>intro h0
   ·skip;refine Z6 ?_;refine zb (qy rfl rfl rfl wk (fun e he=>by rw[underlying302]at he;cases he;exact vw) oM oM rfl) (Z6 ?_);refine zm Y (qS (f:=205) (fs:=[]) (cs:=[.pp (A.length+1) 1 0 0]) (av:=[]) Y Y ⟨Y,Y,Y⟩ trivial q266) (Z9 ?_);refine nC ?_ ?_<;>intro h1
    ·skip;refine Z12 ?_
     exact fun hz=>zR [_,_,_,_] Y (hBk hmk) oM (.inr Y) (by simp[EV.lt]) Y
    ·skip;exfalso;simp at h1
   ·skip;exfalso;simp at h0
theorem Dc{B:TP}{bn bh:Bool}(hA:BuM s b ix A)(hB:BuM s b ix B)(hl:A.length=B.length)(hBk:zW A.length A->zW B.length B)(cR:CondQ G R A B br)(kN:∀m:TP,qn m N [N])(kH:∀m:TP,qn m H [H])(er:br=true)(ha:60<=b.acts.length):zv tP G 96 [.pp ix.row 1 0 0,.pub (.ifc t0 x0),R,N,H] A (.ret (I 6) (B)):=by
 have q264:zv tP G 203 [.pp A.length 1 0 0] (qG ix A R N H) (.ret (I 0) (qG ix A R N H)):=(f264 s b).d (.cons (bz hA.app (show(A++_)[A.length]?=_ from(jk (k:=0) rfl).trans rfl)) .nil) rfl;have q266:zv tP G 205 [.pp (A.length+1) 1 0 0] (qG ix A R N H) (.ret (I (if br then 0 else 2)) (qG ix B R N H)):=fk hl cR (show(A++_)[A.length+1]?=_ from(jk (k:=1) rfl).trans rfl);rw[er]at q266;have q267:zv tP G 206 [.pp A.length 1 0 0,.pp (A.length+2) 1 0 0] (qG ix B R N H) (.ret (I 6) (qG ix B R N H)):=DF hB.app (show(B++_)[A.length]?=_ from(jk (k:=0) hl.symm).trans rfl) ha;refine mW func96 (fun gh hold hmk=>?_);refine Z2 ?_;refine zm Y (qI Y Y (wE Y hA.row Y)) (zm Y (qI Y Y (cR.cell _)) (zm Y (qI Y Y (kN _)) (zm Y (qI Y Y (kH _)) ?_)));refine Z10 ?_;refine zb (y8 (cs:=[_,_,_,_]) Y py Y ⟨_,_,Y,ji Y,_,_,Y,ji Y,_,_,Y,ji Y,_,_,Y,ji Y,Y⟩ rF sI) ?_;refine Z4 ?_;refine zD (ι:={k:Nat//k<3}) (fun k=>match k.1 with|0=>⟨⟨Tryz.f96.ntmps,[],gh,false,hold⟩,frL [(1,.pub (.ifc t0 x0)),(5,.pp A.length 1 0 0),(7,.pp (A.length+1) 1 0 0),(8,.pp (A.length+2) 1 0 0),(9,.pp (A.length+3) 1 0 0),(18,.mix [.fnm 203 [] [.pp A.length 1 0 0],.fnm 205 [] [.pp (A.length+1) 1 0 0],.fnm 206 [] [.pp A.length 1 0 0,.pp (A.length+2) 1 0 0],.fnm 207 [] [.pp (A.length+3) 1 0 0]]),(19,I 0)],qG ix A R N H⟩|1=>⟨⟨Tryz.f96.ntmps,[],gh,false,hold⟩,frL [(1,.pub (.ifc t0 x0)),(5,.pp A.length 1 0 0),(7,.pp (A.length+1) 1 0 0),(8,.pp (A.length+2) 1 0 0),(9,.pp (A.length+3) 1 0 0),(18,.mix [.fnm 203 [] [.pp A.length 1 0 0],.fnm 205 [] [.pp (A.length+1) 1 0 0],.fnm 206 [] [.pp A.length 1 0 0,.pp (A.length+2) 1 0 0],.fnm 207 [] [.pp (A.length+3) 1 0 0]]),(19,I 1)],qG ix A R N H⟩|_=>⟨⟨Tryz.f96.ntmps,[],gh,false,hold⟩,frL [(1,.pub (.ifc t0 x0)),(5,.pp A.length 1 0 0),(7,.pp (A.length+1) 1 0 0),(8,.pp (A.length+2) 1 0 0),(9,.pp (A.length+3) 1 0 0),(18,.mix [.fnm 203 [] [.pp A.length 1 0 0],.fnm 205 [] [.pp (A.length+1) 1 0 0],.fnm 206 [] [.pp A.length 1 0 0,.pp (A.length+2) 1 0 0],.fnm 207 [] [.pp (A.length+3) 1 0 0]]),(19,I 2)],qG ix B R N H⟩) (fun k=>3-k.1) (⟨0,oM⟩) ?_ ?_
 ·exact zd _ ⟨Y,Y,(by show EV.pp _ 1 0 0=_;simp),(by show EV.pp _ 1 0 0=_;simp),(by show EV.pp _ 1 0 0=_;simp),(by show EV.mix [.fnm 203 [] [.pp _ 1 0 0],.fnm 205 [] [.pp _ 1 0 0],.fnm 206 [] [.pp _ 1 0 0,.pp _ 1 0 0],.fnm 207 [] [.pp _ 1 0 0]]=_;simp),Y,trivial⟩ ((by simp[qG]))
 ·rintro⟨k,hk⟩;have hk3:k=0∨k=1∨k=2:=oM;rcases hk3 with rfl|rfl|rfl
  ·dsimp only;refine Z6 ?_;refine nC ?_ ?_<;>intro h0
   ·skip;refine Z6 ?_;refine zb (qy rfl rfl rfl wk (fun e he=>by rw[underlying302]at he;cases he;exact vw) oM oM rfl) (Z6 ?_);refine zm Y (qS (f:=203) (fs:=[]) (cs:=[.pp A.length 1 0 0]) (av:=[]) Y Y ⟨Y,Y,Y⟩ trivial q264) (Z9 ?_);refine nC ?_ ?_<;>intro h1
    ·skip;exfalso;simp at h1
    ·skip;refine Z7 ?_;exact⟨⟨1,oM⟩,by dsimp only;omega,(by refine zd (mem':=qG ix A R N H) [(1,.pub (.ifc t0 x0)),(5,.pp A.length 1 0 0),(7,.pp (A.length+1) 1 0 0),(8,.pp (A.length+2) 1 0 0),(9,.pp (A.length+3) 1 0 0),(18,.mix [.fnm 203 [] [.pp A.length 1 0 0],.fnm 205 [] [.pp (A.length+1) 1 0 0],.fnm 206 [] [.pp A.length 1 0 0,.pp (A.length+2) 1 0 0],.fnm 207 [] [.pp (A.length+3) 1 0 0]]),(19,I 1)] ?_ ?_;exact rL;exact(Y))⟩
   ·skip;exfalso;simp at h0
  ·dsimp only;refine Z6 ?_;refine nC ?_ ?_<;>intro h0
   ·skip;refine Z6 ?_;refine zb (qy rfl rfl rfl wk (fun e he=>by rw[underlying302]at he;cases he;exact vw) oM oM rfl) (Z6 ?_);refine zm Y (qS (f:=205) (fs:=[]) (cs:=[.pp (A.length+1) 1 0 0]) (av:=[]) Y Y ⟨Y,Y,Y⟩ trivial q266) (Z9 ?_);refine nC ?_ ?_<;>intro h1
    ·skip;exfalso;simp at h1
    ·skip;refine Z7 ?_;exact⟨⟨2,oM⟩,by dsimp only;omega,(by refine zd (mem':=qG ix B R N H) [(1,.pub (.ifc t0 x0)),(5,.pp A.length 1 0 0),(7,.pp (A.length+1) 1 0 0),(8,.pp (A.length+2) 1 0 0),(9,.pp (A.length+3) 1 0 0),(18,.mix [.fnm 203 [] [.pp A.length 1 0 0],.fnm 205 [] [.pp (A.length+1) 1 0 0],.fnm 206 [] [.pp A.length 1 0 0,.pp (A.length+2) 1 0 0],.fnm 207 [] [.pp (A.length+3) 1 0 0]]),(19,I 2)] ?_ ?_;exact rL;exact(Y))⟩
   ·skip;exfalso;simp at h0
  ·dsimp only;refine Z6 ?_;refine nC ?_ ?_<;>intro h0
   ·skip;refine Z6 ?_;refine zb (qy rfl rfl rfl wk (fun e he=>by rw[underlying302]at he;cases he;exact vw) oM oM rfl) (Z6 ?_);refine zm Y (qS (f:=206) (fs:=[]) (cs:=[.pp A.length 1 0 0,.pp (A.length+2) 1 0 0]) (av:=[]) Y Y ⟨Y,Y,Y⟩ trivial q267) (Z9 ?_);refine nC ?_ ?_<;>intro h1
    ·skip;refine Z12 ?_
     exact fun hz=>zR [_,_,_,_] Y (hBk hmk) oM (.inr Y) (by simp[EV.lt]) Y
    ·skip;exfalso;simp at h1
   ·skip;exfalso;simp at h0
theorem Hi{B:TP}{bh:Bool}(hA:BuM s b ix A)(hB:BuM s b ix B)(hl:A.length=B.length)(hBk:zW A.length A->zW B.length B)(cR:CondQ G R A B br)(kN:∀m:TP,qn m N [N])(kH:∀m:TP,qn m H [H])(cN:CondQ G N B B bn)(er:br=true)(ha:b.acts.length<60)(en:bn=false):zv tP G 96 [.pp ix.row 1 0 0,.pub (.ifc t0 x0),R,N,H] A (.ret (I 6) (B)):=by
 have q264:zv tP G 203 [.pp A.length 1 0 0] (qG ix A R N H) (.ret (I 0) (qG ix A R N H)):=(f264 s b).d (.cons (bz hA.app (show(A++_)[A.length]?=_ from(jk (k:=0) rfl).trans rfl)) .nil) rfl;have q266:zv tP G 205 [.pp (A.length+1) 1 0 0] (qG ix A R N H) (.ret (I (if br then 0 else 2)) (qG ix B R N H)):=fk hl cR (show(A++_)[A.length+1]?=_ from(jk (k:=1) rfl).trans rfl);rw[er]at q266;have q267:zv tP G 206 [.pp A.length 1 0 0,.pp (A.length+2) 1 0 0] (qG ix B R N H) (.ret (I (if bn then 0 else 6)) (qG ix B R N H)):=tJ hB (show(B++_)[A.length]?=_ from(jk (k:=0) hl.symm).trans rfl) ha cN (show(B++_)[A.length+2]?=_ from(jk (k:=2) hl.symm).trans rfl);rw[en]at q267;refine mW func96 (fun gh hold hmk=>?_);refine Z2 ?_;refine zm Y (qI Y Y (wE Y hA.row Y)) (zm Y (qI Y Y (cR.cell _)) (zm Y (qI Y Y (kN _)) (zm Y (qI Y Y (kH _)) ?_)));refine Z10 ?_;refine zb (y8 (cs:=[_,_,_,_]) Y py Y ⟨_,_,Y,ji Y,_,_,Y,ji Y,_,_,Y,ji Y,_,_,Y,ji Y,Y⟩ rF sI) ?_
 refine Z4 ?_;refine zD (ι:={k:Nat//k<3}) (fun k=>match k.1 with|0=>⟨⟨Tryz.f96.ntmps,[],gh,false,hold⟩,frL [(1,.pub (.ifc t0 x0)),(5,.pp A.length 1 0 0),(7,.pp (A.length+1) 1 0 0),(8,.pp (A.length+2) 1 0 0),(9,.pp (A.length+3) 1 0 0),(18,.mix [.fnm 203 [] [.pp A.length 1 0 0],.fnm 205 [] [.pp (A.length+1) 1 0 0],.fnm 206 [] [.pp A.length 1 0 0,.pp (A.length+2) 1 0 0],.fnm 207 [] [.pp (A.length+3) 1 0 0]]),(19,I 0)],qG ix A R N H⟩|1=>⟨⟨Tryz.f96.ntmps,[],gh,false,hold⟩,frL [(1,.pub (.ifc t0 x0)),(5,.pp A.length 1 0 0),(7,.pp (A.length+1) 1 0 0),(8,.pp (A.length+2) 1 0 0),(9,.pp (A.length+3) 1 0 0),(18,.mix [.fnm 203 [] [.pp A.length 1 0 0],.fnm 205 [] [.pp (A.length+1) 1 0 0],.fnm 206 [] [.pp A.length 1 0 0,.pp (A.length+2) 1 0 0],.fnm 207 [] [.pp (A.length+3) 1 0 0]]),(19,I 1)],qG ix A R N H⟩|_=>⟨⟨Tryz.f96.ntmps,[],gh,false,hold⟩,frL [(1,.pub (.ifc t0 x0)),(5,.pp A.length 1 0 0),(7,.pp (A.length+1) 1 0 0),(8,.pp (A.length+2) 1 0 0),(9,.pp (A.length+3) 1 0 0),(18,.mix [.fnm 203 [] [.pp A.length 1 0 0],.fnm 205 [] [.pp (A.length+1) 1 0 0],.fnm 206 [] [.pp A.length 1 0 0,.pp (A.length+2) 1 0 0],.fnm 207 [] [.pp (A.length+3) 1 0 0]]),(19,I 2)],qG ix B R N H⟩) (fun k=>3-k.1) (⟨0,oM⟩) ?_ ?_
 ·exact zd _ ⟨Y,Y,(by show EV.pp _ 1 0 0=_;simp),(by show EV.pp _ 1 0 0=_;simp),(by show EV.pp _ 1 0 0=_;simp),(by show EV.mix [.fnm 203 [] [.pp _ 1 0 0],.fnm 205 [] [.pp _ 1 0 0],.fnm 206 [] [.pp _ 1 0 0,.pp _ 1 0 0],.fnm 207 [] [.pp _ 1 0 0]]=_;simp),Y,trivial⟩ ((by simp[qG]))
 ·rintro⟨k,hk⟩;have hk3:k=0∨k=1∨k=2:=oM;rcases hk3 with rfl|rfl|rfl
  ·dsimp only;refine Z6 ?_;refine nC ?_ ?_<;>intro h0
   ·skip;refine Z6 ?_;refine zb (qy rfl rfl rfl wk (fun e he=>by rw[underlying302]at he;cases he;exact vw) oM oM rfl) (Z6 ?_);refine zm Y (qS (f:=203) (fs:=[]) (cs:=[.pp A.length 1 0 0]) (av:=[]) Y Y ⟨Y,Y,Y⟩ trivial q264) (Z9 ?_);refine nC ?_ ?_<;>intro h1
    ·skip;exfalso;simp at h1
    ·skip;refine Z7 ?_;exact⟨⟨1,oM⟩,by dsimp only;omega,(by refine zd (mem':=qG ix A R N H) [(1,.pub (.ifc t0 x0)),(5,.pp A.length 1 0 0),(7,.pp (A.length+1) 1 0 0),(8,.pp (A.length+2) 1 0 0),(9,.pp (A.length+3) 1 0 0),(18,.mix [.fnm 203 [] [.pp A.length 1 0 0],.fnm 205 [] [.pp (A.length+1) 1 0 0],.fnm 206 [] [.pp A.length 1 0 0,.pp (A.length+2) 1 0 0],.fnm 207 [] [.pp (A.length+3) 1 0 0]]),(19,I 1)] ?_ ?_;exact rL;exact(Y))⟩
   ·skip;exfalso;simp at h0
  ·dsimp only;refine Z6 ?_;refine nC ?_ ?_<;>intro h0
   ·skip;refine Z6 ?_;refine zb (qy rfl rfl rfl wk (fun e he=>by rw[underlying302]at he;cases he;exact vw) oM oM rfl) (Z6 ?_);refine zm Y (qS (f:=205) (fs:=[]) (cs:=[.pp (A.length+1) 1 0 0]) (av:=[]) Y Y ⟨Y,Y,Y⟩ trivial q266) (Z9 ?_);refine nC ?_ ?_<;>intro h1
    ·skip;exfalso;simp at h1
    ·skip;refine Z7 ?_;exact⟨⟨2,oM⟩,by dsimp only;omega,(by refine zd (mem':=qG ix B R N H) [(1,.pub (.ifc t0 x0)),(5,.pp A.length 1 0 0),(7,.pp (A.length+1) 1 0 0),(8,.pp (A.length+2) 1 0 0),(9,.pp (A.length+3) 1 0 0),(18,.mix [.fnm 203 [] [.pp A.length 1 0 0],.fnm 205 [] [.pp (A.length+1) 1 0 0],.fnm 206 [] [.pp A.length 1 0 0,.pp (A.length+2) 1 0 0],.fnm 207 [] [.pp (A.length+3) 1 0 0]]),(19,I 2)] ?_ ?_;exact rL;exact(Y))⟩
   ·skip;exfalso;simp at h0
  ·dsimp only;refine Z6 ?_;refine nC ?_ ?_<;>intro h0
   ·skip;refine Z6 ?_;refine zb (qy rfl rfl rfl wk (fun e he=>by rw[underlying302]at he;cases he;exact vw) oM oM rfl) (Z6 ?_);refine zm Y (qS (f:=206) (fs:=[]) (cs:=[.pp A.length 1 0 0,.pp (A.length+2) 1 0 0]) (av:=[]) Y Y ⟨Y,Y,Y⟩ trivial q267) (Z9 ?_);refine nC ?_ ?_<;>intro h1
    ·skip;refine Z12 ?_
     exact fun hz=>zR [_,_,_,_] Y (hBk hmk) oM (.inr Y) (by simp[EV.lt]) Y
    ·skip;exfalso;simp at h1
   ·skip;exfalso;simp at h0
theorem B5{B:TP}(hA:BuM s b ix A)(hB:BuM s b ix B)(hl:A.length=B.length)(hBk:zW A.length A->zW B.length B)(cR:CondQ G R A B br)(kN:∀m:TP,qn m N [N])(kH:∀m:TP,qn m H [H])(cN:CondQ G N B B bn)(cH:CondQ G H B B bh)(er:br=true)(ha:b.acts.length<60)(en:bn=true)(eh:bh=false):zv tP G 96 [.pp ix.row 1 0 0,.pub (.ifc t0 x0),R,N,H] A (.ret (I 7) (B)):=by
 have q264:zv tP G 203 [.pp A.length 1 0 0] (qG ix A R N H) (.ret (I 0) (qG ix A R N H)):=(f264 s b).d (.cons (bz hA.app (show(A++_)[A.length]?=_ from(jk (k:=0) rfl).trans rfl)) .nil) rfl;have q266:zv tP G 205 [.pp (A.length+1) 1 0 0] (qG ix A R N H) (.ret (I (if br then 0 else 2)) (qG ix B R N H)):=fk hl cR (show(A++_)[A.length+1]?=_ from(jk (k:=1) rfl).trans rfl);rw[er]at q266;have q267:zv tP G 206 [.pp A.length 1 0 0,.pp (A.length+2) 1 0 0] (qG ix B R N H) (.ret (I (if bn then 0 else 6)) (qG ix B R N H)):=tJ hB (show(B++_)[A.length]?=_ from(jk (k:=0) hl.symm).trans rfl) ha cN (show(B++_)[A.length+2]?=_ from(jk (k:=2) hl.symm).trans rfl);rw[en]at q267;have q268:zv tP G 207 [.pp (A.length+3) 1 0 0] (qG ix B R N H) (.ret (I (if bh then 0 else 7)) (qG ix B R N H)):=Fg cH (show(B++_)[A.length+3]?=_ from(jk (k:=3) hl.symm).trans rfl);rw[eh]at q268;refine mW func96 (fun gh hold hmk=>?_);refine Z2 ?_
 refine zm Y (qI Y Y (wE Y hA.row Y)) (zm Y (qI Y Y (cR.cell _)) (zm Y (qI Y Y (kN _)) (zm Y (qI Y Y (kH _)) ?_)));refine Z10 ?_;refine zb (y8 (cs:=[_,_,_,_]) Y py Y ⟨_,_,Y,ji Y,_,_,Y,ji Y,_,_,Y,ji Y,_,_,Y,ji Y,Y⟩ rF sI) ?_;refine Z4 ?_;refine zD (ι:={k:Nat//k<4}) (fun k=>match k.1 with|0=>⟨⟨Tryz.f96.ntmps,[],gh,false,hold⟩,frL [(1,.pub (.ifc t0 x0)),(5,.pp A.length 1 0 0),(7,.pp (A.length+1) 1 0 0),(8,.pp (A.length+2) 1 0 0),(9,.pp (A.length+3) 1 0 0),(18,.mix [.fnm 203 [] [.pp A.length 1 0 0],.fnm 205 [] [.pp (A.length+1) 1 0 0],.fnm 206 [] [.pp A.length 1 0 0,.pp (A.length+2) 1 0 0],.fnm 207 [] [.pp (A.length+3) 1 0 0]]),(19,I 0)],qG ix A R N H⟩|1=>⟨⟨Tryz.f96.ntmps,[],gh,false,hold⟩,frL [(1,.pub (.ifc t0 x0)),(5,.pp A.length 1 0 0),(7,.pp (A.length+1) 1 0 0),(8,.pp (A.length+2) 1 0 0),(9,.pp (A.length+3) 1 0 0),(18,.mix [.fnm 203 [] [.pp A.length 1 0 0],.fnm 205 [] [.pp (A.length+1) 1 0 0],.fnm 206 [] [.pp A.length 1 0 0,.pp (A.length+2) 1 0 0],.fnm 207 [] [.pp (A.length+3) 1 0 0]]),(19,I 1)],qG ix A R N H⟩|2=>⟨⟨Tryz.f96.ntmps,[],gh,false,hold⟩,frL [(1,.pub (.ifc t0 x0)),(5,.pp A.length 1 0 0),(7,.pp (A.length+1) 1 0 0),(8,.pp (A.length+2) 1 0 0),(9,.pp (A.length+3) 1 0 0),(18,.mix [.fnm 203 [] [.pp A.length 1 0 0],.fnm 205 [] [.pp (A.length+1) 1 0 0],.fnm 206 [] [.pp A.length 1 0 0,.pp (A.length+2) 1 0 0],.fnm 207 [] [.pp (A.length+3) 1 0 0]]),(19,I 2)],qG ix B R N H⟩|_=>⟨⟨Tryz.f96.ntmps,[],gh,false,hold⟩,frL [(1,.pub (.ifc t0 x0)),(5,.pp A.length 1 0 0),(7,.pp (A.length+1) 1 0 0),(8,.pp (A.length+2) 1 0 0),(9,.pp (A.length+3) 1 0 0),(18,.mix [.fnm 203 [] [.pp A.length 1 0 0],.fnm 205 [] [.pp (A.length+1) 1 0 0],.fnm 206 [] [.pp A.length 1 0 0,.pp (A.length+2) 1 0 0],.fnm 207 [] [.pp (A.length+3) 1 0 0]]),(19,I 3)],qG ix B R N H⟩) (fun k=>4-k.1) (⟨0,oM⟩) ?_ ?_
 ·exact zd _ ⟨Y,Y,(by show EV.pp _ 1 0 0=_;simp),(by show EV.pp _ 1 0 0=_;simp),(by show EV.pp _ 1 0 0=_;simp),(by show EV.mix [.fnm 203 [] [.pp _ 1 0 0],.fnm 205 [] [.pp _ 1 0 0],.fnm 206 [] [.pp _ 1 0 0,.pp _ 1 0 0],.fnm 207 [] [.pp _ 1 0 0]]=_;simp),Y,trivial⟩ ((by simp[qG]))
 ·rintro⟨k,hk⟩;have hk3:k=0∨k=1∨k=2∨k=3:=oM;rcases hk3 with rfl|rfl|rfl|rfl
  ·dsimp only;refine Z6 ?_;refine nC ?_ ?_<;>intro h0
   ·skip;refine Z6 ?_;refine zb (qy rfl rfl rfl wk (fun e he=>by rw[underlying302]at he;cases he;exact vw) oM oM rfl) (Z6 ?_);refine zm Y (qS (f:=203) (fs:=[]) (cs:=[.pp A.length 1 0 0]) (av:=[]) Y Y ⟨Y,Y,Y⟩ trivial q264) (Z9 ?_);refine nC ?_ ?_<;>intro h1
    ·skip;exfalso;simp at h1
    ·skip;refine Z7 ?_;exact⟨⟨1,oM⟩,by dsimp only;omega,(by refine zd (mem':=qG ix A R N H) [(1,.pub (.ifc t0 x0)),(5,.pp A.length 1 0 0),(7,.pp (A.length+1) 1 0 0),(8,.pp (A.length+2) 1 0 0),(9,.pp (A.length+3) 1 0 0),(18,.mix [.fnm 203 [] [.pp A.length 1 0 0],.fnm 205 [] [.pp (A.length+1) 1 0 0],.fnm 206 [] [.pp A.length 1 0 0,.pp (A.length+2) 1 0 0],.fnm 207 [] [.pp (A.length+3) 1 0 0]]),(19,I 1)] ?_ ?_;exact rL;exact(Y))⟩
   ·skip;exfalso;simp at h0
  ·dsimp only;refine Z6 ?_;refine nC ?_ ?_<;>intro h0
   ·skip;refine Z6 ?_;refine zb (qy rfl rfl rfl wk (fun e he=>by rw[underlying302]at he;cases he;exact vw) oM oM rfl) (Z6 ?_);refine zm Y (qS (f:=205) (fs:=[]) (cs:=[.pp (A.length+1) 1 0 0]) (av:=[]) Y Y ⟨Y,Y,Y⟩ trivial q266) (Z9 ?_);refine nC ?_ ?_<;>intro h1
    ·skip;exfalso;simp at h1
    ·skip;refine Z7 ?_;exact⟨⟨2,oM⟩,by dsimp only;omega,(by refine zd (mem':=qG ix B R N H) [(1,.pub (.ifc t0 x0)),(5,.pp A.length 1 0 0),(7,.pp (A.length+1) 1 0 0),(8,.pp (A.length+2) 1 0 0),(9,.pp (A.length+3) 1 0 0),(18,.mix [.fnm 203 [] [.pp A.length 1 0 0],.fnm 205 [] [.pp (A.length+1) 1 0 0],.fnm 206 [] [.pp A.length 1 0 0,.pp (A.length+2) 1 0 0],.fnm 207 [] [.pp (A.length+3) 1 0 0]]),(19,I 2)] ?_ ?_;exact rL;exact(Y))⟩
   ·skip;exfalso;simp at h0
  ·dsimp only;refine Z6 ?_;refine nC ?_ ?_<;>intro h0
   ·skip;refine Z6 ?_;refine zb (qy rfl rfl rfl wk (fun e he=>by rw[underlying302]at he;cases he;exact vw) oM oM rfl) (Z6 ?_);refine zm Y (qS (f:=206) (fs:=[]) (cs:=[.pp A.length 1 0 0,.pp (A.length+2) 1 0 0]) (av:=[]) Y Y ⟨Y,Y,Y⟩ trivial q267) (Z9 ?_);refine nC ?_ ?_<;>intro h1
    ·skip;exfalso;simp at h1
    ·skip;refine Z7 ?_;exact⟨⟨3,oM⟩,by dsimp only;omega,(by refine zd (mem':=qG ix B R N H) [(1,.pub (.ifc t0 x0)),(5,.pp A.length 1 0 0),(7,.pp (A.length+1) 1 0 0),(8,.pp (A.length+2) 1 0 0),(9,.pp (A.length+3) 1 0 0),(18,.mix [.fnm 203 [] [.pp A.length 1 0 0],.fnm 205 [] [.pp (A.length+1) 1 0 0],.fnm 206 [] [.pp A.length 1 0 0,.pp (A.length+2) 1 0 0],.fnm 207 [] [.pp (A.length+3) 1 0 0]]),(19,I 3)] ?_ ?_;exact rL;exact(Y))⟩
   ·skip;exfalso;simp at h0
  ·dsimp only;refine Z6 ?_;refine nC ?_ ?_<;>intro h0
   ·skip;refine Z6 ?_;refine zb (qy rfl rfl rfl wk (fun e he=>by rw[underlying302]at he;cases he;exact vw) oM oM rfl) (Z6 ?_);refine zm Y (qS (f:=207) (fs:=[]) (cs:=[.pp (A.length+3) 1 0 0]) (av:=[]) Y Y ⟨Y,Y,Y⟩ trivial q268) (Z9 ?_);refine nC ?_ ?_<;>intro h1
    ·skip;refine Z12 ?_
     exact fun hz=>zR [_,_,_,_] Y (hBk hmk) oM (.inr Y) (by simp[EV.lt]) Y
    ·skip;exfalso;simp at h1
   ·skip;exfalso;simp at h0
theorem PU:acR l++[[.pub a]]=acR (l++[a]):=by simp[acR]
theorem A9:(acR l).length=l.length:=by simp[acR]
theorem XE:∀r∈acR l,r.length=1:=fun r hr=>by
 obtain⟨x,_,rfl⟩:=zLj.1 hr;rfl
def cBa(s:Hs.Sut)(b:BS)(ix:Ix)(n:Nat):TE:=Hs.rSK (.pub (.sl (s.st.map Hs.eBSt))) (.psl ix.reps b.reps.length) s++[.psl ix.maps b.maps.length,.psl ix.ships b.ships.length,.mpv ix.said,I b.cost,.psl ix.acts n,.pub (.v (.bool true))]
theorem O1:cBa s b ix (b.acts.length+1)=cB s (b.act a) ix:=by simp[cB,cBa,BS.act]
theorem GO{B:TP}(hB:BuM s b ix B):((qG ix B R N H).set ix.acts (.row (acR b.acts++[[.pub a]]))).set ix.row (.row [cBa s b ix (b.acts.length+1)])=qK s b ix a B++[.row [[.pp ix.row 1 0 0]],.row [[R]],.row [[N]],.row [[H]]]:=by
 rw[qG,jX (hB.lt _ (by simp[Ix.all])),jX (by rw[zL2];exact hB.lt _ (by simp[Ix.all])),PU,O1 (a:=a)];rfl
theorem JM{B:TP}(hA:BuM s b ix A)(hB:BuM s b ix B)(hl:A.length=B.length)(hBk:zW A.length A->zW B.length B)(cR:CondQ G R A B br)(kN:∀m:TP,qn m N [N])(kH:∀m:TP,qn m H [H])(cN:CondQ G N B B bn)(cH:CondQ G H B B bh)(er:br=true)(ha:b.acts.length<60)(en:bn=true)(eh:bh=true):zv tP G 96 [.pp ix.row 1 0 0,.pub (.ifc t0 x0),R,N,H] A (.ret (I 0) (qK s b ix (.ifc t0 x0) B)):=by
 have q264:zv tP G 203 [.pp A.length 1 0 0] (qG ix A R N H) (.ret (I 0) (qG ix A R N H)):=(f264 s b).d (.cons (bz hA.app (show(A++_)[A.length]?=_ from(jk (k:=0) rfl).trans rfl)) .nil) rfl;have q266:zv tP G 205 [.pp (A.length+1) 1 0 0] (qG ix A R N H) (.ret (I (if br then 0 else 2)) (qG ix B R N H)):=fk hl cR (show(A++_)[A.length+1]?=_ from(jk (k:=1) rfl).trans rfl);rw[er]at q266;have q267:zv tP G 206 [.pp A.length 1 0 0,.pp (A.length+2) 1 0 0] (qG ix B R N H) (.ret (I (if bn then 0 else 6)) (qG ix B R N H)):=tJ hB (show(B++_)[A.length]?=_ from(jk (k:=0) hl.symm).trans rfl) ha cN (show(B++_)[A.length+2]?=_ from(jk (k:=2) hl.symm).trans rfl);rw[en]at q267;have q268:zv tP G 207 [.pp (A.length+3) 1 0 0] (qG ix B R N H) (.ret (I (if bh then 0 else 7)) (qG ix B R N H)):=Fg cH (show(B++_)[A.length+3]?=_ from(jk (k:=3) hl.symm).trans rfl);rw[eh]at q268;have hne:=hB.ne;have hlb:ix.row<B.length:=hB.lt _ (by simp[Ix.all])
 have hlc:ix.acts<B.length:=hB.lt _ (by simp[Ix.all]);refine mW func96 (fun gh hold hmk=>?_);refine Z2 ?_;refine zm Y (qI Y Y (wE Y hA.row Y)) (zm Y (qI Y Y (cR.cell _)) (zm Y (qI Y Y (kN _)) (zm Y (qI Y Y (kH _)) ?_)));refine Z10 ?_;refine zb (y8 (cs:=[_,_,_,_]) Y py Y ⟨_,_,Y,ji Y,_,_,Y,ji Y,_,_,Y,ji Y,_,_,Y,ji Y,Y⟩ rF sI) ?_;refine Z4 ?_;refine zD (ι:={k:Nat//k<5}) (fun k=>match k.1 with|0=>⟨⟨Tryz.f96.ntmps,[],gh,false,hold⟩,frL [(1,.pub (.ifc t0 x0)),(5,.pp A.length 1 0 0),(7,.pp (A.length+1) 1 0 0),(8,.pp (A.length+2) 1 0 0),(9,.pp (A.length+3) 1 0 0),(18,.mix [.fnm 203 [] [.pp A.length 1 0 0],.fnm 205 [] [.pp (A.length+1) 1 0 0],.fnm 206 [] [.pp A.length 1 0 0,.pp (A.length+2) 1 0 0],.fnm 207 [] [.pp (A.length+3) 1 0 0]]),(19,I 0)],qG ix A R N H⟩|1=>⟨⟨Tryz.f96.ntmps,[],gh,false,hold⟩,frL [(1,.pub (.ifc t0 x0)),(5,.pp A.length 1 0 0),(7,.pp (A.length+1) 1 0 0),(8,.pp (A.length+2) 1 0 0),(9,.pp (A.length+3) 1 0 0),(18,.mix [.fnm 203 [] [.pp A.length 1 0 0],.fnm 205 [] [.pp (A.length+1) 1 0 0],.fnm 206 [] [.pp A.length 1 0 0,.pp (A.length+2) 1 0 0],.fnm 207 [] [.pp (A.length+3) 1 0 0]]),(19,I 1)],qG ix A R N H⟩|2=>⟨⟨Tryz.f96.ntmps,[],gh,false,hold⟩,frL [(1,.pub (.ifc t0 x0)),(5,.pp A.length 1 0 0),(7,.pp (A.length+1) 1 0 0),(8,.pp (A.length+2) 1 0 0),(9,.pp (A.length+3) 1 0 0),(18,.mix [.fnm 203 [] [.pp A.length 1 0 0],.fnm 205 [] [.pp (A.length+1) 1 0 0],.fnm 206 [] [.pp A.length 1 0 0,.pp (A.length+2) 1 0 0],.fnm 207 [] [.pp (A.length+3) 1 0 0]]),(19,I 2)],qG ix B R N H⟩|3=>⟨⟨Tryz.f96.ntmps,[],gh,false,hold⟩,frL [(1,.pub (.ifc t0 x0)),(5,.pp A.length 1 0 0),(7,.pp (A.length+1) 1 0 0),(8,.pp (A.length+2) 1 0 0),(9,.pp (A.length+3) 1 0 0),(18,.mix [.fnm 203 [] [.pp A.length 1 0 0],.fnm 205 [] [.pp (A.length+1) 1 0 0],.fnm 206 [] [.pp A.length 1 0 0,.pp (A.length+2) 1 0 0],.fnm 207 [] [.pp (A.length+3) 1 0 0]]),(19,I 3)],qG ix B R N H⟩|_=>⟨⟨Tryz.f96.ntmps,[],gh,false,hold⟩,frL [(1,.pub (.ifc t0 x0)),(5,.pp A.length 1 0 0),(7,.pp (A.length+1) 1 0 0),(8,.pp (A.length+2) 1 0 0),(9,.pp (A.length+3) 1 0 0),(18,.mix [.fnm 203 [] [.pp A.length 1 0 0],.fnm 205 [] [.pp (A.length+1) 1 0 0],.fnm 206 [] [.pp A.length 1 0 0,.pp (A.length+2) 1 0 0],.fnm 207 [] [.pp (A.length+3) 1 0 0]]),(19,I 4)],qG ix B R N H⟩) (fun k=>5-k.1) (⟨0,oM⟩) ?_ ?_
 ·exact zd _ ⟨Y,Y,(by show EV.pp _ 1 0 0=_;simp),(by show EV.pp _ 1 0 0=_;simp),(by show EV.pp _ 1 0 0=_;simp),(by show EV.mix [.fnm 203 [] [.pp _ 1 0 0],.fnm 205 [] [.pp _ 1 0 0],.fnm 206 [] [.pp _ 1 0 0,.pp _ 1 0 0],.fnm 207 [] [.pp _ 1 0 0]]=_;simp),Y,trivial⟩ ((by simp[qG]))
 ·rintro⟨k,hk⟩;have hk3:k=0∨k=1∨k=2∨k=3∨k=4:=oM;rcases hk3 with rfl|rfl|rfl|rfl|rfl
  ·dsimp only;refine Z6 ?_;refine nC ?_ ?_<;>intro h0
   ·skip;refine Z6 ?_;refine zb (qy rfl rfl rfl wk (fun e he=>by rw[underlying302]at he;cases he;exact vw) oM oM rfl) (Z6 ?_);refine zm Y (qS (f:=203) (fs:=[]) (cs:=[.pp A.length 1 0 0]) (av:=[]) Y Y ⟨Y,Y,Y⟩ trivial q264) (Z9 ?_);refine nC ?_ ?_<;>intro h1
    ·skip;exfalso;simp at h1
    ·skip;refine Z7 ?_;exact⟨⟨1,oM⟩,by dsimp only;omega,(by refine zd (mem':=qG ix A R N H) [(1,.pub (.ifc t0 x0)),(5,.pp A.length 1 0 0),(7,.pp (A.length+1) 1 0 0),(8,.pp (A.length+2) 1 0 0),(9,.pp (A.length+3) 1 0 0),(18,.mix [.fnm 203 [] [.pp A.length 1 0 0],.fnm 205 [] [.pp (A.length+1) 1 0 0],.fnm 206 [] [.pp A.length 1 0 0,.pp (A.length+2) 1 0 0],.fnm 207 [] [.pp (A.length+3) 1 0 0]]),(19,I 1)] ?_ ?_;exact rL;exact(Y))⟩
   ·skip;exfalso;simp at h0
  ·dsimp only;refine Z6 ?_;refine nC ?_ ?_<;>intro h0
   ·skip;refine Z6 ?_;refine zb (qy rfl rfl rfl wk (fun e he=>by rw[underlying302]at he;cases he;exact vw) oM oM rfl) (Z6 ?_);refine zm Y (qS (f:=205) (fs:=[]) (cs:=[.pp (A.length+1) 1 0 0]) (av:=[]) Y Y ⟨Y,Y,Y⟩ trivial q266) (Z9 ?_);refine nC ?_ ?_<;>intro h1
    ·skip;exfalso;simp at h1
    ·skip;refine Z7 ?_;exact⟨⟨2,oM⟩,by dsimp only;omega,(by refine zd (mem':=qG ix B R N H) [(1,.pub (.ifc t0 x0)),(5,.pp A.length 1 0 0),(7,.pp (A.length+1) 1 0 0),(8,.pp (A.length+2) 1 0 0),(9,.pp (A.length+3) 1 0 0),(18,.mix [.fnm 203 [] [.pp A.length 1 0 0],.fnm 205 [] [.pp (A.length+1) 1 0 0],.fnm 206 [] [.pp A.length 1 0 0,.pp (A.length+2) 1 0 0],.fnm 207 [] [.pp (A.length+3) 1 0 0]]),(19,I 2)] ?_ ?_;exact rL;exact(Y))⟩
   ·skip;exfalso;simp at h0
  ·dsimp only;refine Z6 ?_;refine nC ?_ ?_<;>intro h0
   ·skip;refine Z6 ?_;refine zb (qy rfl rfl rfl wk (fun e he=>by rw[underlying302]at he;cases he;exact vw) oM oM rfl) (Z6 ?_);refine zm Y (qS (f:=206) (fs:=[]) (cs:=[.pp A.length 1 0 0,.pp (A.length+2) 1 0 0]) (av:=[]) Y Y ⟨Y,Y,Y⟩ trivial q267) (Z9 ?_);refine nC ?_ ?_<;>intro h1
    ·skip;exfalso;simp at h1
    ·skip;refine Z7 ?_;exact⟨⟨3,oM⟩,by dsimp only;omega,(by refine zd (mem':=qG ix B R N H) [(1,.pub (.ifc t0 x0)),(5,.pp A.length 1 0 0),(7,.pp (A.length+1) 1 0 0),(8,.pp (A.length+2) 1 0 0),(9,.pp (A.length+3) 1 0 0),(18,.mix [.fnm 203 [] [.pp A.length 1 0 0],.fnm 205 [] [.pp (A.length+1) 1 0 0],.fnm 206 [] [.pp A.length 1 0 0,.pp (A.length+2) 1 0 0],.fnm 207 [] [.pp (A.length+3) 1 0 0]]),(19,I 3)] ?_ ?_;exact rL;exact(Y))⟩
   ·skip;exfalso;simp at h0
  ·dsimp only;refine Z6 ?_;refine nC ?_ ?_<;>intro h0
   ·skip;refine Z6 ?_;refine zb (qy rfl rfl rfl wk (fun e he=>by rw[underlying302]at he;cases he;exact vw) oM oM rfl) (Z6 ?_);refine zm Y (qS (f:=207) (fs:=[]) (cs:=[.pp (A.length+3) 1 0 0]) (av:=[]) Y Y ⟨Y,Y,Y⟩ trivial q268) (Z9 ?_);refine nC ?_ ?_<;>intro h1
    ·skip;exfalso;simp at h1
    ·skip;refine Z7 ?_;exact⟨⟨4,oM⟩,by dsimp only;omega,(by refine zd (mem':=qG ix B R N H) [(1,.pub (.ifc t0 x0)),(5,.pp A.length 1 0 0),(7,.pp (A.length+1) 1 0 0),(8,.pp (A.length+2) 1 0 0),(9,.pp (A.length+3) 1 0 0),(18,.mix [.fnm 203 [] [.pp A.length 1 0 0],.fnm 205 [] [.pp (A.length+1) 1 0 0],.fnm 206 [] [.pp A.length 1 0 0,.pp (A.length+2) 1 0 0],.fnm 207 [] [.pp (A.length+3) 1 0 0]]),(19,I 4)] ?_ ?_;exact rL;exact(Y))⟩
   ·skip;exfalso;simp at h0
  ·dsimp only;refine Z6 ?_;refine nC ?_ ?_<;>intro h0
   ·skip;exfalso;simp at h0
   ·skip;refine Z6 ?_;refine qd (fun mm=>(∃r,mm[ix.row]?=some (PO.row [r]))/\mm[A.length]?=some (PO.row [[.pp ix.row 1 0 0]])) (fun k=>match k with|0=>.stable|1=>.stable|2=>.stable|3=>.stable|5=>.stable|6=>.stable|7=>.writes|8=>.stable|9=>.stable|10=>.writes|_=>.here) mixed nR rfl nR ⟨⟨_,(hB.app (xs:=[.row [[.pp ix.row 1 0 0]],.row [[R]],.row [[N]],.row [[H]]])).row⟩,(show(B++_)[A.length]?=_ from(jk (k:=0) hl.symm).trans rfl)⟩ ?_;refine zC Y Y (fun m hm=>zg Y Y hm.2 Y Y Y jG) (zC Y Y (fun m hm=>zg Y Y hm.2 Y Y Y jG) (zC Y Y (fun m hm=>zr (rows:=[hm.1.choose]) Y Y hm.1.choose_spec Y) (zC Y Y (fun m hm=>ze (rows:=[hm.1.choose]) Y Y hm.1.choose_spec Y ct) (zK Y Y (zg Y Y (hB.app (xs:=[.row [[.pp ix.row 1 0 0]],.row [[R]],.row [[N]],.row [[H]]])).row Y Y Y AM) ?_))));refine Z ?_;refine zC Y Y (fun m hm=>zw (size:=1) (rows:=[[_]]) Y underlying176 S3 Y dE Y dE (zk Y) rF (by simp[ofV]) Y sI) ?_
    refine qw Y Y (qz Y Y (hB.app (xs:=[.row [[.pp ix.row 1 0 0]],.row [[R]],.row [[N]],.row [[H]]])).acts A9 Y Ut XE (by intro r hr;simp at hr;subst hr;rfl) (by simp;omega) (by unfold maxLen;simp;omega)) (⟨⟨_,zT hne.a.2.2.2.2.symm (hB.app (xs:=[.row [[.pp ix.row 1 0 0]],.row [[R]],.row [[N]],.row [[H]]])).row⟩,zT oM (show(B++_)[A.length]?=_ from(jk (k:=0) hl.symm).trans Y)⟩) ?_;refine zC Y Y (fun m hm=>zr (rows:=[hm.1.choose]) Y Y hm.1.choose_spec Y) (zC Y Y (fun m hm=>ze (rows:=[hm.1.choose]) Y Y hm.1.choose_spec Y ct) ?_);refine qw Y Y (zz Y Y Y (zT hne.a.2.2.2.2.symm (hB.app (xs:=[.row [[.pp ix.row 1 0 0]],.row [[R]],.row [[N]],.row [[H]]])).row) Y Y (jW Y (zj (hB.app (xs:=[.row [[.pp ix.row 1 0 0]],.row [[R]],.row [[N]],.row [[H]]])).acts) (by simp[A9])) AM rF rF) (⟨⟨_,zj (zT hne.a.2.2.2.2.symm (hB.app (xs:=[.row [[.pp ix.row 1 0 0]],.row [[R]],.row [[N]],.row [[H]]])).row)⟩,zT oM (zT oM (show(B++_)[A.length]?=_ from(jk (k:=0) hl.symm).trans Y))⟩) ?_
    refine Z3 ?_;refine zt (zd (mem':=qK s b ix (.ifc t0 x0) B++[.row [[.pp ix.row 1 0 0]],.row [[R]],.row [[N]],.row [[H]]]) [] trivial (GO hB)) ?_;refine Z5 ?_
    exact fun hz=>zR [_,_,_,_] Y (vK hB (hBk hmk)) (by rw[jE];omega) (.inr Y) (by simp[EV.lt]) Y
end Bu
end Go.Av
end
