import Derived.Test.YtdjncbjfejdamaaGreatDoorRunC
import Derived.Lib.Join
import Derived.Test.YtdjncbjfejdamaaGreatDoorPlatB
set_option linter.unusedVariables false
set_option linter.unusedSimpArgs false
section
namespace Go.Bv
open Go.RowKit
noncomputable section
inductive Job where
 | code (c:Code) (s:St)
 | loop (c:Code) (s:St)
 | scope (body c:Code) (s:St)
 | call (f:FuncId) (vs:List VV) (M:Mem) (nx:Nat)
 | yld (l:Nat) (vs:List VV) (M:Mem) (nx:Nat)
 | leave (f:FuncId) (s:St) (pm:Option VV)
 | dcall (f:FuncId) (vs:List VV) (pm:Option VV) (M:Mem) (nx:Nat)
inductive Res where
 | code (e:XE) (s:St)
 | out (o:OX) (M:Mem) (nx:Nat)
 | dout (pm:Option VV) (M:Mem) (nx:Nat)
abbrev Rec:=Nat -> Job -> Option Res
def zkh:Int -> Option Value
 | .ofNat n=>bif Nat.blt n 9223372036854775808 then some (.int .i64 (.ofNat n)) else none
 | .negSucc n=>bif Nat.blt n 9223372036854775808 then some (.int .i64 (.negSucc n)) else none
def isNeg:Int -> Bool
 | .ofNat _=>false
 | .negSucc _=>true
def isZero:Int -> Bool
 | .ofNat 0=>true
 | _=>false
inductive SgI where
 | mk (f:Int -> Int -> Option Value)
def sgI (op:BinOp):SgI:=match op with
 | .add=>.mk fun p q=>zkh (p + q)
 | .sub=>.mk fun p q=>zkh (p - q)
 | .mul=>.mk fun p q=>zkh (p * q)
 | .lss=>.mk fun p q=>some (.bool (isNeg (p - q)))
 | .gtr=>.mk fun p q=>some (.bool (isNeg (q - p)))
 | .leq=>.mk fun p q=>some (.bool (!isNeg (q - p)))
 | .geq=>.mk fun p q=>some (.bool (!isNeg (p - q)))
 | .eql=>.mk fun p q=>some (.bool (isZero (p - q)))
 | .neq=>.mk fun p q=>some (.bool (!isZero (p - q)))
 | _=>.mk fun _ _=>none
def zoO (P:Program) (fr:Fr) (M:Mem) (nx:Nat) (o:Oper) (g:SgI) (op:BinOp) (T:TypeId) (x y:Operand):jU:=
 match g with
 | .mk f=>match evV fr x, evV fr y with
  | some (.c (.int .i64 p)), some (.c (.int .i64 q))=>match f p q with
   | some v=>some (.c v, M, nx)
   | none=>yj P fr M nx o
  | _, _=>orE (yj P fr M nx o) fun _=>zex P fr M nx op T x y
inductive SgE where
 | plain (f:Nat -> Fr -> Mem -> Nat -> jU)
 | call (f:Rec -> Nat -> Fr -> Mem -> Nat -> Option (OX × Mem × Nat)) (dirty:Fr -> Bool)
 | oth (f:St -> Option (OX × St))
def sgE (P:Program) (drt:FuncId -> Bool) (o:Oper):SgE:=match o.op with
 | .move x=>.plain fun _ fr M nx=>zdE fr M nx x
 | .assign x=>.plain fun _ fr M nx=>zdE fr M nx x
 | .pick c x y=>.plain fun _ fr M nx=>zhL fr M nx c x y
 | .alloc T=>.plain fun _ _ M nx=>zez P M nx T
 | .box _ x=>.plain fun _ fr M nx=>zld fr M nx x
 | .load T p=>.plain fun _ fr M nx=>zic P fr M nx T p
 | .store T p x=>.plain fun lim fr M nx=>zet P lim fr M nx T p x
 | .fieldAddr T x k=>.plain fun _ fr M nx=>zaa P fr M nx T x k
 | .indexAddr T x i=>.plain fun _ fr M nx=>zab P fr M nx T x i
 | .makeFunc f a b=>.plain fun _ fr M nx=>za7 fr M nx f a b
 | .extract t i=>.plain fun _ fr M nx=>zb0 fr M nx t i
 | .binOp op T x y _=>.plain fun _ fr M nx=>zoO P fr M nx o (sgI op) op T x y
 | .call { callee:=.value f, args, .. }=>.call (fun rec lim fr M nx=>match evV fr f, evL fr args.toList with
   | some (.fn g a b), some vs=>match rec lim (.call g (a ++ vs ++ b) M nx) with
    | some (.out x M' nx')=>some (x, M', nx')
    | _=>none
   | some (.yld l), some vs=>match rec lim (.yld l vs M nx) with
    | some (.out x M' nx')=>some (x, M', nx')
    | _=>none
   | _, _=>none) (fun fr=>match evV fr f with | some (.fn g _ _)=>drt g | _=>true)
 | .call { callee:=.builtin .recover, .. }=>.oth fun s=>match s.up with
  | .pan v=>some (.val v, { s with up:=.got })
  | .ret=>some (.val (.c .nilIface), s)
  | _=>none
 | .defer { callee:=.value f, args, .. }=>.oth fun s=>bif s.rnd then none else match evV s.fr f, evL s.fr args.toList with
  | some (.fn g a b), some vs=>some (.val (.tup []), { s with dfs:=.call g (a ++ vs ++ b) :: s.dfs })
  | _, _=>none
 | .panic x=>.oth fun s=>match evV s.fr x with
  | some (.ifc T y)=>some (.pan (.ifc T y), s)
  | _=>none
 | .call { callee:=.builtin b, args, argTypes }=>.plain fun lim fr M nx=>zhO P lim fr M nx o b args.toList argTypes.toList
 | _=>.plain fun lim fr M nx=>zqA P lim fr M nx o
inductive SgR where
 | mk (g:Option (Option (Nat × Bool))) (dst:Option Nat) (f:SgE)
def sgW (ops:Array Oper) (o:Oper):Option (Option (Nat × Bool)):=match o.guard with
 | none=>some none
 | some (j, want)=>match ops[j]? with
  | none=>none
  | some g=>match g.dst with
   | none=>none
   | some t=>some (some (t, want))
def sgR (P:Program) (drt:FuncId -> Bool) (ops:Array Oper) (o:Oper):SgR:=match sgE P drt o, sgW ops o, o.dst with
 | f, g, d=>.mk g d f
def zho (P:Program) (drt:FuncId -> Bool) (ops:Array Oper):List Oper -> List SgR
 | []=>[]
 | o :: l=>sgR P drt ops o :: zho P drt ops l
def zgB (g:Option (Option (Nat × Bool))) (fr:Fr):Option Bool:=match g with
 | none=>some false
 | some none=>some true
 | some (some (t, want))=>match fr.get t with
  | some (.c (.bool b))=>some (bif want then b else !b)
  | some (.tup [])=>some false
  | _=>none
def zcM (fr:Fr) (n:Nat) (dst:Option Nat) (v:VV):Option Fr:=match dst with
 | none=>some fr
 | some d=>bif Nat.blt d n && Nat.blt d 512 then match fr.set d v with
  | ⟨a0, a1, a2, a3, a4, a5, a6, a7⟩=>some ⟨a0, a1, a2, a3, a4, a5, a6, a7⟩ else none
def ziU (rec:Rec) (lim:Nat) (l:List SgR):St -> Option (XE × St):=
 @List.rec SgR (fun _=>St -> Option (XE × St)) (fun s=>some (.normal, s)) (fun r _ ih s=>match r with
  | .mk g dst f=>match s with
   | ⟨fr, dfs, up, M, nx, rnd, n, fid⟩=>match zgB g fr with
    | some true=>match f with
     | .plain f=>match f lim fr M nx with
      | some (v, M', nx')=>bif Nat.ble nx nx' then match zcM fr n dst v with
       | some fr'=>ih ⟨fr', dfs, up, M', nx', rnd, n, fid⟩
       | none=>none else none
      | none=>none
     | .call f _=>match f rec lim fr M nx with
      | some (.val v, M', nx')=>match zcM fr n dst v with
       | some fr'=>ih ⟨fr', dfs, up, M', nx', rnd, n, fid⟩
       | none=>none
      | some (.pan v, M', nx')=>some (.pan v, ⟨fr, dfs, up, M', nx', rnd, n, fid⟩)
      | none=>none
     | .oth f=>match f ⟨fr, dfs, up, M, nx, rnd, n, fid⟩ with
      | some (.val v, s1)=>match zcM s1.fr s1.n dst v with
       | some fr'=>ih { s1 with fr:=fr' }
       | none=>none
      | some (.pan v, s1)=>some (.pan v, s1)
      | none=>none
    | some false=>match zcM fr n dst (.tup []) with
     | some fr'=>ih ⟨fr', dfs, up, M, nx, rnd, n, fid⟩
     | none=>none
    | none=>none) l
def znM (o:Oper):Bool:=match o.op with
 | .move _ | .assign _ | .pick _ _ _ | .fieldAddr _ _ _ | .indexAddr _ _ _ | .makeFunc _ _ _ | .extract _ _ | .binOp _ _ _ _ _ | .unOp _ _ _ | .field _ _ _ | .index _ _ _ | .makeInterface _ _ | .nilCheck _ | .typeAssert _ _ _ _ | .slice _ _ _ _ _ | .convert _ _ _=>true
 | .call { callee:=.builtin .len, .. } | .call { callee:=.builtin .min, .. } | .call { callee:=.builtin .max, .. }=>true
 | _=>false
inductive SgD where
 | mk (g:Option (Option (Nat × Bool))) (dst:Option Nat) (f:SgE) (i:Nat) (looks:List Tmp) (ok:Bool) (mask:Nat) (cut pure flt:Bool)
def zsC (ops:Array Oper) (i:Nat):Bool:=(List.range ops.size).any fun j=>match ops[j]? with
 | some o=>!(Nat.beq j i) && !(znM o) && !(Nat.testBit (maskAt ops j) i) && !(Nat.testBit (maskAt ops i) j)
 | none=>false
def sgD (P:Program) (drt:FuncId -> Bool) (ops:Array Oper) (i:Nat) (o:Oper):SgD:=match sgE P drt o, sgW ops o, o.dst, o.looksAt ops, ze7 ops i (o.looksAt ops), maskAt ops i, zhn ops i, znM o, zsC ops i with
 | f, g, d, l, b, m, c, p, t=>.mk g d f i l b m c p t
def zl6 (P:Program) (drt:FuncId -> Bool) (ops:Array Oper):Nat -> List Oper -> List SgD
 | _, []=>[]
 | i, o :: l=>sgD P drt ops i o :: zl6 P drt ops (i + 1) l
def zdH (rec:Rec) (f:SgE) (fr:Fr) (M:Mem) (nx:Nat):Option (VV × Mem × Nat):=match f with
 | .plain f=>match f nx fr M nx with
  | some (v, M', nx')=>bif Nat.ble nx nx' then some (v, M', nx') else none
  | none=>none
 | .call f dirty=>bif dirty fr then none else match f rec nx fr M nx with
  | some (.val v, M', nx')=>some (v, M', nx')
  | _=>none
 | .oth _=>none
def zoh (rec:Rec) (lim:Nat) (f:SgE) (fr:Fr) (M:Mem) (nx:Nat):Option (VV × Mem × Nat):=match f with
 | .plain f=>match f lim fr M nx with
  | some (v, M', nx')=>bif Nat.ble nx nx' then some (v, M', nx') else none
  | none=>none
 | .call f _=>match f rec lim fr M nx with
  | some (.val v, M', nx')=>some (v, M', nx')
  | _=>none
 | .oth _=>none
def zrK (rec:Rec) (lim:Nat) (f:SgE) (s:St):Option (OX × St):=match f with
 | .plain f=>match s with
  | ⟨fr, dfs, up, M, nx, rnd, n, fid⟩=>match f lim fr M nx with
   | some (v, M', nx')=>bif Nat.ble nx nx' then some (.val v, ⟨fr, dfs, up, M', nx', rnd, n, fid⟩) else none
   | none=>none
 | .call f _=>match s with
  | ⟨fr, dfs, up, M, nx, rnd, n, fid⟩=>match f rec lim fr M nx with
   | some (x, M', nx')=>some (x, ⟨fr, dfs, up, M', nx', rnd, n, fid⟩)
   | none=>none
 | .oth f=>f s
inductive Flt where
 | mk (i:Nat) (f:SgE) (mi:Fr) (v:VV)
inductive Hd where
 | mk (c:Nat) (M:Mem)
inductive DS where
 | mk (M0:Mem) (cm mm cs:Nat) (fl:List Flt) (hs:List Hd)
def eqC:Value -> Value -> Bool
 | .int .i64 a, .int .i64 b=>isZero (a - b)
 | .bool true, .bool true=>true
 | .bool false, .bool false=>true
 | _, _=>false
def eqL (f:VV -> VV -> Bool):List VV -> List VV -> Bool
 | [], []=>true
 | x :: l, y :: m=>f x y && eqL f l m
 | _, _=>false
def zi2:Nat -> VV -> VV -> Bool
 | n + 1, x, y=>match x, y with
  | .c x, .c y=>eqC x y
  | .ptr l o, .ptr l' o'=>Nat.beq l l' && Nat.beq o o'
  | .sl l o n (some c) e, .sl l' o' n' (some c') e'=>Nat.beq l l' && (Nat.beq o o' && (Nat.beq n n' && (Nat.beq c c' && Nat.beq e e')))
  | .sl l o n none e, .sl l' o' n' none e'=>Nat.beq l l' && (Nat.beq o o' && (Nat.beq n n' && Nat.beq e e'))
  | .mp l, .mp l'=>Nat.beq l l'
  | .fn f a b, .fn f' a' b'=>Nat.beq f f' && (eqL (zi2 n) a a' && eqL (zi2 n) b b')
  | .agg a, .agg b=>eqL (zi2 n) a b
  | .tup a, .tup b=>eqL (zi2 n) a b
  | _, _=>false
 | 0, _, _=>false
def eqV:VV -> VV -> Bool:=zi2 5
def zsX:SgE -> Bool
 | .plain _=>true
 | _=>false
def zgF (rec:Rec) (f:SgE) (mi:Fr) (v:VV) (M:Mem) (nx:Nat):Bool:=match zdH rec f mi M nx with
 | some (v', _, nx')=>Nat.beq nx' nx && eqV v' v
 | none=>false
def ze0 (rec:Rec) (f:SgE) (mi:Fr) (v:VV) (nx mask:Nat):List Hd -> Bool
 | []=>true
 | .mk c M :: l=>bif Nat.testBit mask c then true else zgF rec f mi v M nx && ze0 rec f mi v nx mask l
def zgx (rec:Rec) (M:Mem) (nx mask:Nat):List Flt -> Bool
 | []=>true
 | .mk i f mi v :: l=>(bif Nat.testBit mask i then true else zgF rec f mi v M nx) && zgx rec M nx mask l
def zsy (rec:Rec) (flt:Bool) (f:SgE) (mask:Nat) (mi:Fr) (M0:Mem) (nx:Nat) (hs:List Hd):Option VV:=bif flt && zsX f then match zdH rec f mi M0 nx with
 | some (v, _, nx')=>bif Nat.beq nx' nx && ze0 rec f mi v nx mask hs then some v else none
 | none=>none else none
inductive DR where
 | val (v:VV) (M:Mem) (nx:Nat) (d:DS)
 | hard (v:VV) (s:St)
 | pan (v:VV) (s:St)
def zod (rec:Rec) (lim:Nat) (g:Option (Option (Nat × Bool))) (f:SgE) (i mask:Nat) (cut flt:Bool) (mi:Fr) (s:St) (d:DS):Option DR:=match d with
 | .mk M0 cm mm cs fl hs=>match zsy rec flt f mask mi M0 s.nx hs with
  | some v=>some (.val v s.M s.nx (.mk M0 cm mm cs (.mk i f mi v :: fl) hs))
  | none=>bif Nat.beq (Nat.land cs mask) cs then match zdH rec f mi (bif Nat.beq (Nat.land cm mask) cm then s.M else M0) s.nx with
   | some (v, M', nx')=>bif Nat.beq nx' s.nx then some (.val v s.M s.nx (.mk M0 cm (Nat.lor mm (Nat.shiftLeft 1 i)) cs fl hs))
    else bif Nat.blt nx' 16777215 then some (.val v (bif Nat.beq (Nat.land cm mask) cm then M' else zbJ s.M M' s.nx (nx' - s.nx)) nx' (.mk M0 (Nat.lor cm (Nat.shiftLeft 1 i)) (Nat.lor mm (Nat.shiftLeft 1 i)) cs fl hs)) else none
   | none=>bif cut then match zgB g s.fr with
     | some true=>match zrK rec lim f s with
      | some (.val v, s1)=>some (.hard v s1)
      | some (.pan v, s1)=>some (.pan v s1)
      | none=>none
     | _=>none
    else bif Nat.beq (Nat.land mm mask) mm then match zoh rec lim f mi s.M s.nx with
     | some (v, M', nx')=>bif zgx rec M' nx' mask fl then some (.val v M' nx' (.mk M' 0 (Nat.lor mm (Nat.shiftLeft 1 i)) (Nat.lor cs (Nat.shiftLeft 1 i)) fl (.mk i M0 :: hs))) else none
     | none=>none else none else none
def zqI (rec:Rec) (lim:Nat) (g:Option (Option (Nat × Bool))) (f:SgE) (i mask:Nat) (cut pure flt:Bool) (mi:Fr) (s:St) (d:DS):Option DR:=match zgB g mi with
 | some false=>some (.val (.tup []) s.M s.nx d)
 | some true=>bif pure then match zdH rec f mi .lf s.nx with
   | some (v, _, nx')=>bif Nat.beq nx' s.nx then some (.val v s.M s.nx d) else zod rec lim g f i mask cut flt mi s d
   | none=>zod rec lim g f i mask cut flt mi s d
  else zod rec lim g f i mask cut flt mi s d
 | none=>none
def zgw (rec:Rec) (lim:Nat) (l:List SgD):St -> DS -> Option (XE × St):=
 @List.rec SgD (fun _=>St -> DS -> Option (XE × St)) (fun s _=>some (.normal, s)) (fun r _ ih s d=>match r with
  | .mk g dst f i looks ok mask cut pure flt=>bif ok then match mini s.fr looks with
    | ⟨a0, a1, a2, a3, a4, a5, a6, a7⟩=>match zqI rec lim g f i mask cut pure flt ⟨a0, a1, a2, a3, a4, a5, a6, a7⟩ s d with
     | some (.val v M nx d')=>match s with
      | ⟨fr, dfs, up, _, _, rnd, n, fid⟩=>match zcM fr n dst v with
       | some fr'=>ih ⟨fr', dfs, up, M, nx, rnd, n, fid⟩ d'
       | none=>none
     | some (.hard v s1)=>match s1 with
      | ⟨fr, dfs, up, M, nx, rnd, n, fid⟩=>match zcM fr n dst v with
       | some fr'=>ih ⟨fr', dfs, up, M, nx, rnd, n, fid⟩ (.mk M 0 0 0 [] [])
       | none=>none
     | some (.pan v s1)=>some (.pan v, s1)
     | none=>none else none) l
def rfE (rec:Rec) (lim:Nat) (f:Operand) (params:Array Tmp) (assign body:Code) (s:St):Option Res:=bif s.rnd then none else bif Nat.blt (s.nx + 2) 16777215 then match evV s.fr f with
 | some (.fn g a b)=>match rec lim (.call g (a ++ [.yld (s.nx + 1)] ++ b) (rfM s params assign body) (s.nx + 2)) with
  | some (.out (.val _) M2 nx2)=>match M2.get (s.nx + 1) with
   | some (.loop st pe fn n fr ps as bo df)=>bif Nat.blt nx2 16777215 then match st with
    | .busy=>none
    | _=>match zoN pe with
     | some e=>some (.code e { s with M:=M2.set (s.nx + 1) (some (.loop .exhausted pe fn n fr ps as bo df)), nx:=nx2, dfs:=.coll s.nx :: s.dfs })
     | none=>none else none
   | _=>none
  | some (.out (.pan v) M2 nx2)=>some (.code (.pan v) { s with M:=M2, nx:=nx2, dfs:=.coll s.nx :: s.dfs })
  | _=>none
 | _=>none else none
def okD (P:Program) (ops:Array Oper):Bool:=P.follows .mixedOrders && upB ops && zcZ ops.toList 0
inductive SgC where
 | mk (f:Rec -> Nat -> St -> Option Res)
def SgC.run:SgC -> Rec -> Nat -> St -> Option Res
 | .mk f, rec, lim, s=>f rec lim s
def sgC (P:Program) (drt:FuncId -> Bool) (c:Code):SgC:=match c with
 | .skip=>.mk fun _ _ s=>some (.code .normal s)
 | .label _=>.mk fun _ _ s=>some (.code .normal s)
 | .exit i=>.mk fun _ _ s=>some (.code (.exit i) s)
 | .goto l=>.mk fun _ _ s=>some (.code (.goto l) s)
 | .ret=>.mk fun _ _ s=>some (.code .ret s)
 | .seq a b=>.mk fun rec lim s=>match (sgC P drt a).run rec lim s with
  | some (.code .normal s1)=>(sgC P drt b).run rec lim s1
  | r=>r
 | .cond x a b=>.mk fun rec lim s=>match ziK s.fr x with
  | some true=>(sgC P drt a).run rec lim s
  | some false=>(sgC P drt b).run rec lim s
  | none=>none
 | .block id a=>.mk fun rec lim s=>match (sgC P drt a).run rec lim s with
  | some (.code (.exit i) s1)=>bif Nat.beq i id then some (.code .normal s1) else some (.code (.exit i) s1)
  | r=>r
 | .loop a=>.mk fun rec lim s=>rec lim (.loop a s)
 | .scope a=>.mk fun rec lim s=>rec lim (.scope a a s)
 | .region _ ops draws=>match draws with
  | false=>.mk fun rec lim s=>match ziU rec lim (zho P drt ops ops.toList) s with
   | some (e, s1)=>some (.code e s1)
   | none=>none
  | true=>match okD P ops with
   | true=>.mk fun rec lim s=>match zgw rec lim (zl6 P drt ops 0 ops.toList) s (.mk s.M 0 0 0 [] []) with
    | some (e, s1)=>some (.code e s1)
    | none=>none
   | false=>.mk fun _ _ _=>none
 | .rangeFunc f params assign body=>.mk fun rec lim s=>rfE rec lim f params assign body s
 | .refuse _=>.mk fun _ _ _=>none
inductive SgF where
 | bad
 | mk (fn:Func) (c:Code)
def sgF (P:Program) (f:FuncId):SgF:=match P.funcs[f]? with
 | some fn=>match fn.body with
  | some c=>match fn.name == "runtime.NumGoroutine" with
   | true=>.bad
   | false=>.mk fn c
  | none=>.bad
 | none=>.bad
def zjM:Up -> Bool
 | .no=>true
 | _=>false
def stepS (P:Program) (drt:FuncId -> Bool) (orc:FuncId -> List VV -> Mem -> Option VV) (rec:Rec) (lim:Nat):Job -> Option Res
 | .code c s=>(sgC P drt c).run rec lim s
 | .loop c s=>match (sgC P drt c).run rec lim s with
  | some (.code .normal s1)=>rec lim (.loop c s1)
  | r=>r
 | .scope body c s=>match (sgC P drt c).run rec lim s with
  | some (.code (.goto l) s1)=>match findLabel body l with
   | some rest=>rec lim (.scope body rest s1)
   | none=>some (.code (.goto l) s1)
  | r=>r
 | .call f vs M nx=>match orc f vs M with
  | some v=>some (.out (.val v) M nx)
  | none=>match sgF P f with
   | .mk fn c=>bif Nat.ble vs.length fn.ntmps && Nat.blt vs.length 512 then match (sgC P drt c).run rec lim { fr:=zbx 0 vs, dfs:=[], up:=.no, M, nx, rnd:=false, n:=fn.ntmps, fid:=f } with
    | some (.code e s1)=>bif s1.rnd then none else match e with
     | .normal=>rec lim (.leave f s1 none)
     | .ret=>rec lim (.leave f s1 none)
     | .pan v=>rec lim (.leave f s1 (some v))
     | _=>none
    | _=>none else none
   | .bad=>none
 | .yld l vs M nx=>match M.get l with
  | some (.loop .ready _ fn n fr ps as bo _)=>bif Nat.beq vs.length ps.size && ps.toList.all (fun t=>xE n (some t)) && Nat.ble lim l then
   match (sgC P drt as).run rec lim { fr:=vU fr ps.toList vs, dfs:=[], up:=.no, M, nx, rnd:=true, n, fid:=fn } with
   | some (.code .normal s1)=>match s1.M.get l with
    | some (.loop .ready pe1 fn1 n1 fr1 ps1 as1 bo1 df1)=>bif Nat.blt s1.nx 16777215 && zjM s1.up then
     match (sgC P drt bo).run rec lim { s1 with M:=s1.M.set l (some (.loop .busy pe1 fn1 n1 fr1 ps1 as1 bo1 df1)) } with
     | some (.code (.pan v) s2)=>bif zjM s2.up then match s2.dfs, P.funcs[fn]? with
      | [], some _=>some (.out (.pan v) s2.M s2.nx)
      | _, _=>none else none
     | some (.code e s2)=>match roundEnd e, s2.M.get l with
      | some (q, st', pe'), some (.loop _ _ fn2 n2 fr2 ps2 as2 bo2 df2)=>bif Nat.blt s2.nx 16777215 && zjM s2.up then some (.out (.val (.c (.bool q))) (s2.M.set l (some (.loop st' pe' fn2 n2 fr2 ps2 as2 bo2 df2))) s2.nx) else none
      | _, _=>none
     | _=>none else none
    | _=>none
   | _=>none else none
  | _=>none
 | .leave f s pm=>match s.dfs with
  | []=>match pm with
   | none=>match P.funcs[f]? with
    | some fn=>match resV P s.fr s.M fn.results.toList with
     | some v=>some (.out (.val v) s.M s.nx)
     | none=>none
    | none=>none
   | some v=>some (.out (.pan v) s.M s.nx)
  | .coll l :: ds=>match s.M.get l with
   | some (.dfd true)=>bif Nat.ble lim l && Nat.blt s.nx 16777215 then rec lim (.leave f { s with dfs:=ds, M:=s.M.set l (some (.dfd false)) } pm) else none
   | _=>none
  | .call g vs :: ds=>match rec lim (.dcall g vs pm s.M s.nx) with
   | some (.dout pm1 M nx)=>rec lim (.leave f { s with dfs:=ds, M, nx } pm1)
   | _=>none
 | .dcall f vs pm M nx=>match sgF P f with
  | .mk fn c=>bif Nat.ble vs.length fn.ntmps && Nat.blt vs.length 512 then match (sgC P drt c).run rec lim { fr:=zbx 0 vs, dfs:=[], up:=zrV pm, M, nx, rnd:=false, n:=fn.ntmps, fid:=f } with
   | some (.code e s1)=>match e, s1.dfs, resV P s1.fr s1.M fn.results.toList, zsh s1.up with
    | .normal, [], some _, some pm1=>some (.dout pm1 s1.M s1.nx)
    | .ret, [], some _, some pm1=>some (.dout pm1 s1.M s1.nx)
    | _, _, _, _=>none
   | _=>none else none
  | .bad=>none
def evS (P:Program) (drt:FuncId -> Bool) (orc:FuncId -> List VV -> Mem -> Option VV):Nat -> Rec:=
 @Nat.rec (fun _=>Rec) (fun _ _=>none) (fun _ ih lim j=>stepS P drt orc ih lim j)
end
end Go.Bv
end
section
namespace Go.Bv
open Go.RowKit
noncomputable section
def zq8 (P:Program) (lim:Nat):Job -> Res -> Prop
 | .code c s, .code e s'=>TS P lim [.code c] s e s'
 | .loop c s, .code e s'=>TS P lim [.code c, .inLoop c] s e s'
 | .scope body c s, .code e s'=>TS P lim [.code c, .inScope body] s e s'
 | .call f vs M nx, .out o M' nx'=>Av.Enters P f /\ zd7 P lim f vs M nx o M' nx'
 | .yld l vs M nx, .out o M' nx'=>zhk P lim l vs M nx o M' nx'
 | .leave f s pm, .out o M' nx'=>∀ fn, P.funcs[f]? = some fn -> zae P lim fn s pm o M' nx'
 | .dcall f vs pm M nx, .dout pm' M' nx'=>Av.Enters P f /\ zrv P lim f vs M nx pm pm' M' nx'
 | _, _=>False
def zao (P:Program) (rec:Rec):Prop:=∀ lim j r, rec lim j = some r -> zq8 P lim j r
section
variable {P:Program} {lim:Nat} {drt:FuncId -> Bool} {rec:Rec} {o:Oper}
theorem zeA {n:Int} {v:Value} (h:zkh n = some v):v = .int .i64 n /\ -9223372036854775808 <= n /\ n <= 9223372036854775807:=by
 cases n with
 | ofNat n=>
  simp only[zkh] at h
  cases hb:Nat.blt n 9223372036854775808 with
  | false=>simp [hb] at h
  | true=>
   simp only[hb, cond_true, zLs] at h
   have:=qH.1 hb
   exact ⟨h.symm, by show (-9223372036854775808:Int) <= (n:Int); omega, by show (n:Int) <= _; omega⟩
 | negSucc n=>
  simp only[zkh] at h
  cases hb:Nat.blt n 9223372036854775808 with
  | false=>simp [hb] at h
  | true=>
   simp only[hb, cond_true, zLs] at h
   have:=qH.1 hb
   exact ⟨h.symm, by omega, by omega⟩
theorem zmd (n:Int):isNeg n = decide (n < 0):=by
 cases n with
 | ofNat n=>simp [isNeg]
 | negSucc n=>simp [isNeg]
theorem zkv (n:Int):isZero n = decide (n = 0):=by
 cases n with
 | ofNat n=>cases n with
  | zero=>rfl
  | succ n=>rw [eq_comm]; show decide _ = false; rw [decide_eq_false_iff_not]; show ¬ ((n + 1:Nat):Int) = 0; omega
 | negSucc n=>simp [isZero]
theorem zrM {op:BinOp} {f:Int -> Int -> Option Value} (hg:sgI op = .mk f) {p q:Int} {v:Value} (h:f p q = some v) {T:TypeId} (w:World):(binOp op T (.int .i64 p) (.int .i64 q)).run P w = .ok v w /\ v.oneCell' = true:=by
  cases op <;> simp only[sgI, SgI.mk.injEq] at hg <;> subst hg <;> simp only[zLs, reduceCtorEq] at h
  · obtain ⟨rfl, h1, h2⟩:=zeA h; exact ⟨by simp [binOp, Op.intArith, Av.wrap_i64 h1 h2], rfl⟩
  · obtain ⟨rfl, h1, h2⟩:=zeA h; exact ⟨by simp [binOp, Op.intArith, Av.wrap_i64 h1 h2], rfl⟩
  · obtain ⟨rfl, h1, h2⟩:=zeA h; exact ⟨by simp [binOp, Op.intArith, Av.wrap_i64 h1 h2], rfl⟩
  all_goals
    subst h
    refine ⟨?_, rfl⟩
    simp only[binOp, Op.intCmp, zmd, zkv, Sem.run_pure, ne_eq, not_true, if_false]
    first
      | (by_cases hh : p = q
         · subst hh; simp
         · have:¬ p - q = 0:=by omega
           simp [hh, this])
      | (congr 2; by_cases h1:p - q < 0 <;> by_cases h2:q - p < 0 <;> simp [h1, h2] <;> omega)
theorem znf {fr:Fr} {M:Mem} {nx:Nat} {op:BinOp} {T U:TypeId} {x y:Operand} {v:VV} {M':Mem} {nx':Nat} (ho:o.op = .binOp op T x y U) (h:zoO P fr M nx o (sgI op) op T x y = some (v, M', nx')):OpS P lim fr M nx o v M' nx':=by
 unfold zoO at h
 split at h
 rename_i f hg
 split at h
 ·
  rename_i p q hx hy
  split at h
  ·
   rename_i c hc
   simp only[zLs, zLp] at h
   obtain ⟨rfl, rfl, rfl⟩:=h
   refine qQ fun B n ρ w a hm hf=>?_
   have h1:=zUA hf hx
   have h2:=zUA hf hy
   simp only[VRel] at h1 h2
   obtain ⟨h3, h4⟩:=zrM (P:=P) hg hc (T:=T) w
   refine ⟨c, ?_, by simp only[VRel]; exact ⟨trivial, h4⟩⟩
   have hq:(eqGuard op T x y (.int .i64 p) (.int .i64 q)).run P w = .ok () w:=by
    unfold eqGuard; split <;> rfl
   simp [execOp, ho, h1.1, h2.1, hq, h3]
  ·
   exact wB h
 ·
  rcases yg h with h | h
  ·
   exact wB h
  ·
   exact zeG ho h
theorem zbY {f:Nat -> Fr -> Mem -> Nat -> jU} (h:sgE P drt o = .plain f) {fr:Fr} {M:Mem} {nx:Nat} {v:VV} {M':Mem} {nx':Nat} (hf:f lim fr M nx = some (v, M', nx')):OpS P lim fr M nx o v M' nx' /\ ∀ c, o.op ≠ .defer c:=by
 unfold sgE at h
 split at h <;> simp only[SgE.plain.injEq, reduceCtorEq] at h <;> subst h <;> rename_i ho
 ·
  exact ⟨zb5 (.inl ho) hf, by simp [ho]⟩
 ·
  exact ⟨zb5 (.inr ho) hf, by simp [ho]⟩
 ·
  exact ⟨zgO ho hf, by simp [ho]⟩
 ·
  exact ⟨zeH ho hf, by simp [ho]⟩
 ·
  exact ⟨ziM ho hf, by simp [ho]⟩
 ·
  exact ⟨zgM ho hf, by simp [ho]⟩
 ·
  exact ⟨zeU ho hf, by simp [ho]⟩
 ·
  exact ⟨zbt ho hf, by simp [ho]⟩
 ·
  exact ⟨zbU ho hf, by simp [ho]⟩
 ·
  exact ⟨zco ho hf, by simp [ho]⟩
 ·
  exact ⟨zdl ho hf, by simp [ho]⟩
 ·
  exact ⟨znf ho hf, by simp [ho]⟩
 ·
  exact ⟨zgH ho hf, by simp [ho]⟩
 ·
  refine ⟨zpz hf, fun c hc=>?_⟩
  simp [zqA, hc] at hf
theorem zbR {f:Rec -> Nat -> Fr -> Mem -> Nat -> Option (OX × Mem × Nat)} {dirty:Fr -> Bool} (hr:zao P rec) (h:sgE P drt o = .call f dirty) {s:St} {out:OX} {M':Mem} {nx':Nat} (hf:f rec lim s.fr s.M s.nx = some (out, M', nx')):OpT P lim o s out { s with M:=M', nx:=nx' }:=by
 unfold sgE at h
 split at h <;> simp only[SgE.call.injEq, reduceCtorEq] at h
 rename_i fop args tys ho
 obtain ⟨h, _⟩:=h
 subst h
 simp only at hf
 split at hf
 ·
  rename_i g a b vs h1 h2
  split at hf
  ·
   rename_i x M1 nx1 h3
   simp only[zLs, zLp] at hf
   obtain ⟨rfl, rfl, rfl⟩:=hf
   obtain ⟨he, hc⟩:=hr _ _ _ h3
   exact znN ho he h1 h2 hc
  ·
   cases hf
 ·
  rename_i l vs h1 h2
  split at hf
  ·
   rename_i x M1 nx1 h3
   simp only[zLs, zLp] at hf
   obtain ⟨rfl, rfl, rfl⟩:=hf
   exact zmB ho h1 h2 (hr _ _ _ h3)
  ·
   cases hf
 ·
  cases hf
theorem zh2 {f:St -> Option (OX × St)} (h:sgE P drt o = .oth f) {s s1:St} {out:OX} (hf:f s = some (out, s1)):OpT P lim o s out s1:=by
 unfold sgE at h
 split at h <;> simp only[SgE.oth.injEq, reduceCtorEq] at h <;> subst h
 ·
  rename_i args tys ho
  simp only at hf
  split at hf
  ·
   rename_i v hv
   simp only[zLs, zLp] at hf
   obtain ⟨rfl, rfl⟩:=hf
   exact zjI ho hv
  ·
   rename_i hv
   simp only[zLs, zLp] at hf
   obtain ⟨rfl, rfl⟩:=hf
   exact zhD ho hv
  ·
   cases hf
 ·
  rename_i fop args tys ho
  simp only at hf
  by_cases hrn:s.rnd = true
  ·
   rw [hrn] at hf; simp at hf
  ·
   have hrn:s.rnd = false:=by simpa using hrn
   have hrn2:=hrn
   rw [hrn] at hf
   simp only[cond_false] at hf
   split at hf
   ·
    rename_i g a b vs h1 h2
    simp only[zLs, zLp] at hf
    obtain ⟨rfl, rfl⟩:=hf
    have:=zl1 (P:=P) (lim:=lim) ho hrn h1 h2
    simp only[hrn] at this
    exact this
   ·
    cases hf
 ·
  rename_i x ho
  simp only at hf
  split at hf
  ·
   rename_i T y h1
   simp only[zLs, zLp] at hf
   obtain ⟨rfl, rfl⟩:=hf
   exact zmN ho h1
  ·
   cases hf
theorem zlf (hr:zao P rec) {s s1:St} {out:OX} (h:zrK rec lim (sgE P drt o) s = some (out, s1)):OpT P lim o s out s1:=by
 unfold zrK at h
 cases hE:sgE P drt o with
 | plain f=>
  rw [hE] at h
  simp only at h
  split at h
  ·
   rename_i v M' nx' hf
   cases hb:Nat.ble s.nx nx' with
   | false=>rw [hb] at h; simp at h
   | true=>
    rw [hb] at h
    simp only[cond_true, zLs, zLp] at h
    obtain ⟨rfl, rfl⟩:=h
    obtain ⟨h1, h2⟩:=zbY hE hf
    exact zca (zLb hb) h2 h1
  ·
   cases h
 | call f dirty=>
  rw [hE] at h
  simp only at h
  split at h
  ·
   rename_i x M' nx' hf
   simp only[zLs, zLp] at h
   obtain ⟨rfl, rfl⟩:=h
   exact zbR hr hE hf
  ·
   cases h
 | oth f=>rw [hE] at h; exact zh2 hE h
theorem zb2 (hr:zao P rec) {fr:Fr} {M:Mem} {nx:Nat} {v:VV} {M':Mem} {nx':Nat} (h:zdH rec (sgE P drt o) fr M nx = some (v, M', nx')) (s:St):OpT P nx o { s with fr:=fr, M:=M, nx:=nx } (.val v) { s with fr:=fr, M:=M', nx:=nx' }:=by
 unfold zdH at h
 cases hE:sgE P drt o with
 | plain f=>
  rw [hE] at h
  simp only at h
  split at h
  ·
   rename_i v' M1 nx1 hf
   cases hb:Nat.ble nx nx1 with
   | false=>rw [hb] at h; simp at h
   | true=>
    rw [hb] at h
    simp only[cond_true, zLs, zLp] at h
    obtain ⟨rfl, rfl, rfl⟩:=h
    obtain ⟨h1, h2⟩:=zbY hE hf
    exact zca (s:={ s with fr:=fr, M:=M, nx:=nx }) (zLb hb) h2 h1
  ·
   cases h
 | call f dirty=>
  rw [hE] at h
  simp only at h
  cases hd:dirty fr with
  | true=>rw [hd] at h; simp at h
  | false=>
   rw [hd] at h
   simp only[cond_false] at h
   split at h
   ·
    rename_i v' M1 nx1 hf
    simp only[zLs, zLp] at h
    obtain ⟨rfl, rfl, rfl⟩:=h
    exact zbR (s:={ s with fr:=fr, M:=M, nx:=nx }) hr hE hf
   ·
    cases h
 | oth f=>rw [hE] at h; cases h
theorem zm4 (hr:zao P rec) {fr:Fr} {M:Mem} {nx:Nat} {v:VV} {M':Mem} {nx':Nat} (h:zoh rec lim (sgE P drt o) fr M nx = some (v, M', nx')) (s:St):OpT P lim o { s with fr:=fr, M:=M, nx:=nx } (.val v) { s with fr:=fr, M:=M', nx:=nx' }:=by
 unfold zoh at h
 cases hE:sgE P drt o with
 | plain f=>
  rw [hE] at h
  simp only at h
  split at h
  ·
   rename_i v' M1 nx1 hf
   cases hb:Nat.ble nx nx1 with
   | false=>rw [hb] at h; simp at h
   | true=>
    rw [hb] at h
    simp only[cond_true, zLs, zLp] at h
    obtain ⟨rfl, rfl, rfl⟩:=h
    obtain ⟨h1, h2⟩:=zbY hE hf
    exact zca (s:={ s with fr:=fr, M:=M, nx:=nx }) (zLb hb) h2 h1
  ·
   cases h
 | call f dirty=>
  rw [hE] at h
  simp only at h
  split at h
  ·
   rename_i v' M1 nx1 hf
   simp only[zLs, zLp] at h
   obtain ⟨rfl, rfl, rfl⟩:=h
   exact zbR (s:={ s with fr:=fr, M:=M, nx:=nx }) hr hE hf
  ·
   cases h
 | oth f=>rw [hE] at h; cases h
theorem zbI {ops:Array Oper} {fr:Fr} {b:Bool} (h:zgB (sgW ops o) fr = some b):yl ops fr o = some b:=by
 unfold zgB sgW at h
 unfold yl
 cases hg:o.guard with
 | none=>rw [hg] at h; simpa using h
 | some p=>
  obtain ⟨j, want⟩:=p
  rw [hg] at h
  simp only at h ⊢
  cases hj:ops[j]? with
  | none=>rw [hj] at h; simpa using h
  | some g=>
   rw [hj] at h
   simp only at h ⊢
   cases hd:g.dst with
   | none=>rw [hd] at h; simpa using h
   | some t=>
    rw [hd] at h
    simp only at h ⊢
    split at h
    ·
     rename_i c hc; rw [hc]; exact h
    ·
     rename_i hc; rw [hc]; exact h
    ·
     cases h
theorem zch {fr fr':Fr} {n:Nat} {dst:Option Nat} {v:VV} (h:zcM fr n dst v = some fr'):xE n dst = true /\ fr' = zdS fr dst v:=by
 unfold zcM at h
 cases dst with
 | none=>simp only[zLs] at h; exact ⟨rfl, h.symm⟩
 | some d=>
  simp only at h
  cases hb:Nat.blt d n && Nat.blt d 512 with
  | false=>rw [hb] at h; simp at h
  | true=>
   rw [hb] at h
   simp only[cond_true, zLs] at h
   exact ⟨hb, h.symm⟩
theorem zcV (hr:zao P rec) {ops:Array Oper}:∀ (l:List Oper) (k:Nat) (s s':St) (e:XE), (∀ j, l[j]? = ops[k + j]?) -> ziU rec lim (zho P drt ops l) s = some (e, s') -> TS P lim [.inRegion ops (List.range' k l.length)] s e s'
 | [], k, s, s', e, _, h=>by
  simp only[zho, ziU, zLs, zLp] at h
  obtain ⟨rfl, rfl⟩:=h
  exact TS.opEnd
 | o :: l, k, s, s', e, hl, h=>by
  have h0:ops[k]? = some o:=by simpa using (hl 0).symm
  have hl':∀ j, l[j]? = ops[k + 1 + j]?:=fun j=>by have:=hl (j + 1); simpa [Nat.add_assoc, Nat.add_comm 1 j] using this
  have hstep:ziU rec lim (zho P drt ops (o :: l)) s = match zgB (sgW ops o) s.fr with
    | some true=>match sgE P drt o with
     | .plain f=>match f lim s.fr s.M s.nx with
      | some (v, M', nx')=>bif Nat.ble s.nx nx' then match zcM s.fr s.n o.dst v with
       | some fr'=>ziU rec lim (zho P drt ops l) { s with fr:=fr', M:=M', nx:=nx' }
       | none=>none else none
      | none=>none
     | .call f _=>match f rec lim s.fr s.M s.nx with
      | some (.val v, M', nx')=>match zcM s.fr s.n o.dst v with
       | some fr'=>ziU rec lim (zho P drt ops l) { s with fr:=fr', M:=M', nx:=nx' }
       | none=>none
      | some (.pan v, M', nx')=>some (.pan v, { s with M:=M', nx:=nx' })
      | none=>none
     | .oth f=>match f s with
      | some (.val v, s1)=>match zcM s1.fr s1.n o.dst v with
       | some fr'=>ziU rec lim (zho P drt ops l) { s1 with fr:=fr' }
       | none=>none
      | some (.pan v, s1)=>some (.pan v, s1)
      | none=>none
    | some false=>match zcM s.fr s.n o.dst (.tup []) with
     | some fr'=>ziU rec lim (zho P drt ops l) { s with fr:=fr' }
     | none=>none
    | none=>none:=by cases s; rfl
  rw [hstep] at h
  clear hstep
  rw [show (o :: l).length = l.length + 1 from rfl, List.range'_succ]
  split at h
  ·
   rename_i hw
   have hw:=zbI hw
   split at h
   ·
    rename_i f hE
    split at h
    ·
     rename_i v M' nx' hf
     cases hb:Nat.ble s.nx nx' with
     | false=>rw [hb] at h; simp at h
     | true=>
      rw [hb] at h
      simp only[cond_true] at h
      split at h
      ·
       rename_i fr' hp
       obtain ⟨hd, rfl⟩:=zch hp
       obtain ⟨h1, h2⟩:=zbY (lim:=lim) hE hf
       exact TS.opVal (s1:={ s with M:=M', nx:=nx' }) h0 hw hd (zca (M':=M') (nx':=nx') (zLb hb) h2 h1) (zcV hr l (k + 1) _ _ _ hl' h)
      ·
       cases h
    ·
     cases h
   ·
    rename_i f dirty hE
    split at h
    ·
     rename_i v M' nx' hf
     split at h
     ·
      rename_i fr' hp
      obtain ⟨hd, rfl⟩:=zch hp
      exact TS.opVal (s1:={ s with M:=M', nx:=nx' }) h0 hw hd (zbR hr hE hf) (zcV hr l (k + 1) _ _ _ hl' h)
     ·
      cases h
    ·
     rename_i v M' nx' hf
     simp only[zLs, zLp] at h
     obtain ⟨rfl, rfl⟩:=h
     exact TS.opPan h0 hw (zbR hr hE hf)
    ·
     cases h
   ·
    rename_i f hE
    split at h
    ·
     rename_i v s1 hf
     split at h
     ·
      rename_i fr' hp
      obtain ⟨hd, rfl⟩:=zch hp
      exact TS.opVal h0 hw hd (zh2 hE hf) (zcV hr l (k + 1) _ _ _ hl' h)
     ·
      cases h
    ·
     rename_i v s1 hf
     simp only[zLs, zLp] at h
     obtain ⟨rfl, rfl⟩:=h
     exact TS.opPan h0 hw (zh2 hE hf)
    ·
     cases h
  ·
   rename_i hw
   have hw:=zbI hw
   split at h
   ·
    rename_i fr' hp
    obtain ⟨hd, rfl⟩:=zch hp
    exact TS.opSkip h0 hw hd (zcV hr l (k + 1) _ _ _ hl' h)
   ·
    cases h
  ·
   cases h
end
end
end Go.Bv
end
section
namespace Go.Bv
open Go.RowKit
noncomputable section
def ext {α:Type} (f:Nat -> α) (j:Nat) (x:α):Nat -> α:=fun i=>if i <= j then f i else x
theorem wG {α:Type} {f:Nat -> α} {j i:Nat} {x:α} (h:i <= j):ext f j x i = f i:=by simp [ext, h]
theorem yx {α:Type} {f:Nat -> α} {j:Nat} {x:α}:ext f j x (j + 1) = x:=by
 have:¬ j + 1 <= j:=by omega
 simp [ext, this]
def ziT (f:Nat -> VV) (j:Nat) (x:VV):Nat -> VV:=fun i=>if i = j then x else f i
section
variable {P:Program} {lim:Nat} {drt:FuncId -> Bool} {rec:Rec} {ops:Array Oper}
def zds (f:Nat -> Bool) (j:Nat) (x:Bool):Nat -> Bool:=fun i=>if i = j then x else f i
theorem ya {f:Nat -> Bool} {j i:Nat} {x:Bool} (h:i ≠ j):zds f j x i = f i:=by simp [zds, h]
theorem kS {f:Nat -> Bool} {j:Nat} {x:Bool}:zds f j x j = x:=by simp [zds]
theorem StepQ.ext {s:St} {k j i:Nat} {vf:Nat -> VV} {ff:Nat -> Fr} {Mf:Nat -> Mem} {nf cf kb:Nat -> Nat} {mr ch:Nat -> Bool} {v:VV} {fr:Fr} {M:Mem} {nx cm kx:Nat} {mx cx:Bool} (hk:k <= i) (hi:i < j) (hkb:kb i <= i) (hkx:kx = j + 1 -> cx = true)
  (hfl:cx = true -> (maskAt ops j).testBit i = false -> mr i = false -> ∀ o, ops[i]? = some o -> yl ops (mini (ff i) (o.looksAt ops)) o = some true -> Float P o { s with fr:=mini (ff i) (o.looksAt ops) } (vf i) M nx) (h:StepQ P lim ops s k j vf ff Mf nf cf kb mr ch i):
  StepQ P lim ops s k (j + 1) (ziT vf j v) (Bv.ext ff j fr) (Bv.ext Mf j M) (Bv.ext nf j nx) (Bv.ext cf j cm) (Bv.ext kb j kx) (zds mr j mx) (zds ch j cx) i:=by
 unfold StepQ at h ⊢
 have e1:i <= j:=by omega
 have e2:i + 1 <= j:=by omega
 have e3:kb i <= j:=by omega
 have e4:ziT vf j v i = vf i:=by unfold ziT; rw [if_neg (by omega)]
 have e5:zds mr j mx i = mr i:=ya (by omega)
 have e6:zds ch j cx i = ch i:=ya (by omega)
 simp only[wG e1, wG e2, wG e3, e4, e5, e6]
 obtain ⟨o, l, a1, a2, a3, a4, a5, a6, a7⟩:=h
 refine ⟨o, l, a1, a2, a3, a4, fun hm i' h1 h2 h3=>a5 hm i' h1 h2 ?_, fun hm i' h1 h2 h3=>a6 hm i' h1 h2 ?_, ?_⟩
 ·
  rw [ya (by omega)] at h3; exact h3
 ·
  rw [ya (by omega)] at h3; exact h3
 ·
  rcases a7 with a7 | ⟨b1, b2, b3, b4, b5, b6, b7, b8⟩ | a7 | a7
  ·
   exact .inl a7
  ·
   refine .inr (.inl ⟨b1, b2, b3, b4, b5, b6, b7, fun b c1 c2 c3 c4 c5=>?_⟩)
   by_cases eb:b = j + 1
   ·
    subst eb
    rw [yx] at c3
    have hcx:=hkx c3
    have:=hfl hcx (c5 j (by omega) (by omega) (by rw [kS]; exact hcx)) b2 o a1 (by rw [← a2.2]; exact b1)
    rw [yx, yx, a2.2]; exact this
   ·
    have hbj:b <= j:=by omega
    rw [wG hbj] at c3 ⊢
    rw [wG hbj]
    exact b8 b c1 hbj c3 (fun c d1 d2 d3=>c4 c d1 (by omega) (by rw [ya (by omega)]; exact d3)) (fun c d1 d2 d3=>c5 c d1 d2 (by rw [ya (by omega)]; exact d3))
  ·
   exact .inr (.inr (.inl a7))
  ·
   exact .inr (.inr (.inr a7))
theorem zrQ {a b:Value} (h:eqC a b = true):a = b:=by
 unfold eqC at h
 split at h
 ·
  rename_i a b
  have:a - b = 0:=by
   unfold isZero at h
   split at h
   ·
    rename_i e; rw [e]; rfl
   ·
    cases h
  have:a = b:=by omega
  rw [this]
 ·
  rfl
 ·
  rfl
 ·
  cases h
theorem zfp {f:VV -> VV -> Bool} (hf:∀ a b, f a b = true -> a = b):∀ {a b:List VV}, eqL f a b = true -> a = b
 | [], [], _=>rfl
 | x :: l, y :: m, h=>by
  simp only[eqL, zLa] at h
  rw [hf _ _ h.1, zfp hf h.2]
theorem zlk:∀ (n:Nat) (a b:VV), zi2 n a b = true -> a = b
 | 0, _, _, h=>by simp [zi2] at h
 | n + 1, a, b, h=>by
  have ih:=zlk n
  unfold zi2 at h
  split at h
  ·
   rw [zrQ h]
  ·
   simp only[zLa, qZ] at h; obtain ⟨rfl, rfl⟩:=h; rfl
  ·
   simp only[zLa, qZ] at h; obtain ⟨rfl, rfl, rfl, rfl, rfl⟩:=h; rfl
  ·
   simp only[zLa, qZ] at h; obtain ⟨rfl, rfl, rfl, rfl⟩:=h; rfl
  ·
   rw [qZ.1 h]
  ·
   simp only[zLa, qZ] at h
   rw [h.1, zfp ih h.2.1, zfp ih h.2.2]
  ·
   rw [zfp ih h]
  ·
   rw [zfp ih h]
  ·
   cases h
theorem zre {a b:VV} (h:eqV a b = true):a = b:=zlk 5 a b h
theorem zin {o:Oper} {mi:Fr} {v:VV} {M:Mem} {nx:Nat} (hr:zao P rec) (h:zgF rec (sgE P drt o) mi v M nx = true) (s:St):∃ M', OpT P nx o { s with fr:=mi, M:=M, nx:=nx } (.val v) { s with fr:=mi, M:=M', nx:=nx }:=by
 unfold zgF at h
 split at h
 ·
  rename_i v' M' nx' hq
  simp only[zLa, qZ] at h
  obtain ⟨rfl, h2⟩:=h
  rw [← zre h2]
  exact ⟨M', zb2 hr hq s⟩
 ·
  cases h
theorem zgV {M:Mem} {nx mask i:Nat} {f:SgE} {mi:Fr} {v:VV}:∀ {fl:List Flt}, zgx rec M nx mask fl = true -> Flt.mk i f mi v ∈ fl -> mask.testBit i = false -> zgF rec f mi v M nx = true
 | .mk i' f' mi' v' :: l, h, hm, hb=>by
  simp only[zgx, zLa] at h
  rcases List.mem_cons.1 hm with e | hm
  ·
   injection e with e1 e2 e3 e4
   subst e1; subst e2; subst e3; subst e4
   have h1:=h.1
   rw [hb] at h1; exact h1
  ·
   exact zgV h.2 hm hb
def HdOK (k0:Nat) (Mf:Nat -> Mem) (kb:Nat -> Nat) (ch:Nat -> Bool):Nat -> List Hd -> Prop
 | b, []=>b = k0
 | b, .mk c M :: hs=>b = c + 1 /\ ch c = true /\ ∃ b', k0 <= b' /\ b' <= c /\ Mf b' = M /\ (∀ x, b' < x -> x <= c -> kb x ≠ x) /\ HdOK k0 Mf kb ch b' hs
theorem HdOK.le {k0:Nat} {Mf:Nat -> Mem} {kb:Nat -> Nat} {ch:Nat -> Bool} {b:Nat}:∀ {hs:List Hd}, HdOK k0 Mf kb ch b hs -> k0 <= b
 | [], h=>Nat.le_of_eq (Eq.symm h)
 | .mk _ _ :: _, ⟨h1, _, b', h2, h3, _⟩=>by omega
theorem HdOK.ext {k0 j:Nat} {Mf:Nat -> Mem} {kb:Nat -> Nat} {ch:Nat -> Bool} {M:Mem} {kx:Nat} {cx:Bool}:∀ {hs:List Hd} {b:Nat}, b <= j -> HdOK k0 Mf kb ch b hs -> HdOK k0 (Bv.ext Mf j M) (Bv.ext kb j kx) (zds ch j cx) b hs
 | [], _, _, h=>h
 | .mk c M :: hs, b, hb, ⟨h1, h2, b', h3, h4, h5, h6, h7⟩=>⟨h1, by rw [ya (by omega)]; exact h2, b', h3, h4, by rw [wG (by omega)]; exact h5, fun x x1 x2=>by rw [wG (by omega)]; exact h6 x x1 x2, h7.ext (by omega)⟩
theorem HdOK.find {k0 m:Nat} {Mf:Nat -> Mem} {kb:Nat -> Nat} {ch:Nat -> Bool} {f:SgE} {mi:Fr} {v:VV} {nx mask b0:Nat} (hb0:kb b0 = b0) (hk:k0 <= b0) (hc:∀ c, b0 <= c -> c < m -> ch c = true -> mask.testBit c = false):∀ {hs:List Hd} {b:Nat}, b <= m -> b0 < b -> HdOK k0 Mf kb ch b hs -> ze0 rec f mi v nx mask hs = true -> zgF rec f mi v (Mf b0) nx = true
 | [], b, _, h1, h2, _=>by
  have:b = k0:=h2
  omega
 | .mk c M :: hs, b, hm, h1, ⟨e1, e2, b', e3, e4, e5, e6, e7⟩, h3=>by
  simp only[ze0] at h3
  rw [hc c (by omega) (by omega) e2] at h3
  simp only[cond_false, zLa] at h3
  by_cases e:b0 = b'
  ·
   rw [e, e5]; exact h3.1
  ·
   rcases Nat.lt_or_ge b0 b' with h4 | h4
   ·
    exact HdOK.find hb0 hk hc (by omega) h4 e7 h3.2
   ·
    exact absurd hb0 (e6 b0 (by omega) (by omega))
theorem zm0 (s:St) (d:DS):zgw rec lim [] s d = some (.normal, s):=rfl
theorem zkK (g : Option (Option (Nat × Bool))) (dst : Option Nat) (f : SgE) (i : Nat) (looks : List Tmp) (ok : Bool) (mask : Nat) (cut pure flt : Bool) (l : List SgD) (s : St) (d : DS) :
    zgw rec lim (.mk g dst f i looks ok mask cut pure flt :: l) s d = bif ok then match zqI rec lim g f i mask cut pure flt (mini s.fr looks) s d with
          | some (.val v M nx d') => match zcM s.fr s.n dst v with
              | some fr'=>zgw rec lim l { s with fr:=fr', M:=M, nx:=nx } d'
              | none=>none
          | some (.hard v s1) => match zcM s1.fr s1.n dst v with
              | some fr'=>zgw rec lim l { s1 with fr:=fr' } (.mk s1.M 0 0 0 [] [])
              | none=>none
          | some (.pan v s1)=>some (.pan v, s1)
          | none=>none else none:=by cases s; rfl
theorem zdJ {a b:Nat} (h:Nat.beq (Nat.land a b) a = true):∀ i, a.testBit i = true -> b.testBit i = true:=fun i hi=>by
 have e:a &&& b = a:=qZ.1 h
 rw [← e, Nat.testBit_and, zLa] at hi
 exact hi.2
def zqT (P:Program) (drt:FuncId -> Bool) (rec:Rec) (lim:Nat) (ops:Array Oper) (s:St) (o:Oper) (l:List Tmp) (j:Nat) (v:VV) (M0:Mem) (cm mm cs:Nat) (fl:List Flt) (hs:List Hd) (M':Mem) (nx':Nat) (cm':Nat) (fl':List Flt) (hs':List Hd) (mx cx:Bool):Prop:=
  (∀ e, e ∈ fl -> e ∈ fl') /\ (cx = false -> hs' = hs) /\ (cx = true -> hs' = .mk j M0 :: hs /\ zgx rec M' nx' (maskAt ops j) fl = true) /\
  (mx = true -> ∀ i, cs.testBit i = true -> (maskAt ops j).testBit i = true) /\ (cx = true -> ∀ i, mm.testBit i = true -> (maskAt ops j).testBit i = true) /\
  ((yl ops (mini s.fr l) o = some false /\ v = .tup [] /\ mx = false /\ cx = false /\ M' = s.M /\ nx' = s.nx /\ cm' = cm) ∨
   (yl ops (mini s.fr l) o = some true /\ mx = false /\ cx = false /\ M' = s.M /\ nx' = s.nx /\ cm' = cm /\ ((∃ M'', OpT P s.nx o { s with fr:=mini s.fr l, M:=.lf, nx:=s.nx } (.val v) { s with fr:=mini s.fr l, M:=M'', nx:=s.nx }) ∨
     (Flt.mk j (sgE P drt o) (mini s.fr l) v ∈ fl' /\ (∃ M'', OpT P s.nx o { s with fr:=mini s.fr l, M:=M0, nx:=s.nx } (.val v) { s with fr:=mini s.fr l, M:=M'', nx:=s.nx }) /\ ze0 rec (sgE P drt o) (mini s.fr l) v s.nx (maskAt ops j) hs = true))) ∨
   (yl ops (mini s.fr l) o = some true /\ mx = true /\ cx = false /\ ∃ (q:Bool) (M'':Mem), (q = true -> ∀ i, cm.testBit i = true -> (maskAt ops j).testBit i = true) /\
    OpT P s.nx o { s with fr:=mini s.fr l, M:=bif q then s.M else M0, nx:=s.nx } (.val v) { s with fr:=mini s.fr l, M:=M'', nx:=nx' } /\
    ((nx' = s.nx /\ M' = s.M /\ cm' = cm) ∨ (s.nx < nx' /\ nx' < 16777215 /\ cm' = Nat.lor cm (Nat.shiftLeft 1 j) /\ ((q = true /\ M' = M'') ∨ M' = zbJ s.M M'' s.nx (nx' - s.nx))))) ∨
   (yl ops (mini s.fr l) o = some true /\ mx = true /\ cx = true /\ cm' = 0 /\ OpT P lim o { s with fr:=mini s.fr l, M:=s.M, nx:=s.nx } (.val v) { s with fr:=mini s.fr l, M:=M', nx:=nx' }))
theorem zhA (hr:zao P rec) {o:Oper} {j:Nat} {l:List Tmp} {cut flt:Bool} {s:St} {M0:Mem} {cm mm cs:Nat} {fl:List Flt} {hs:List Hd} {r:DR} (hw:yl ops (mini s.fr l) o = some true)
  (h:zod rec lim (sgW ops o) (sgE P drt o) j (maskAt ops j) cut flt (mini s.fr l) s (.mk M0 cm mm cs fl hs) = some r):
  (∃ v M' nx' M0' cm' mm' cs' fl' hs' mx cx, r = .val v M' nx' (.mk M0' cm' mm' cs' fl' hs') /\ zqT P drt rec lim ops s o l j v M0 cm mm cs fl hs M' nx' cm' fl' hs' mx cx /\ M0' = (bif cx then M' else M0) /\ (∀ i, mm'.testBit i = (mm.testBit i || (mx && decide (i = j)))) /\ (∀ i, cs'.testBit i = (cs.testBit i || (cx && decide (i = j))))) ∨
  (cut = true /\ yl ops s.fr o = some true /\ ((∃ v s1, r = .hard v s1 /\ OpT P lim o s (.val v) s1) ∨ ∃ v s1, r = .pan v s1 /\ OpT P lim o s (.pan v) s1)):=by
 unfold zod at h
 simp only at h
 split at h
 ·
  rename_i v hfe
  simp only[zLs] at h
  unfold zsy at hfe
  cases hg:flt && zsX (sgE P drt o) with
  | false=>rw [hg] at hfe; simp at hfe
  | true=>
   rw [hg] at hfe
   simp only[cond_true] at hfe
   split at hfe
   ·
    rename_i v' M' nx' hq
    cases hg2:Nat.beq nx' s.nx && ze0 rec (sgE P drt o) (mini s.fr l) v' s.nx (maskAt ops j) hs with
    | false=>rw [hg2] at hfe; simp at hfe
    | true=>
     rw [hg2] at hfe
     simp only[cond_true, zLs] at hfe
     simp only[zLa, qZ] at hg2
     obtain ⟨rfl, hg2⟩:=hg2
     subst hfe
     exact .inl ⟨v', s.M, s.nx, M0, cm, mm, cs, _, hs, false, false, h.symm, ⟨fun e he=>List.mem_cons_of_mem _ he, fun _=>rfl, (fun c=>by cases c), (fun c=>by cases c), (fun c=>by cases c), .inr (.inl ⟨hw, rfl, rfl, rfl, rfl, rfl, .inr ⟨List.mem_cons_self, ⟨M', zb2 hr hq s⟩, hg2⟩⟩)⟩, rfl, fun i=>by simp, fun i=>by simp⟩
   ·
    cases hfe
 cases hcs:Nat.beq (Nat.land cs (maskAt ops j)) cs with
 | false=>rw [hcs] at h; simp at h
 | true=>
  rw [hcs] at h
  simp only[cond_true] at h
  have hcs:=zdJ hcs
  split at h
  ·
   rename_i v M' nx' hq
   have hquiet:=zb2 hr hq s
   refine .inl ?_
   have hfull:Nat.beq (Nat.land cm (maskAt ops j)) cm = true -> ∀ i, cm.testBit i = true -> (maskAt ops j).testBit i = true:=fun hf=>zdJ hf
   cases hb:Nat.beq nx' s.nx with
   | true=>
    rw [hb] at h
    simp only[cond_true, zLs] at h
    have hb:=qZ.1 hb
    subst hb
    refine ⟨v, s.M, s.nx, M0, cm, _, cs, fl, hs, true, false, h.symm, ⟨fun _ he=>he, fun _=>rfl, (fun c=>by cases c), fun _=>hcs, (fun c=>by cases c), .inr (.inr (.inl ⟨hw, rfl, rfl, _, M', hfull, hquiet, .inl ⟨rfl, rfl, rfl⟩⟩))⟩, rfl, fun i=>by rw [zdr]; simp, fun i=>by simp⟩
   | false=>
    rw [hb] at h
    simp only[cond_false] at h
    cases hb2:Nat.blt nx' 16777215 with
    | false=>rw [hb2] at h; simp at h
    | true=>
     rw [hb2] at h
     simp only[cond_true, zLs] at h
     have hlt:s.nx < nx':=by
      have:=hquiet.1
      have h9:=zbz.1 hb
      simp only at this
      omega
     refine ⟨v, _, nx', M0, _, _, cs, fl, hs, true, false, h.symm, ⟨fun _ he=>he, fun _=>rfl, (fun c=>by cases c), fun _=>hcs, (fun c=>by cases c), .inr (.inr (.inl ⟨hw, rfl, rfl, Nat.beq (Nat.land cm (maskAt ops j)) cm, M', hfull, hquiet, .inr ⟨hlt, qH.1 hb2, rfl, ?_⟩⟩))⟩, rfl, fun i=>by rw [zdr]; simp, fun i=>by simp⟩
     cases Nat.beq (Nat.land cm (maskAt ops j)) cm with
     | true=>exact .inl ⟨rfl, rfl⟩
     | false=>exact .inr rfl
  ·
   cases cut with
   | true=>
    simp only[cond_true] at h
    split at h
    ·
     rename_i hw2
     refine .inr ⟨rfl, zbI hw2, ?_⟩
     split at h
     ·
      rename_i v s1 ha
      simp only[zLs] at h
      exact .inl ⟨v, s1, h.symm, zlf hr ha⟩
     ·
      rename_i v s1 ha
      simp only[zLs] at h
      exact .inr ⟨v, s1, h.symm, zlf hr ha⟩
     ·
      cases h
    ·
     cases h
   | false=>
    simp only[cond_false] at h
    cases hm:Nat.beq (Nat.land mm (maskAt ops j)) mm with
    | false=>rw [hm] at h; simp at h
    | true=>
     rw [hm] at h
     simp only[cond_true] at h
     split at h
     ·
      rename_i v M' nx' ht
      cases hfo:zgx rec M' nx' (maskAt ops j) fl with
      | false=>rw [hfo] at h; simp at h
      | true=>
      rw [hfo] at h
      simp only[cond_true, zLs] at h
      exact .inl ⟨v, M', nx', M', 0, _, _, fl, _, true, true, h.symm, ⟨fun _ he=>he, (fun c=>by cases c), fun _=>⟨rfl, hfo⟩, fun _=>hcs, fun _=>zdJ hm, .inr (.inr (.inr ⟨hw, rfl, rfl, rfl, zm4 hr ht s⟩))⟩, rfl, fun i=>by rw [zdr]; simp, fun i=>by rw [zdr]; simp⟩
     ·
      cases h
theorem zh0 (hr:zao P rec) {o:Oper} {j:Nat} {l:List Tmp} {cut pure flt:Bool} {s:St} {M0:Mem} {cm mm cs:Nat} {fl:List Flt} {hs:List Hd} {r:DR}
  (h:zqI rec lim (sgW ops o) (sgE P drt o) j (maskAt ops j) cut pure flt (mini s.fr l) s (.mk M0 cm mm cs fl hs) = some r):
  (∃ v M' nx' M0' cm' mm' cs' fl' hs' mx cx, r = .val v M' nx' (.mk M0' cm' mm' cs' fl' hs') /\ zqT P drt rec lim ops s o l j v M0 cm mm cs fl hs M' nx' cm' fl' hs' mx cx /\ M0' = (bif cx then M' else M0) /\ (∀ i, mm'.testBit i = (mm.testBit i || (mx && decide (i = j)))) /\ (∀ i, cs'.testBit i = (cs.testBit i || (cx && decide (i = j))))) ∨
  (cut = true /\ yl ops s.fr o = some true /\ ((∃ v s1, r = .hard v s1 /\ OpT P lim o s (.val v) s1) ∨ ∃ v s1, r = .pan v s1 /\ OpT P lim o s (.pan v) s1)):=by
 unfold zqI at h
 split at h
 ·
  rename_i hw
  have hw:=zbI hw
  simp only[zLs] at h
  exact .inl ⟨.tup [], s.M, s.nx, M0, cm, mm, cs, fl, hs, false, false, h.symm, ⟨fun _ he=>he, fun _=>rfl, (fun c=>by cases c), (fun c=>by cases c), (fun c=>by cases c), .inl ⟨hw, rfl, rfl, rfl, rfl, rfl, rfl⟩⟩, rfl, fun i=>by simp, fun i=>by simp⟩
 ·
  rename_i hw
  have hw:=zbI hw
  cases pure with
  | false=>exact zhA hr hw h
  | true=>
   simp only[cond_true] at h
   split at h
   ·
    rename_i v M' nx' hq
    cases hb:Nat.beq nx' s.nx with
    | false=>rw [hb] at h; exact zhA hr hw h
    | true=>
     rw [hb] at h
     simp only[cond_true, zLs] at h
     have hb:=qZ.1 hb
     subst hb
     exact .inl ⟨v, s.M, s.nx, M0, cm, mm, cs, fl, hs, false, false, h.symm, ⟨fun _ he=>he, fun _=>rfl, (fun c=>by cases c), (fun c=>by cases c), (fun c=>by cases c), .inr (.inl ⟨hw, rfl, rfl, rfl, rfl, rfl, .inl ⟨M', zb2 hr hq s⟩⟩)⟩, rfl, fun i=>by simp, fun i=>by simp⟩
   ·
    exact zhA hr hw h
 ·
  cases h
def FlI (P:Program) (drt:FuncId -> Bool) (fl:List Flt) (o:Oper) (i:Nat) (s:St) (v:VV):Prop:=(∃ nn M'', OpT P nn o { s with M:=.lf, nx:=nn } (.val v) { s with M:=M'', nx:=nn }) ∨ Flt.mk i (sgE P drt o) s.fr v ∈ fl
theorem zeD (hr:zao P rec) (hu:upB ops = true) (hds:zcZ ops.toList 0 = true):∀ (l:List Oper) (j:Nat) (s s':St) (e:XE) (M0:Mem) (cm mm cs:Nat) (fl:List Flt) (hs:List Hd) (nx0 k0:Nat) (vf:Nat -> VV) (ff:Nat -> Fr) (Mf:Nat -> Mem) (nf cf kb:Nat -> Nat) (mr ch:Nat -> Bool),
  (∀ i, l[i]? = ops[j + i]?) -> j + l.length = ops.size -> k0 <= j -> (∀ i, k0 <= i -> i < j -> StepQ P lim ops s k0 j vf ff Mf nf cf kb mr ch i) -> (∀ i, ch i = true -> mr i = true) -> (∀ i, i <= j -> kb i <= i) ->
  ff j = s.fr -> Mf j = s.M -> nf j = s.nx -> cf j = cm -> Mf (kb j) = M0 -> (∀ i, k0 <= i -> i < j -> mr i = true -> mm.testBit i = true) -> (∀ i, k0 <= i -> i < j -> ch i = true -> cs.testBit i = true) -> kb k0 = k0 -> cf k0 = 0 -> nf k0 = nx0 ->
  (∀ i, k0 <= i -> i < j -> mr i = false -> ∀ o, ops[i]? = some o -> yl ops (mini (ff i) (o.looksAt ops)) o = some true -> FlI P drt fl o i { s with fr:=mini (ff i) (o.looksAt ops) } (vf i)) -> HdOK k0 Mf kb ch (kb j) hs -> (∀ x, kb j < x -> x <= j -> kb x ≠ x) ->
  zgw rec lim (zl6 P drt ops j l) s (.mk M0 cm mm cs fl hs) = some (e, s') -> TSO P lim ops k0 { s with fr:=ff k0, M:=Mf k0, nx:=nx0 } e s'
 | [], j, s, s', e, M0, cm, mm, cs, fl, hs, nx0, k0, vf, ff, Mf, nf, cf, kb, mr, ch, hl, hlen, hk, hst, hcm, hkb, h1, h2, h3, h4, h5, h6, h7, h8, h9, h10, h11, h12, h13, h=>by
  simp only[zl6, zm0, zLs, zLp] at h
  obtain ⟨rfl, rfl⟩:=h
  obtain ⟨r, rfl⟩:∃ r, j = k0 + r:=⟨j - k0, by omega⟩
  simp only[List.length_nil, Nat.add_zero] at hlen
  refine zk1 (k:=k0) (r:=r) (vf:=vf) (ff:=ff) (Mf:=Mf) (nf:=nf) (cf:=cf) (kb:=kb) (mr:=mr) (ch:=ch) hst hcm hu hds rfl h9 h8 h10 rfl (by omega) (.inl hlen) ?_
  rw [h1, h2, h3]
  exact zo8 (by omega)
 | o :: l, j, s, s', e, M0, cm, mm, cs, fl, hs, nx0, k0, vf, ff, Mf, nf, cf, kb, mr, ch, hl, hlen, hk, hst, hcm, hkb, h1, h2, h3, h4, h5, h6, h7, h8, h9, h10, h11, h12, h13, h=>by
  have h0:ops[j]? = some o:=by simpa using (hl 0).symm
  have hl':∀ i, l[i]? = ops[j + 1 + i]?:=fun i=>by have:=hl (i + 1); simpa [Nat.add_assoc, Nat.add_comm 1 i] using this
  have hlen':j + 1 + l.length = ops.size:=by simp only[List.length_cons] at hlen; omega
  rw [show zl6 P drt ops j (o :: l) = .mk (sgW ops o) o.dst (sgE P drt o) j (o.looksAt ops) (ze7 ops j (o.looksAt ops)) (maskAt ops j) (zhn ops j) (znM o) (zsC ops j) :: zl6 P drt ops (j + 1) l from rfl, zkK] at h
  cases hok:ze7 ops j (o.looksAt ops) with
  | false=>rw [hok] at h; simp at h
  | true=>
   rw [hok] at h
   simp only[cond_true] at h
   have hle:k0 <= j + 1:=by omega
   have hkj:=hkb j (Nat.le_refl _)
   obtain ⟨r, hjr⟩:∃ r, j = k0 + r:=⟨j - k0, by omega⟩
   have back:zhn ops j = true -> ∀ e s', TSO P lim ops j s e s' -> TSO P lim ops k0 { s with fr:=ff k0, M:=Mf k0, nx:=nx0 } e s':=fun hc e s' ht=>by
    subst hjr
    refine zk1 (k:=k0) (r:=r) (vf:=vf) (ff:=ff) (Mf:=Mf) (nf:=nf) (cf:=cf) (kb:=kb) (mr:=mr) (ch:=ch) hst hcm hu hds rfl h9 h8 h10 rfl (by omega) (.inr hc) ?_
    rw [h1, h2, h3]; exact ht
   split at h
   ·
    rename_i v M' nx' d' hone
    split at h
    ·
     rename_i fr' hp
     obtain ⟨hd, rfl⟩:=zch hp
     rcases zh0 hr hone with ⟨v1, M1, nx1, M0', cm', mm', cs', fl', hs', mx, cx, he, hC, hM0, hmm, hcs⟩ | ⟨_, _, ⟨v1, s1, he, _⟩ | ⟨v1, s1, he, _⟩⟩
     ·
      simp only[DR.val.injEq] at he
      obtain ⟨rfl, rfl, rfl, rfl⟩:=he
      obtain ⟨q1, q2, q3, c1, c2, hC⟩:=hC
      have hmc:cx = true -> mx = true:=fun hc=>by
       rcases hC with ⟨_, _, _, c, _⟩ | ⟨_, _, c, _⟩ | ⟨_, _, c, _⟩ | ⟨_, c, _⟩
       ·
        rw [hc] at c; cases c
       ·
        rw [hc] at c; cases c
       ·
        rw [hc] at c; cases c
       ·
        exact c
      have ev:ziT vf j v j = v:=by simp [ziT]
      refine zeD hr hu hds l (j + 1) { s with fr:=zdS s.fr o.dst v, M:=M', nx:=nx' } s' e M0' cm' mm' cs' fl' hs' nx0 k0 (ziT vf j v) (ext ff j (zdS s.fr o.dst v)) (ext Mf j M') (ext nf j nx') (ext cf j cm') (ext kb j (bif cx then j + 1 else kb j)) (zds mr j mx) (zds ch j cx) hl' hlen' hle (fun i a b=>?_) (fun i hi=>?_) (fun i hi=>?_) yx yx yx yx ?_ (fun i a b c=>?_) (fun i a b c=>?_) (by rw [wG hk]; exact h8) (by rw [wG hk]; exact h9) (by rw [wG hk]; exact h10) (fun i a b hm o' ho' hw'=>?_) ?_ (fun x x1 x2=>?_) h |> fun z=>by rw [wG hk, wG hk] at z; exact z
      ·
       rcases Nat.lt_or_ge i j with c | c
       ·
        refine StepQ.ext a c (hkb i (by omega)) (fun e1=>?_) (fun e1 e2 e3 o' ho' hw'=>?_) (hst i a c)
        ·
         cases cx with
         | true=>rfl
         | false=>simp only[cond_false] at e1; omega
        ·
         rcases h11 i a c e3 o' ho' hw' with ⟨nn, M2, hop⟩ | hmem
         ·
          exact ⟨.lf, nn, M2, .inl rfl, hop⟩
         ·
          obtain ⟨M2, hop⟩:=zin hr (zgV (q3 e1).2 hmem e2) { s with fr:=mini (ff i) (o'.looksAt ops) }
          exact ⟨M', nx', M2, .inr ⟨rfl, Nat.le_refl _⟩, hop⟩
       ·
        have:i = j:=by omega
        subst this
        have x1:∀ {α:Type} {f:Nat -> α} {x:α}, ext f i x i = f i:=wG (Nat.le_refl _)
        refine ⟨o, _, h0, ⟨hok, rfl⟩, hd, by rw [yx, x1, h1, ev], fun hm i' a1 a2 a3=>?_, fun hm i' a1 a2 a3=>?_, ?_⟩
        ·
         rw [kS] at hm
         rw [ya (by omega)] at a3
         exact c1 hm i' (h7 i' a1 a2 a3)
        ·
         rw [kS] at hm
         rw [ya (by omega)] at a3
         exact c2 hm i' (h6 i' a1 a2 a3)
        ·
         have hmain:(mx = false -> cx = false -> ∀ P1:Prop, P1 -> P1):=fun _ _ _ x=>x
         have hflo:cx = false -> ((∃ M'', OpT P s.nx o { s with fr:=mini s.fr (o.looksAt ops), M:=.lf, nx:=s.nx } (.val v) { s with fr:=mini s.fr (o.looksAt ops), M:=M'', nx:=s.nx }) ∨
           (Flt.mk i (sgE P drt o) (mini s.fr (o.looksAt ops)) v ∈ fl' /\ (∃ M'', OpT P s.nx o { s with fr:=mini s.fr (o.looksAt ops), M:=M0, nx:=s.nx } (.val v) { s with fr:=mini s.fr (o.looksAt ops), M:=M'', nx:=s.nx }) /\ ze0 rec (sgE P drt o) (mini s.fr (o.looksAt ops)) v s.nx (maskAt ops i) hs = true)) ->
           ∀ b, k0 <= b -> b <= i + 1 -> ext kb i (bif cx then i + 1 else kb i) b = b -> (∀ c, b <= c -> c < i + 1 -> zds ch i cx c = true -> (maskAt ops i).testBit c = false) -> (∀ c, k0 <= c -> c < b -> zds ch i cx c = true -> (maskAt ops c).testBit i = false) ->
           Float P o { s with fr:=mini s.fr (o.looksAt ops) } v (ext Mf i M' b) (ext nf i nx' b):=fun hcx hor b d1 d2 d3 d4 d5=>by
          have hbi:b <= i:=by
           rcases Nat.lt_or_ge i b with d6 | d6
           ·
            have:b = i + 1:=by omega
            subst this
            rw [yx, hcx] at d3
            simp only[cond_false] at d3
            omega
           ·
            exact d6
          rw [wG hbi] at d3 ⊢
          rw [wG hbi]
          have hnb:nf b <= s.nx:=by
           rw [← h3]
           exact kw (k:=k0) (r:=r) (fun j' e1 e2=>by rw [← hjr] at e2 ⊢; exact hst j' e1 e2) d1 hbi (by omega)
          rcases hor with ⟨M2, hop⟩ | ⟨_, ⟨M2, hop⟩, hhd⟩
          ·
           exact ⟨.lf, s.nx, M2, .inl rfl, hop⟩
          ·
           rcases Nat.lt_trichotomy b (kb i) with d6 | d6 | d6
           ·
            have hsame:=HdOK.find (rec:=rec) (m:=i) d3 d1 (fun c e1 e2 e3=>d4 c e1 (by omega) (by rw [ya (by omega)]; exact e3)) hkj d6 h12 hhd
            obtain ⟨M3, hop3⟩:=zin hr hsame { s with fr:=mini s.fr (o.looksAt ops) }
            exact ⟨Mf b, s.nx, M3, .inr ⟨rfl, hnb⟩, hop3⟩
           ·
            subst d6
            rw [h5]
            exact ⟨M0, s.nx, M2, .inr ⟨rfl, hnb⟩, hop⟩
           ·
            exact absurd d3 (h13 b d6 hbi)
         clear hmain
         simp only[x1, yx, wG hkj, kS, ev, h1, h2, h3, h4, h5]
         rcases hC with ⟨a1, a2, a3, a4, a5, a6, a7⟩ | ⟨a1, a3, a4, a5, a6, a7, a8⟩ | ⟨a1, a2, a3, q, M2, a4, a5, a6⟩ | ⟨a1, a2, a3, a4, a5⟩
         ·
          exact .inl ⟨a1, a2, a3, a4, a5, a6, a7, by rw [a4]; rfl⟩
         ·
          exact .inr (.inl ⟨a1, a3, a4, a5, a6, a7, by rw [a4]; rfl, hflo a4 a8⟩)
         ·
          exact .inr (.inr (.inl ⟨a1, a2, a3, by rw [a3]; rfl, q, M2, a4, a5, a6⟩))
         ·
          exact .inr (.inr (.inr ⟨a1, a2, a3, by rw [a3]; rfl, a4, a5⟩))
      ·
       by_cases e1:i = j
       ·
        subst e1; rw [kS] at hi ⊢; exact hmc hi
       ·
        rw [ya e1] at hi ⊢; exact hcm i hi
      ·
       by_cases e1:i = j + 1
       ·
        subst e1
        rw [yx]
        cases cx <;> simp only[cond_true, cond_false] <;> omega
       ·
        rw [wG (by omega)]; exact hkb i (by omega)
      ·
       rw [yx, hM0]
       cases cx with
       | true=>simp only[cond_true]; exact yx
       | false=>simp only[cond_false]; rw [wG hkj, h5]
      ·
       rw [hmm i]
       by_cases e1:i = j
       ·
        subst e1; rw [kS] at c; rw [c]; simp
       ·
        rw [ya e1] at c; rw [h6 i a (by omega) c]; rfl
      ·
       rw [hcs i]
       by_cases e1:i = j
       ·
        subst e1; rw [kS] at c; rw [c]; simp
       ·
        rw [ya e1] at c; rw [h7 i a (by omega) c]; rfl
      ·
       by_cases e1:i = j
       ·
        subst e1
        rw [h0] at ho'; injection ho' with ho'; subst ho'
        rw [kS] at hm
        rw [wG (Nat.le_refl _), h1] at hw' ⊢
        rw [ev]
        rcases hC with ⟨a1, _⟩ | ⟨_, _, _, _, _, _, a8⟩ | ⟨_, a2, _⟩ | ⟨_, a2, _⟩
        ·
         rw [a1] at hw'; cases hw'
        ·
         rcases a8 with ⟨M2, hop⟩ | ⟨hmem, _⟩
         ·
          exact .inl ⟨_, M2, hop⟩
         ·
          exact .inr hmem
        ·
         rw [hm] at a2; cases a2
        ·
         rw [hm] at a2; cases a2
       ·
        rw [ya e1] at hm
        rw [wG (by omega)] at hw' ⊢
        have e4:ziT vf j v i = vf i:=by unfold ziT; rw [if_neg e1]
        rw [e4]
        exact (h11 i a (by omega) hm o' ho' hw').imp id fun hmem=>q1 _ hmem
      ·
       rw [yx]
       cases cx with
       | true=>
        simp only[cond_true]
        rw [(q3 rfl).1]
        exact ⟨rfl, kS, kb j, h12.le, hkj, by rw [wG hkj, h5], fun x x1 x2=>by rw [wG x2]; exact h13 x x1 x2, h12.ext hkj⟩
       | false=>
        simp only[cond_false]
        rw [q2 rfl]
        exact h12.ext hkj
      ·
       rw [yx] at x1
       cases cx with
       | true=>simp only[cond_true] at x1; omega
       | false=>
        simp only[cond_false] at x1
        by_cases e1:x = j + 1
        ·
         subst e1; rw [yx]; simp only[cond_false]; omega
        ·
         rw [wG (by omega)]; exact h13 x x1 (by omega)
     ·
      cases he
     ·
      cases he
    ·
     cases h
   ·
    rename_i v s1 hone
    split at h
    ·
     rename_i fr' hp
     obtain ⟨hd, rfl⟩:=zch hp
     rcases zh0 hr hone with ⟨v1, M1, nx1, M0', cm', mm', cs', fl', hs', mx, cx, he, _⟩ | ⟨hc, hw2, ⟨v1, s2, he, hop⟩ | ⟨v1, s2, he, _⟩⟩
     ·
      cases he
     ·
      simp only[DR.hard.injEq] at he
      obtain ⟨rfl, rfl⟩:=he
      refine back hc e s' (zpa hu hc h0 hw2 hd hop ?_)
      exact zeD hr hu hds l (j + 1) { s1 with fr:=zdS s1.fr o.dst v } s' e s1.M 0 0 0 [] [] s1.nx (j + 1) vf (fun _=>zdS s1.fr o.dst v) (fun _=>s1.M) (fun _=>s1.nx) (fun _=>0) (fun i=>i) (fun _=>false) (fun _=>false) hl' hlen' (Nat.le_refl _) (fun i a b=>by omega) (fun i c=>c) (fun i _=>Nat.le_refl _) rfl rfl rfl rfl rfl (fun i a b=>by omega) (fun i a b=>by omega) rfl rfl rfl (fun i a b=>by omega) rfl (fun x x1 x2=>by omega) h
     ·
      cases he
    ·
     cases h
   ·
    rename_i v s1 hone
    rcases zh0 hr hone with ⟨v1, M1, nx1, M0', cm', mm', cs', fl', hs', mx, cx, he, _⟩ | ⟨hc, hw2, ⟨v1, s2, he, _⟩ | ⟨v1, s2, he, hop⟩⟩
    ·
     cases he
    ·
     cases he
    ·
     simp only[DR.pan.injEq] at he
     obtain ⟨rfl, rfl⟩:=he
     simp only[zLs, zLp] at h
     obtain ⟨rfl, rfl⟩:=h
     exact back hc _ _ (zqE hu hc h0 hw2 hop)
   ·
    cases h
end
end
end Go.Bv
end
section
namespace Go.Bv
open Go.RowKit
noncomputable section
section
variable {P:Program} {lim:Nat} {drt:FuncId -> Bool} {orc:FuncId -> List VV -> Mem -> Option VV} {rec:Rec}
theorem zrN (hr:zao P rec) {f:Operand} {ps:Array Tmp} {as bo:Code} {s:St} {r:Res} (h:rfE rec lim f ps as bo s = some r):∃ e s', r = .code e s' /\ TS P lim [.code (.rangeFunc f ps as bo)] s e s':=by
 unfold rfE at h
 by_cases hrn:s.rnd = true
 ·
  rw [hrn] at h; simp at h
 have hrn:s.rnd = false:=by simpa using hrn
 simp only[hrn, cond_false] at h
 cases hb:Nat.blt (s.nx + 2) 16777215 with
 | false=>rw [hb] at h; simp at h
 | true=>
  rw [hb] at h
  simp only[cond_true] at h
  split at h
  ·
   rename_i g a b hf
   split at h
   ·
    rename_i v M2 nx2 hc
    obtain ⟨he, hc⟩:=hr _ _ _ hc
    split at h
    ·
     rename_i st pe fn n fr ps' as' bo' df hl
     cases hb2:Nat.blt nx2 16777215 with
     | false=>rw [hb2] at h; simp at h
     | true=>
      rw [hb2] at h
      simp only[cond_true] at h
      split at h
      ·
       cases h
      ·
       rename_i hst
       split at h
       ·
        rename_i e hpe
        simp only[zLs] at h
        subst h
        have:=TS.rangeFunc (P:=P) (lim:=lim) hrn hf he (qH.1 hb) (qH.1 hb2) hc hl (fun e=>hst e) hpe
        exact ⟨_, _, rfl, by simpa only [hrn] using this⟩
       ·
        cases h
    ·
     cases h
   ·
    rename_i v M2 nx2 hc
    obtain ⟨he, hc⟩:=hr _ _ _ hc
    simp only[zLs] at h
    subst h
    have:=TS.rangeFuncP (P:=P) (lim:=lim) hrn hf he (qH.1 hb) hc
    exact ⟨_, _, rfl, by simpa only [hrn] using this⟩
   ·
    cases h
  ·
   cases h
theorem zai (hr:zao P rec):∀ (c:Code) (s:St) (r:Res), (sgC P drt c).run rec lim s = some r -> ∃ e s', r = .code e s' /\ TS P lim [.code c] s e s':=by
 intro c
 induction c with
 | skip=>intro s r h; simp only[sgC, SgC.run, zLs] at h; exact ⟨_, _, h.symm, TS.skip⟩
 | label l=>intro s r h; simp only[sgC, SgC.run, zLs] at h; exact ⟨_, _, h.symm, TS.label⟩
 | exit i=>intro s r h; simp only[sgC, SgC.run, zLs] at h; exact ⟨_, _, h.symm, TS.exit⟩
 | goto i=>intro s r h; simp only[sgC, SgC.run, zLs] at h; exact ⟨_, _, h.symm, TS.goto⟩
 | ret=>intro s r h; simp only[sgC, SgC.run, zLs] at h; exact ⟨_, _, h.symm, TS.ret⟩
 | seq a b iha ihb=>
  intro s r h
  simp only[sgC, SgC.run] at h
  split at h
  ·
   rename_i s1 h1
   obtain ⟨e1, s1', h2, h3⟩:=iha _ _ h1
   simp only[Res.code.injEq] at h2
   obtain ⟨rfl, rfl⟩:=h2
   obtain ⟨e, s', h4, h5⟩:=ihb _ _ h
   exact ⟨e, s', h4, TS.seq h3 h5⟩
  ·
   rename_i hne
   obtain ⟨e, s', h2, h3⟩:=iha _ _ h
   refine ⟨e, s', h2, TS.seq1 (fun he=>?_) h3⟩
   subst he; subst h2
   exact hne s' h
 | cond x a b iha ihb=>
  intro s r h
  simp only[sgC, SgC.run] at h
  split at h
  ·
   rename_i hb
   obtain ⟨e, s', h2, h3⟩:=iha _ _ h
   exact ⟨e, s', h2, TS.cond hb h3⟩
  ·
   rename_i hb
   obtain ⟨e, s', h2, h3⟩:=ihb _ _ h
   exact ⟨e, s', h2, TS.cond hb h3⟩
  ·
   cases h
 | block id a iha=>
  intro s r h
  simp only[sgC, SgC.run] at h
  split at h
  ·
   rename_i i s1 h1
   obtain ⟨e1, s1', h2, h3⟩:=iha _ _ h1
   simp only[Res.code.injEq] at h2
   obtain ⟨rfl, rfl⟩:=h2
   cases hb:Nat.beq i id with
   | true=>
    rw [hb] at h
    simp only[cond_true, zLs] at h
    have:=qZ.1 hb
    subst this
    exact ⟨_, _, h.symm, TS.blockE h3⟩
   | false=>
    rw [hb] at h
    simp only[cond_false, zLs] at h
    exact ⟨_, _, h.symm, TS.blockX (by simp) (fun e=>by injection e with e; exact zbz.1 hb e) h3⟩
  ·
   rename_i hne
   obtain ⟨e, s', h2, h3⟩:=iha _ _ h
   subst h2
   cases e with
   | normal=>exact ⟨_, _, rfl, TS.block h3⟩
   | exit i=>exact absurd h (hne i s')
   | goto l=>exact ⟨_, _, rfl, TS.blockX (by simp) (by simp) h3⟩
   | ret=>exact ⟨_, _, rfl, TS.blockX (by simp) (by simp) h3⟩
   | pan v=>exact ⟨_, _, rfl, TS.blockX (by simp) (by simp) h3⟩
 | loop a _=>
  intro s r h
  simp only[sgC, SgC.run] at h
  have h1:=hr _ _ _ h
  cases r with
  | code e s'=>exact ⟨e, s', rfl, TS.loop h1⟩
  | out _ _ _=>exact h1.elim
  | dout _ _ _=>exact h1.elim
 | scope a _=>
  intro s r h
  simp only[sgC, SgC.run] at h
  have h1:=hr _ _ _ h
  cases r with
  | code e s'=>exact ⟨e, s', rfl, TS.scope h1⟩
  | out _ _ _=>exact h1.elim
  | dout _ _ _=>exact h1.elim
 | region id ops draws=>
  intro s r h
  cases draws with
  | false=>
   simp only[sgC, SgC.run] at h
   split at h
   ·
    rename_i e s1 h1
    simp only[zLs] at h
    have:=zcV (lim:=lim) (drt:=drt) hr (ops:=ops) ops.toList 0 s s1 e (by simp) h1
    rw [show List.range' 0 ops.toList.length = List.range ops.size from by simp [List.range_eq_range']] at this
    exact ⟨_, _, h.symm, TS.region this⟩
   ·
    cases h
  | true=>
   cases hok:okD P ops with
   | false=>simp only[sgC, hok, SgC.run] at h; cases h
   | true=>
    simp only[sgC, hok, SgC.run] at h
    split at h
    ·
     rename_i e s1 h1
     simp only[zLs] at h
     simp only[okD, zLa] at hok
     have:=zeD (lim:=lim) (drt:=drt) hr hok.1.2 hok.2 ops.toList 0 s s1 e s.M 0 0 0 [] [] s.nx 0 (fun _=>.top) (fun _=>s.fr) (fun _=>s.M) (fun _=>s.nx) (fun _=>0) (fun i=>i) (fun _=>false) (fun _=>false) (by simp) (by simp) (Nat.le_refl _) (fun i a b=>by omega) (fun i c=>c) (fun i _=>Nat.le_refl _) rfl rfl rfl rfl rfl (fun i a b=>by omega) (fun i a b=>by omega) rfl rfl rfl (fun i a b=>by omega) rfl (fun x x1 x2=>by omega) h1
     exact ⟨_, _, h.symm, zj4 hok.1.1 this⟩
    ·
     cases h
 | rangeFunc f ps as bo _ _=>
  intro s r h
  simp only[sgC, SgC.run] at h
  exact zrN hr h
 | refuse m=>intro s r h; simp only[sgC, SgC.run] at h; cases h
theorem zoH {f:FuncId} {fn:Func} {c:Code} (h:sgF P f = .mk fn c):P.funcs[f]? = some fn /\ fn.body = some c /\ Av.Enters P f:=by
 unfold sgF at h
 split at h
 ·
  rename_i fn' h1
  split at h
  ·
   rename_i c' h2
   split at h
   ·
    cases h
   ·
    rename_i h3
    simp only[SgF.mk.injEq] at h
    obtain ⟨rfl, rfl⟩:=h
    exact ⟨h1, h2, fn', h1, h3, by simp [h2]⟩
  ·
   cases h
 ·
  cases h
theorem zia {u:Up} (h:zjM u = true):u = .no:=by cases u <;> simp [zjM] at h ⊢
def ziq (P:Program) (orc:FuncId -> List VV -> Mem -> Option VV):Prop:=∀ f vs M v, orc f vs M = some v -> Av.Enters P f /\ ∀ lim nx, zd7 P lim f vs M nx (.val v) M nx
theorem zn3 (ho:ziq P orc) (hr:zao P rec):∀ (j:Job) (r:Res), stepS P drt orc rec lim j = some r -> zq8 P lim j r:=by
 intro j r h
 cases j with
 | code c s=>
  simp only[stepS] at h
  obtain ⟨e, s', rfl, h1⟩:=zai hr _ _ _ h
  exact h1
 | loop c s=>
  simp only[stepS] at h
  split at h
  ·
   rename_i s1 h1
   obtain ⟨e1, s1', h2, h3⟩:=zai hr _ _ _ h1
   simp only[Res.code.injEq] at h2
   obtain ⟨rfl, rfl⟩:=h2
   have h4:=hr _ _ _ h
   cases r with
   | code e s'=>exact TS.round h3 h4
   | out _ _ _=>exact h4.elim
   | dout _ _ _=>exact h4.elim
  ·
   rename_i hne
   obtain ⟨e, s', rfl, h3⟩:=zai hr _ _ _ h
   refine TS.roundX (fun he=>?_) h3
   subst he
   exact hne s' h
 | scope body c s=>
  simp only[stepS] at h
  split at h
  ·
   rename_i l s1 h1
   obtain ⟨e1, s1', h2, h3⟩:=zai hr _ _ _ h1
   simp only[Res.code.injEq] at h2
   obtain ⟨rfl, rfl⟩:=h2
   split at h
   ·
    rename_i rest hl
    have h4:=hr _ _ _ h
    cases r with
    | code e s'=>exact TS.scopeG hl h3 h4
    | out _ _ _=>exact h4.elim
    | dout _ _ _=>exact h4.elim
   ·
    rename_i hl
    simp only[zLs] at h
    subst h
    exact TS.scopeX (by simp) (fun l' e=>by injection e with e; rw [← e]; exact hl) h3
  ·
   rename_i hne
   obtain ⟨e, s', rfl, h3⟩:=zai hr _ _ _ h
   cases e with
   | normal=>exact TS.scopeN h3
   | exit i=>exact TS.scopeX (by simp) (by simp) h3
   | goto l=>exact absurd h (hne l s')
   | ret=>exact TS.scopeX (by simp) (by simp) h3
   | pan v=>exact TS.scopeX (by simp) (by simp) h3
 | call f vs M nx=>
  simp only[stepS] at h
  split at h
  ·
   rename_i v hv
   simp only[zLs] at h
   subst h
   obtain ⟨h1, h2⟩:=ho _ _ _ _ hv
   exact ⟨h1, h2 _ _⟩
  ·
   split at h
   ·
    rename_i fn c hF
    obtain ⟨hfn, hb, he⟩:=zoH hF
    cases hc:Nat.ble vs.length fn.ntmps && Nat.blt vs.length 512 with
    | false=>rw [hc] at h; simp at h
    | true=>
     rw [hc] at h
     simp only[cond_true] at h
     simp only[zLa] at hc
     split at h
     ·
      rename_i e s1 h1
      obtain ⟨e1, s1', h2, h3⟩:=zai hr _ _ _ h1
      simp only[Res.code.injEq] at h2
      obtain ⟨rfl, rfl⟩:=h2
      by_cases hrn:s1.rnd = true
      ·
       rw [hrn] at h; simp at h
      have hrn:s1.rnd = false:=by simpa using hrn
      rw [hrn] at h
      simp only[cond_false] at h
      split at h
      ·
       have h4:=hr _ _ _ h
       cases r with
       | out o M' nx'=>exact ⟨he, zaY (M1:=M) hfn hb hc.1 hc.2 h3 hrn (.inl ⟨.inl rfl, h4 fn hfn⟩)⟩
       | code _ _=>exact h4.elim
       | dout _ _ _=>exact h4.elim
      ·
       have h4:=hr _ _ _ h
       cases r with
       | out o M' nx'=>exact ⟨he, zaY (M1:=M) hfn hb hc.1 hc.2 h3 hrn (.inl ⟨.inr rfl, h4 fn hfn⟩)⟩
       | code _ _=>exact h4.elim
       | dout _ _ _=>exact h4.elim
      ·
       rename_i v
       have h4:=hr _ _ _ h
       cases r with
       | out o M' nx'=>exact ⟨he, zaY (M1:=M) hfn hb hc.1 hc.2 h3 hrn (.inr ⟨v, rfl, h4 fn hfn⟩)⟩
       | code _ _=>exact h4.elim
       | dout _ _ _=>exact h4.elim
      ·
       cases h
     ·
      cases h
   ·
    cases h
 | yld l vs M nx=>
  simp only[stepS] at h
  split at h
  ·
   rename_i pe fn n fr ps as bo df hl
   cases hc:Nat.beq vs.length ps.size && ps.toList.all (fun t=>xE n (some t)) && Nat.ble lim l with
   | false=>rw [hc] at h; simp at h
   | true=>
    rw [hc] at h
    simp only[cond_true] at h
    simp only[zLa] at hc
    have hlen:=qZ.1 hc.1.1
    have hll:=zLb hc.2
    split at h
    ·
     rename_i s1 h1
     obtain ⟨e1, s1', h2, has⟩:=zai hr _ _ _ h1
     simp only[Res.code.injEq] at h2
     obtain ⟨rfl, rfl⟩:=h2
     split at h
     ·
      rename_i pe1 fn1 n1 fr1 ps1 as1 bo1 df1 hl1
      cases hc2:Nat.blt s1.nx 16777215 && zjM s1.up with
      | false=>rw [hc2] at h; simp at h
      | true=>
       rw [hc2] at h
       simp only[cond_true] at h
       simp only[zLa] at hc2
       have hnx1:=qH.1 hc2.1
       have hu1:=zia hc2.2
       split at h
       ·
        rename_i v s2 h3
        obtain ⟨e2, s2', h4, hbo⟩:=zai hr _ _ _ h3
        simp only[Res.code.injEq] at h4
        obtain ⟨rfl, rfl⟩:=h4
        cases hu2:zjM s2.up with
        | false=>rw [hu2] at h; simp at h
        | true=>
         rw [hu2] at h
         simp only[cond_true] at h
         split at h
         ·
          rename_i fd hd hfd
          simp only[zLs] at h
          subst h
          exact zmO hl hlen hc.1.2 hll has hl1 hnx1 hu1 hbo (zia hu2) hd hfd rfl
         ·
          cases h
       ·
        rename_i e s2 hne h3
        obtain ⟨e2, s2', h4, hbo⟩:=zai hr _ _ _ h3
        simp only[Res.code.injEq] at h4
        obtain ⟨rfl, rfl⟩:=h4
        split at h
        ·
         rename_i q st' pe' st2 pe2 fn2 n2 fr2 ps2 as2 bo2 df2 hre hl2
         cases hc3:Nat.blt s2.nx 16777215 && zjM s2.up with
         | false=>rw [hc3] at h; simp at h
         | true=>
          rw [hc3] at h
          simp only[cond_true, zLs] at h
          simp only[zLa] at hc3
          subst h
          exact zf9 (st1:=.ready) hl hlen hc.1.2 hll has hl1 hnx1 hu1 hbo hl2 (qH.1 hc3.1) (zia hc3.2) hre
        ·
         cases h
       ·
        cases h
     ·
      cases h
    ·
     cases h
  ·
   cases h
 | leave f s pm=>
  simp only[stepS] at h
  split at h
  ·
   rename_i hd
   split at h
   ·
    split at h
    ·
     rename_i fn hfn
     split at h
     ·
      rename_i v hv
      simp only[zLs] at h
      subst h
      intro fn' hfn'
      rw [hfn] at hfn'; injection hfn' with hfn'; subst hfn'
      exact zl9 hd hv
     ·
      cases h
    ·
     cases h
   ·
    rename_i v
    simp only[zLs] at h
    subst h
    intro fn' _
    exact zmv hd
  ·
   rename_i l ds hd
   split at h
   ·
    rename_i hl
    cases hc:Nat.ble lim l && Nat.blt s.nx 16777215 with
    | false=>rw [hc] at h; simp at h
    | true=>
     rw [hc] at h
     simp only[cond_true] at h
     simp only[zLa] at hc
     have h1:=hr _ _ _ h
     cases r with
     | out o M' nx'=>intro fn hfn; exact zkp hd hl hc.1 hc.2 (h1 fn hfn)
     | code _ _=>exact h1.elim
     | dout _ _ _=>exact h1.elim
   ·
    cases h
  ·
   rename_i g vs ds hd
   split at h
   ·
    rename_i pm1 M1 nx1 h1
    obtain ⟨he, hdc⟩:=hr _ _ _ h1
    have h2:=hr _ _ _ h
    cases r with
    | out o M' nx'=>intro fn hfn; exact zkl hd he hdc (h2 fn hfn)
    | code _ _=>exact h2.elim
    | dout _ _ _=>exact h2.elim
   ·
    cases h
 | dcall f vs pm M nx=>
  simp only[stepS] at h
  split at h
  ·
   rename_i fn c hF
   obtain ⟨hfn, hb, he⟩:=zoH hF
   cases hc:Nat.ble vs.length fn.ntmps && Nat.blt vs.length 512 with
   | false=>rw [hc] at h; simp at h
   | true=>
    rw [hc] at h
    simp only[cond_true] at h
    simp only[zLa] at hc
    split at h
    ·
     rename_i e s1 h1
     obtain ⟨e1, s1', h2, h3⟩:=zai hr _ _ _ h1
     simp only[Res.code.injEq] at h2
     obtain ⟨rfl, rfl⟩:=h2
     split at h
     ·
      rename_i v pm1 hd hv hp
      simp only[zLs] at h
      subst h
      exact ⟨he, zd8 hfn hb hc.1 hc.2 h3 (.inl rfl) hd hv hp⟩
     ·
      rename_i v pm1 hd hv hp
      simp only[zLs] at h
      subst h
      exact ⟨he, zd8 hfn hb hc.1 hc.2 h3 (.inr rfl) hd hv hp⟩
     ·
      cases h
    ·
     cases h
  ·
   cases h
theorem zni (ho:ziq P orc):∀ n, zao P (evS P drt orc n)
 | 0=>fun lim j r h=>by cases h
 | n + 1=>fun lim j r h=>zn3 ho (zni ho n) j r h
end
end
end Go.Bv
end
section
namespace Go.Bv
open Go.RowKit
noncomputable section
def TabAt (w:World) (g k:Nat):Prop:=∃ T fz, w.heap[g]? = some (.cells (zlG k).toArray T fz)
def zqS (P:Program) (fi g:Nat):Prop:=Av.Enters P fi /\ ∀ (n:Int) (w:World), -9223372036854775808 <= n -> n <= 9223372036854775807 -> TabAt w g 0 ->
 Calls P fi #[.int .i64 n] w fun e w'=>e = .returned (.string ⟨(Lib.itoa n).toArray⟩) /\ Below w.heap.size w w'
def zqK (P:Program) (fj:Nat):Prop:=Av.Enters P fj /\ (∀ (a:Option Addr) (c:Nat) (sep:ByteArray) (w:World), Calls P fj #[.slice a 0 c, .string sep] w fun e w'=>e = .returned (.string ⟨#[]⟩) /\ Below w.heap.size w w') /\
 ∀ (bk o c:Nat) (xs:List ByteArray) (sep:ByteArray) (w:World), (∀ (j:Nat) x, xs[j]? = some x -> w.cell? ⟨bk, o + j, none⟩ = some (.string x)) -> bk < w.heap.size -> xs.length <= 140737488355328 -> xs.length <= c -> (Lib.join (xs.map (·.data.toList)) sep.data.toList).length <= 140737488355328 ->
  Calls P fj #[.slice (some ⟨bk, o, none⟩) xs.length c, .string sep] w fun e w'=>e = .returned (.string ⟨(Lib.join (xs.map (·.data.toList)) sep.data.toList).toArray⟩) /\ Below w.heap.size w w'
def strsOf:List VV -> Option (List ByteArray)
 | []=>some []
 | .c (.string s) :: l=>match strsOf l with
  | some xs=>some (s :: xs)
  | none=>none
 | _=>none
theorem zd4:∀ {cs:List VV} {xs:List ByteArray}, strsOf cs = some xs -> cs = xs.map fun s=>.c (.string s)
 | [], xs, h=>by simp only[strsOf, zLs] at h; subst h; rfl
 | x :: cs, xs, h=>by
  unfold strsOf at h
  split at h
  ·
   rename_i e; cases e
  ·
   rename_i s l e
   injection e with e1 e2
   subst e1; subst e2
   split at h
   ·
    rename_i xs' h1
    simp only[zLs] at h
    subst h
    rw [zd4 h1]; rfl
   ·
    cases h
  ·
   cases h
def zjP (l:List UInt8) (K:List UInt8 -> VV):VV:=@List.rec UInt8 (fun _=>(List UInt8 -> VV) -> VV) (fun K=>K []) (fun b _ ih K=>ih fun l'=>K (b :: l')) l K
theorem zgR (l:List UInt8) (K:List UInt8 -> VV):zjP l K = K l:=by
 induction l generalizing K with
 | nil=>rfl
 | cons b l ih=>exact ih _
def zrX (fi fj g0:Nat):FuncId -> List VV -> Mem -> Option VV:=fun f vs M=>
 bif Nat.beq f fi then match vs with
  | [.c (.int .i64 n)]=>match zkh n, M.get 0 with
   | some _, some (.glob g 0)=>bif Nat.beq g g0 then some (zjP (Lib.itoa n) fun l=>.c (.string ⟨l.toArray⟩)) else none
   | _, _=>none
  | _=>none
 else bif Nat.beq f fj then match vs with
  | [.sl l off n _ _, .c (.string sep)]=>match (M.get l).bind rdO with
   | some cs=>match strsOf ((cs.drop off).take n) with
    | some xs=>bif Nat.beq xs.length n && Nat.ble n 140737488355328 && Nat.ble (Lib.join (xs.map (·.data.toList)) sep.data.toList).length 140737488355328 then some (zjP (Lib.join (xs.map (·.data.toList)) sep.data.toList) fun l=>.c (.string ⟨l.toArray⟩)) else none
    | none=>none
   | _=>none
  | _=>none
 else none
theorem zfB {P:Program} {f:FuncId} {vs:List VV} {M:Mem} {x:Value} (hx:x.oneCell' = true) (h:∀ (B:Nat) (ρ:Rho) (w:World) (us:List Value), MRel B ρ M w -> VRelL ρ vs us -> Calls P f us.toArray w fun e w'=>e = .returned x /\ Below w.heap.size w w') (lim nx:Nat):zd7 P lim f vs M nx (.val (.c x)) M nx:=by
 refine ⟨Nat.le_refl _, fun B ρ w us hlim hfin hB _ hm hv=>(h B ρ w us hm hv).mono ?_⟩
 rintro e w' ⟨rfl, hb⟩
 obtain ⟨ρ', g, m, rfl⟩:Post lim B nx nx ρ M M w w' (fun ρ'=>ρ' = ρ):=zaU hm hfin hb hB rfl
 exact ⟨ρ', g, m, x, rfl, by simp only[VRel]; exact ⟨trivial, hx⟩⟩
theorem zpF {P:Program} {fi fj g0:Nat} (hi:zqS P fi g0) (hj:zqK P fj):ziq P (zrX fi fj g0):=by
 intro f vs M v h
 unfold zrX at h
 cases hb:Nat.beq f fi with
 | true=>
  rw [hb] at h
  simp only[cond_true] at h
  have hb:=qZ.1 hb
  subst hb
  split at h
  ·
   rename_i n
   split at h
   ·
    rename_i v' g hfit hg
    obtain ⟨_, h1, h2⟩:=zeA hfit
    cases hc:Nat.beq g g0 with
    | false=>rw [hc] at h; simp at h
    | true=>
     rw [hc] at h
     simp only[cond_true, zLs, zgR] at h
     have hc:=qZ.1 hc
     subst hc
     subst h
     refine ⟨hi.1, zfB rfl fun B ρ w us hm hv=>?_⟩
     simp only[VRelL, VRel] at hv
     obtain ⟨u, us', rfl, ⟨rfl, _⟩, rfl⟩:=hv
     obtain ⟨b, _, _, ho⟩:=hm.obj 0 _ hg
     obtain ⟨e, T, fz, hh⟩:=ho
     rw [e] at hh
     exact hi.2 n w h1 h2 ⟨T, fz, hh⟩
   ·
    cases h
  ·
   cases h
 | false=>
  rw [hb] at h
  simp only[cond_false] at h
  cases hb2:Nat.beq f fj with
  | false=>rw [hb2] at h; simp at h
  | true=>
   rw [hb2] at h
   simp only[cond_true] at h
   have hb2:=qZ.1 hb2
   subst hb2
   split at h
   ·
    rename_i l off n cap e sep
    split at h
    ·
     rename_i cs hlr
     obtain ⟨ob, hl, hrd⟩:=Option.bind_eq_some_iff.1 hlr
     split at h
     ·
      rename_i xs hxs
      cases hc:(Nat.beq xs.length n && Nat.ble n 140737488355328 && Nat.ble (Lib.join (xs.map (·.data.toList)) sep.data.toList).length 140737488355328) with
      | false=>rw [hc] at h; simp at h
      | true=>
       rw [hc] at h
       simp only[cond_true, zLs, zgR] at h
       simp only[zLa] at hc
       have c1:=qZ.1 hc.1.1
       have c2:=zLb hc.1.2
       have c3:=zLb hc.2
       have hcs:=zd4 hxs
       subst h
       refine ⟨hj.1, zfB rfl fun B ρ w us hm hv=>?_⟩
       simp only[VRelL, VRel] at hv
       obtain ⟨u, us', rfl, ⟨b, hb, c, rfl, hnc, hcm, _⟩, u2, us2, rfl, ⟨rfl, _⟩, rfl⟩:=hv
       obtain ⟨b', hb', _, horel⟩:=hm.obj l _ hl
       rw [hb] at hb'; injection hb' with hb'; subst hb'
       subst c1
       refine hj.2.2 b.blk (b.base + off) c xs sep w (fun j x hx=>?_) horel.lt c2 hnc c3
       have h6:cs[off + j]? = some (.c (.string x)):=by
        have h7:((cs.drop off).take xs.length)[j]? = some (.c (.string x)):=by rw [hcs]; simp [hx]
        rw [List.getElem?_take] at h7
        split at h7
        ·
         rw [List.getElem?_drop] at h7; exact h7
        ·
         cases h7
       obtain ⟨u, h8, _, h9⟩:=zh5 horel hrd (off + j) _ h6
       simp only[VRel] at h9
       rw [Nat.add_assoc, h8, h9.1]
     ·
      cases h
    ·
     cases h
   ·
    cases h
end
end Go.Bv
end
section
namespace Go.Bv
open Go.RowKit
noncomputable section
def zOz (a b:FuncId -> List VV -> Mem -> Option VV):FuncId -> List VV -> Mem -> Option VV:=fun f vs M=>match a f vs M with
 | some v=>some v
 | none=>b f vs M
theorem zOh {P:Program} {a b:FuncId -> List VV -> Mem -> Option VV} (ha:ziq P a) (hb:ziq P b):ziq P (zOz a b):=fun f vs M v h=>by
 unfold zOz at h
 split at h
 ·
  rename_i v' h1
  simp only[zLs] at h
  subst h
  exact ha f vs M _ h1
 ·
  exact hb f vs M v h
def zSw (w:World) (b:Nat):Prop:=b < w.heap.size
def zQI:Av.Glob:=⟨fun _=>True, fun _ _ _ _=>trivial⟩
theorem zMu {ρ:Rho} {w:World} {x u:Value} (h:VRel ρ (.c x) u):Av.Fits (zSw w) w (.v x) u:=by
 simp only[VRel] at h
 simp only[Av.Fits]; exact h
theorem zMG {ρ:Rho} {w:World}:∀ {xs:List Value} {us:List Value}, VRelL ρ (xs.map .c) us -> Av.FitsL (zSw w) w (xs.map .v) us
 | [], us, h=>by simpa only [List.map_nil, VRelL, Av.FitsL] using h
 | x :: xs, us, h=>by
  simp only[List.map_cons, VRelL] at h
  obtain ⟨u, us', rfl, h1, h2⟩:=h
  simp only[List.map_cons, Av.FitsL]
  exact ⟨u, us', rfl, zMu h1, zMG h2⟩
theorem zOv {ρ:Rho} {w:World} {xs:List Value} {u:Value} (h:VRel ρ (.agg (xs.map .c)) u):Av.Fits (zSw w) w (.agg (xs.map .v)) u:=by
 simp only[VRel] at h
 obtain ⟨vs, rfl, h1, h2⟩:=h
 simp only[Av.Fits]
 exact ⟨vs, rfl, h1, zMG h2⟩
theorem zR3 {P:Program} {f:FuncId} {vs:List VV} {M:Mem} {args:List Av.AV} {x:Value} (h:Av.ACall P zQI f args (.v x)) (hx:x.oneCell' = true) (ha:∀ (ρ:Rho) (w:World) (us:List Value), VRelL ρ vs us -> Av.FitsL (zSw w) w args us):
  Av.Enters P f /\ ∀ lim nx, zd7 P lim f vs M nx (.val (.c x)) M nx:=
 ⟨h.1, zfB hx fun B ρ w us hm hv=>(h.2 (zSw w) w us trivial (fun _ h=>h) (ha ρ w us hv)).mono (by
  rintro e w' ⟨u, rfl, hb, hu⟩
  simp only[Av.Fits] at hu
  rw [hu.1]
  exact ⟨rfl, hb⟩)⟩
def zNE (n:Int) (K:Int -> VV):VV:=match n with
 | .ofNat m=>@Nat.rec (fun _=>VV) (K (.ofNat 0)) (fun k _=>K (.ofNat (k + 1))) m
 | .negSucc m=>K (.negSucc m)
theorem zNo (n:Int) (K:Int -> VV):zNE n K = K n:=by
 cases n with
 | ofNat m=>cases m <;> rfl
 | negSucc m=>rfl
end
end Go.Bv
end
section
namespace Go.Bv
open Go.RowKit Go.Av
noncomputable section
mutual
/-- Data as values over made memory: each slice is an object that nobody writes. -/
def zf0:AV -> Mem -> Nat -> Option (VV × Mem × Nat)
 | .v x, M, nx=>bif x.oneCell' then some (.c x, M, nx) else none
 | .agg cs, M, nx=>match zgd cs M nx with
  | some (vs, M1, nx1)=>some (.agg vs, M1, nx1)
  | none=>none
 | .sl rows, M, nx=>match zou rows M nx with
  | some (vs, M1, nx1)=>match rows with
   | []=>none
   | r :: _=>bif Nat.blt 0 r.length && rows.all (fun q=>Nat.beq q.length r.length) && Nat.blt nx1 16777215 then some (.sl nx1 0 rows.length none r.length, M1.set nx1 (some (.ro vs)), nx1 + 1) else none
  | none=>none
 | _, _, _=>none
def zgd:List AV -> Mem -> Nat -> Option (List VV × Mem × Nat)
 | [], M, nx=>some ([], M, nx)
 | x :: xs, M, nx=>match zf0 x M nx with
  | some (v, M1, nx1)=>match zgd xs M1 nx1 with
   | some (vs, M2, nx2)=>some (v :: vs, M2, nx2)
   | none=>none
  | none=>none
def zou:List (List AV) -> Mem -> Nat -> Option (List VV × Mem × Nat)
 | [], M, nx=>some ([], M, nx)
 | r :: rs, M, nx=>match zgd r M nx with
  | some (vs, M1, nx1)=>match zou rs M1 nx1 with
   | some (ws, M2, nx2)=>some (vs ++ ws, M2, nx2)
   | none=>none
  | none=>none
end
structure Still (ok:Nat -> Prop) (ρ:Rho) (M:Mem) (nx:Nat) (w:World):Prop where
 mem:MRel 0 ρ M w
 fin:∀ l, nx <= l -> M.get l = none
 none:∀ l, nx <= l -> ρ l = none
 still:∀ l o, M.get l = some o -> o.still = true
 let_:∀ l cs b, M.get l = some (.ro cs) -> ρ l = some b -> ok b.blk
theorem Still.push {ok:Nat -> Prop} {ρ:Rho} {M:Mem} {nx:Nat} {w:World} (h:Still ok ρ M nx w) (hnx:nx < 16777215) {cs:List VV} {b:RB} (hb:b.blk < w.heap.size) (hk:ok b.blk)
  (hc:∀ (i:Nat) (v:VV), cs[i]? = some v -> ∃ u, w.cell? ⟨b.blk, b.base + i, Option.none⟩ = some u /\ u.oneCell' = true /\ VRel ρ v u):Still ok (upd ρ nx b) (M.set nx (some (.ro cs))) (nx + 1) w:=by
 have hget:∀ l, (M.set nx (some (.ro cs))).get l = if l = nx then some (.ro cs) else M.get l:=fun l=>Tr.get_set M nx l _ hnx
 have hx:zam ρ (upd ρ nx b):=jM (h.none nx (Nat.le_refl _))
 refine ⟨⟨fun l o hl=>?_, fun l l' o o' b1 b2 hl hl' _ _ _ hs=>?_⟩, fun l hl=>?_, fun l hl=>?_, fun l o hl=>?_, fun l cs' b' hl hb'=>?_⟩
 ·
  rw [hget] at hl
  by_cases e:l = nx
  ·
   rw [if_pos e] at hl
   injection hl with hl
   subst hl
   exact ⟨b, by simp [upd, e], Nat.zero_le _, hb, fun i v hv=>by obtain ⟨u, h1, h2, h3⟩:=hc i v hv; exact ⟨u, h1, h2, h3.ext hx⟩⟩
  ·
   rw [if_neg e] at hl
   obtain ⟨b', h1, h2, h3⟩:=h.mem.obj l o hl
   exact ⟨b', hx _ _ h1, h2, h3.keep hx rfl⟩
 ·
  have key:∀ l o, (M.set nx (some (.ro cs))).get l = some o -> o.still = true:=fun l o hl=>by
   rw [hget] at hl
   by_cases e:l = nx
   ·
    rw [if_pos e] at hl; injection hl with hl; subst hl; rfl
   ·
    rw [if_neg e] at hl; exact h.still l o hl
  rw [key l o hl, key l' o' hl'] at hs; cases hs
 ·
  rw [hget, if_neg (by omega)]; exact h.fin l (by omega)
 ·
  unfold upd; rw [if_neg (by omega)]; exact h.none l (by omega)
 ·
  rw [hget] at hl
  by_cases e:l = nx
  ·
   rw [if_pos e] at hl; injection hl with hl; subst hl; rfl
  ·
   rw [if_neg e] at hl; exact h.still l o hl
 ·
  rw [hget] at hl
  by_cases e:l = nx
  ·
   simp [upd, e] at hb'; subst hb'; exact hk
  ·
   rw [if_neg e] at hl
   simp only[upd, if_neg e] at hb'
   exact h.let_ l cs' b' hl hb'
section
variable {ok:Nat -> Prop} {w:World}
mutual
theorem zlF (hok:∀ b, ok b -> b < w.heap.size):∀ (x:AV) (M:Mem) (nx:Nat) (v:VV) (M':Mem) (nx':Nat) (ρ:Rho) (u:Value), zf0 x M nx = some (v, M', nx') -> Still ok ρ M nx w -> Fits ok w x u -> ∃ ρ', zam ρ ρ' /\ Still ok ρ' M' nx' w /\ VRel ρ' v u /\ nx <= nx'
 | .v x, M, nx, v, M', nx', ρ, u, h, hs, hf=>by
  simp only[zf0] at h
  cases hx:x.oneCell' with
  | false=>rw [hx] at h; simp at h
  | true=>
   rw [hx] at h
   simp only[cond_true, zLs, zLp] at h
   obtain ⟨rfl, rfl, rfl⟩:=h
   simp only[Fits] at hf
   exact ⟨ρ, fun _ _ h=>h, hs, by simp only[VRel]; exact hf, Nat.le_refl _⟩
 | .agg cs, M, nx, v, M', nx', ρ, u, h, hs, hf=>by
  simp only[zf0] at h
  split at h
  ·
   rename_i vs M1 nx1 h1
   simp only[zLs, zLp] at h
   obtain ⟨rfl, rfl, rfl⟩:=h
   simp only[Fits] at hf
   obtain ⟨us, rfl, h2, h3⟩:=hf
   obtain ⟨ρ', h4, h5, h6, h7⟩:=zhY hok cs M nx vs M1 nx1 ρ us h1 hs h3
   exact ⟨ρ', h4, h5, by simp only[VRel]; exact ⟨us, rfl, h2, h6⟩, h7⟩
  ·
   cases h
 | .sl rows, M, nx, v, M', nx', ρ, u, h, hs, hf=>by
  simp only[zf0] at h
  split at h
  ·
   rename_i vs M1 nx1 h1
   cases rows with
   | nil=>simp at h
   | cons r rs=>
    simp only at h
    cases hc:(Nat.blt 0 r.length && (r :: rs).all (fun q=>Nat.beq q.length r.length) && Nat.blt nx1 16777215) with
    | false=>rw [hc] at h; simp at h
    | true=>
     rw [hc] at h
     simp only[cond_true, zLs, zLp] at h
     obtain ⟨rfl, rfl, rfl⟩:=h
     simp only[zLa] at hc
     have hpos:=qH.1 hc.1.1
     have hnx:=qH.1 hc.2
     simp only[Fits] at hf
     obtain ⟨a, c, size, rfl, h2, h3, h4, h5⟩:=hf
     obtain ⟨b, off, rfl, hb, hr⟩:=h5 (by simp)
     obtain ⟨ρ1, e1, s1, c1, l1⟩:=zlR hok (r :: rs) M nx vs M1 nx1 ρ b off h1 hs hr
     refine ⟨upd ρ1 nx1 ⟨b, off, c * r.length⟩, fun l x hx=>jM (s1.none nx1 (Nat.le_refl _)) _ _ (e1 _ _ hx), s1.push hnx (hok b hb) hb c1, ?_, by omega⟩
     simp only[VRel]
     exact ⟨⟨b, off, c * r.length⟩, by simp [upd], c, by simp, h2, h3, hpos, by simp⟩
  ·
   cases h
 | .top, M, nx, v, M', nx', ρ, u, h, _, _=>by simp [zf0] at h
 | .ptr _, M, nx, v, M', nx', ρ, u, h, _, _=>by simp [zf0] at h
 | .fn _ _ _, M, nx, v, M', nx', ρ, u, h, _, _=>by simp [zf0] at h
 | .ifc _ _, M, nx, v, M', nx', ρ, u, h, _, _=>by simp [zf0] at h
 | .tup _, M, nx, v, M', nx', ρ, u, h, _, _=>by simp [zf0] at h
theorem zhY (hok:∀ b, ok b -> b < w.heap.size):∀ (xs:List AV) (M:Mem) (nx:Nat) (vs:List VV) (M':Mem) (nx':Nat) (ρ:Rho) (us:List Value), zgd xs M nx = some (vs, M', nx') -> Still ok ρ M nx w -> FitsL ok w xs us -> ∃ ρ', zam ρ ρ' /\ Still ok ρ' M' nx' w /\ VRelL ρ' vs us /\ nx <= nx'
 | [], M, nx, vs, M', nx', ρ, us, h, hs, hf=>by
  simp only[zgd, zLs, zLp] at h
  obtain ⟨rfl, rfl, rfl⟩:=h
  simp only[FitsL] at hf
  exact ⟨ρ, fun _ _ h=>h, hs, by simp only[VRelL]; exact hf, Nat.le_refl _⟩
 | x :: xs, M, nx, vs, M', nx', ρ, us, h, hs, hf=>by
  simp only[zgd] at h
  split at h
  ·
   rename_i v M1 nx1 h1
   split at h
   ·
    rename_i vs2 M2 nx2 h2
    simp only[zLs, zLp] at h
    obtain ⟨rfl, rfl, rfl⟩:=h
    simp only[FitsL] at hf
    obtain ⟨u, us', rfl, f1, f2⟩:=hf
    obtain ⟨ρ1, e1, s1, v1, l1⟩:=zlF hok x M nx v M1 nx1 ρ u h1 hs f1
    obtain ⟨ρ2, e2, s2, v2, l2⟩:=zhY hok xs M1 nx1 vs2 M2 nx2 ρ1 us' h2 s1 f2
    exact ⟨ρ2, fun l b h=>e2 _ _ (e1 _ _ h), s2, by simp only[VRelL]; exact ⟨u, us', rfl, v1.ext e2, v2⟩, by omega⟩
   ·
    cases h
  ·
   cases h
theorem zlu (hok:∀ b, ok b -> b < w.heap.size):∀ (xs:List AV) (M:Mem) (nx:Nat) (vs:List VV) (M':Mem) (nx':Nat) (ρ:Rho) (b off:Nat), zgd xs M nx = some (vs, M', nx') -> Still ok ρ M nx w -> FitsC ok w b off xs ->
  ∃ ρ', zam ρ ρ' /\ Still ok ρ' M' nx' w /\ (vs.length = xs.length /\ ∀ (i:Nat) (v:VV), vs[i]? = some v -> ∃ u, w.cell? ⟨b, off + i, Option.none⟩ = some u /\ u.oneCell' = true /\ VRel ρ' v u) /\ nx <= nx'
 | [], M, nx, vs, M', nx', ρ, b, off, h, hs, hf=>by
  simp only[zgd, zLs, zLp] at h
  obtain ⟨rfl, rfl, rfl⟩:=h
  exact ⟨ρ, fun _ _ h=>h, hs, ⟨rfl, fun i v hv=>by simp at hv⟩, Nat.le_refl _⟩
 | x :: xs, M, nx, vs, M', nx', ρ, b, off, h, hs, hf=>by
  simp only[zgd] at h
  split at h
  ·
   rename_i v M1 nx1 h1
   split at h
   ·
    rename_i vs2 M2 nx2 h2
    simp only[zLs, zLp] at h
    obtain ⟨rfl, rfl, rfl⟩:=h
    simp only[FitsC] at hf
    obtain ⟨⟨u, f1, f2, f3⟩, f4⟩:=hf
    obtain ⟨ρ1, e1, s1, v1, l1⟩:=zlF hok x M nx v M1 nx1 ρ u h1 hs f3
    obtain ⟨ρ2, e2, s2, ⟨v2, v3⟩, l2⟩:=zlu hok xs M1 nx1 vs2 M2 nx2 ρ1 b (off + 1) h2 s1 f4
    refine ⟨ρ2, fun l b h=>e2 _ _ (e1 _ _ h), s2, ⟨by simp [v2], fun i z hz=>?_⟩, by omega⟩
    cases i with
    | zero=>simp at hz; subst hz; exact ⟨u, f1, f2, v1.ext e2⟩
    | succ i=>
     simp at hz
     obtain ⟨u', a1, a2, a3⟩:=v3 i z hz
     exact ⟨u', by rw [show off + (i + 1) = off + 1 + i from by omega]; exact a1, a2, a3⟩
   ·
    cases h
  ·
   cases h
theorem zlR (hok:∀ b, ok b -> b < w.heap.size):∀ (xs:List (List AV)) (M:Mem) (nx:Nat) (vs:List VV) (M':Mem) (nx':Nat) (ρ:Rho) (b off:Nat), zou xs M nx = some (vs, M', nx') -> Still ok ρ M nx w -> FitsR ok w b off xs ->
  ∃ ρ', zam ρ ρ' /\ Still ok ρ' M' nx' w /\ (∀ (i:Nat) (v:VV), vs[i]? = some v -> ∃ u, w.cell? ⟨b, off + i, Option.none⟩ = some u /\ u.oneCell' = true /\ VRel ρ' v u) /\ nx <= nx'
 | [], M, nx, vs, M', nx', ρ, b, off, h, hs, hf=>by
  simp only[zou, zLs, zLp] at h
  obtain ⟨rfl, rfl, rfl⟩:=h
  exact ⟨ρ, fun _ _ h=>h, hs, fun i v hv=>by simp at hv, Nat.le_refl _⟩
 | x :: xs, M, nx, vs, M', nx', ρ, b, off, h, hs, hf=>by
  simp only[zou] at h
  split at h
  ·
   rename_i v M1 nx1 h1
   split at h
   ·
    rename_i vs2 M2 nx2 h2
    simp only[zLs, zLp] at h
    obtain ⟨rfl, rfl, rfl⟩:=h
    simp only[FitsR] at hf
    obtain ⟨f1, f2⟩:=hf
    obtain ⟨ρ1, e1, s1, ⟨v0, v1⟩, l1⟩:=zlu hok x M nx v M1 nx1 ρ b off h1 hs f1
    obtain ⟨ρ2, e2, s2, v3, l2⟩:=zlR hok xs M1 nx1 vs2 M2 nx2 ρ1 b (off + x.length) h2 s1 f2
    refine ⟨ρ2, fun l b h=>e2 _ _ (e1 _ _ h), s2, fun i z hz=>?_, by omega⟩
    rw [List.getElem?_append] at hz
    split at hz
    ·
     obtain ⟨u', a1, a2, a3⟩:=v1 i z hz
     exact ⟨u', a1, a2, a3.ext e2⟩
    ·
     rename_i hi
     obtain ⟨u', a1, a2, a3⟩:=v3 _ z hz
     exact ⟨u', by rw [show off + i = off + x.length + (i - v.length) from by omega]; exact a1, a2, a3⟩
   ·
    cases h
  ·
   cases h
end
end
def chop (e:Nat):Nat -> List VV -> List (List VV)
 | 0, _=>[]
 | n + 1, l=>l.take e :: chop e n (l.drop e)
def zjo (M:Mem):Nat -> VV -> Option AV
 | 0, _=>none
 | k + 1, v=>match v with
  | .c x=>some (.v x)
  | .agg cs=>match cs.mapM (zjo M k) with
   | some l=>some (.agg l)
   | none=>none
  | .tup cs=>match cs.mapM (zjo M k) with
   | some l=>some (.tup l)
   | none=>none
  | .sl l off n _ e=>bif Nat.beq n 0 then some (.sl []) else match M.get l with
   | some ob=>match rdO ob with
    | some cs=>bif Nat.ble (off + n * e) cs.length then match (chop e n (cs.drop off)).mapM (fun r=>r.mapM (zjo M k)) with
     | some rows=>some (.sl rows)
     | none=>none else none
    | none=>none
   | none=>none
  | _=>none
theorem mapM_some {α β:Type} {f:α -> Option β}:∀ {l:List α} {r:List β}, l.mapM f = some r -> r.length = l.length /\ ∀ (i:Nat) (y:β), r[i]? = some y -> ∃ x, l[i]? = some x /\ f x = some y
 | [], r, h=>by simp at h; subst h; simp
 | x :: l, r, h=>by
  rw [List.mapM_cons] at h
  simp only[Option.bind_eq_bind, Option.bind_eq_some_iff, Option.pure_def, zLs] at h
  obtain ⟨y, h1, ys, h2, rfl⟩:=h
  obtain ⟨h3, h4⟩:=mapM_some h2
  refine ⟨by simp [h3], fun i z hz=>?_⟩
  cases i with
  | zero=>simp at hz; subst hz; exact ⟨x, by simp, h1⟩
  | succ i=>simp at hz; simpa using h4 i z hz
theorem zji (e:Nat):∀ (n:Nat) (l:List VV), (chop e n l).length = n
 | 0, _=>rfl
 | n + 1, l=>by simp [chop, zji e n]
theorem zfw (e:Nat):∀ (n:Nat) (l:List VV) (i:Nat) (r:List VV), (chop e n l)[i]? = some r -> r = (l.drop (i * e)).take e
 | 0, l, i, r, h=>by simp [chop] at h
 | n + 1, l, i, r, h=>by
  cases i with
  | zero=>simp [chop] at h; subst h; simp
  | succ i=>
   simp [chop] at h
   have:=zfw e n (l.drop e) i r h
   rw [this, List.drop_drop, show e + i * e = (i + 1) * e from by rw [Nat.add_mul]; omega]
theorem zpb {ok:Nat -> Prop} {ρ:Rho} {M:Mem} {w:World} (hm:MRel 0 ρ M w) (hk:∀ l b o cs, M.get l = some o -> ρ l = some b -> rdO o = some cs -> ok b.blk):∀ (k:Nat) (v:VV) (x:AV) (u:Value), zjo M k v = some x -> VRel ρ v u -> Fits ok w x u:=by
 intro k
 induction k with
 | zero=>intro v x u h; simp [zjo] at h
 | succ k ih=>
  intro v x u h hv
  have list:∀ (cs:List VV) (l:List AV) (us:List Value), cs.mapM (zjo M k) = some l -> VRelL ρ cs us -> FitsL ok w l us:=fun cs l us h1 h2=>by
   obtain ⟨h3, h4⟩:=mapM_some h1
   refine FitsL.of_get (by rw [h2.length, h3]) fun i y u' hy hu=>?_
   obtain ⟨c, hc, ho⟩:=h4 i y hy
   obtain ⟨u2, hu2, hr⟩:=h2.get hc
   rw [hu] at hu2; injection hu2 with hu2; subst hu2
   exact ih c y u' ho hr
  unfold zjo at h
  split at h
  ·
   simp only[zLs] at h
   subst h
   simp only[VRel] at hv
   simp only[Fits]; exact hv
  ·
   rename_i cs
   split at h
   ·
    rename_i l hl
    simp only[zLs] at h
    subst h
    simp only[VRel] at hv
    obtain ⟨vs, rfl, h1, h2⟩:=hv
    simp only[Fits]
    exact ⟨vs, rfl, h1, list cs l vs hl h2⟩
   ·
    cases h
  ·
   rename_i cs
   split at h
   ·
    rename_i l hl
    simp only[zLs] at h
    subst h
    simp only[VRel] at hv
    obtain ⟨vs, rfl, h2⟩:=hv
    simp only[Fits]
    exact ⟨vs, rfl, list cs l vs hl h2⟩
   ·
    cases h
  ·
   rename_i l off n cap e
   simp only[VRel] at hv
   obtain ⟨b, hb, c, rfl, h1, h2, _⟩:=hv
   cases hn:Nat.beq n 0 with
   | true=>
    rw [hn] at h
    simp only[cond_true, zLs] at h
    subst h
    have:=qZ.1 hn
    subst this
    simp only[Fits]
    exact ⟨some ⟨b.blk, b.base + off, none⟩, c, 0, rfl, h1, h2, by simp, by simp⟩
   | false=>
    rw [hn] at h
    simp only[cond_false] at h
    split at h
    ·
     rename_i ob hob
     split at h
     ·
      rename_i cs hrd
      cases hle:Nat.ble (off + n * e) cs.length with
      | false=>rw [hle] at h; simp at h
      | true=>
       rw [hle] at h
       simp only[cond_true] at h
       have hle:=zLb hle
       split at h
       ·
        rename_i rows hrows
        simp only[zLs] at h
        subst h
        obtain ⟨r1, r2⟩:=mapM_some hrows
        rw [zji] at r1
        obtain ⟨b', hb', _, horel⟩:=hm.obj l ob hob
        rw [hb] at hb'; injection hb' with hb'; subst hb'
        have hrowlen:∀ (i:Nat) (r:List AV), rows[i]? = some r -> r.length = e:=fun i r hr=>by
         obtain ⟨q, hq, hq2⟩:=r2 i r hr
         have hi:i < n:=by
          have:=(zLg hr).1
          omega
         have hqe:=zfw e n _ i q hq
         obtain ⟨q1, _⟩:=mapM_some hq2
         rw [q1, hqe, List.length_take, List.length_drop, List.length_drop]
         have:(i + 1) * e <= n * e:=Nat.mul_le_mul_right e hi
         rw [Nat.add_mul] at this
         omega
        simp only[Fits]
        refine ⟨some ⟨b.blk, b.base + off, none⟩, c, e, by rw [r1], by rw [r1]; exact h1, h2, fun r hr=>?_, fun _=>⟨b.blk, b.base + off, rfl, hk l b ob cs hob hb hrd, ?_⟩⟩
        ·
         obtain ⟨i, hi⟩:=List.mem_iff_getElem?.1 hr
         exact hrowlen i r hi
        ·
         refine FitsR.of_get (size:=e) (fun r hr=>?_) fun i r hr=>?_
         ·
          obtain ⟨i, hi⟩:=List.mem_iff_getElem?.1 hr
          exact hrowlen i r hi
         ·
          refine FitsC.of_get fun j y hy=>?_
          obtain ⟨q, hq, hq2⟩:=r2 i r hr
          obtain ⟨_, q3⟩:=mapM_some hq2
          obtain ⟨z, hz, hz2⟩:=q3 j y hy
          have hqe:=zfw e n _ i q hq
          have hj:j < e:=by
           have:=(zLg hy).1
           rw [hrowlen i r hr] at this; exact this
          have hcs:cs[off + i * e + j]? = some z:=by
           rw [hqe, List.getElem?_take, if_pos hj, List.getElem?_drop, List.getElem?_drop] at hz
           rw [Nat.add_assoc]; exact hz
          obtain ⟨u', a1, a2, a3⟩:=zh5 horel hrd _ z hcs
          exact ⟨u', by rw [show b.base + off + i * e + j = b.base + (off + i * e + j) from by omega]; exact a1, a2, ih z y u' hz2 a3⟩
       ·
        cases h
     ·
      cases h
    ·
     cases h
  ·
   cases h
def zsO (P:Program) (drt:FuncId -> Bool) (orc:FuncId -> List VV -> Mem -> Option VV) (n g0:Nat) (f:FuncId) (args:List AV):Option AV:=match zgd args (Tr.nd .lf (some (.glob g0 0)) .lf) 1 with
 | some (vs, M0, nx0)=>match evS P drt orc n nx0 (.call f vs M0 nx0) with
  | some (.out (.val v) M _)=>zjo M 20 v
  | _=>none
 | none=>none
theorem qW {P:Program} {drt:FuncId -> Bool} {orc:FuncId -> List VV -> Mem -> Option VV} {G:Av.Glob} {f:FuncId} {args:List AV} {r:AV} {n g0:Nat} (ho:ziq P orc) (hG:∀ w, G.holds w -> TabAt w g0 0)
  (h:zsO P drt orc n g0 f args = some r):Av.ACall P G f args r:=by
 unfold zsO at h
 split at h
 ·
  rename_i vs M0 nx0 ha
  split at h
  ·
   rename_i v M nx hev
   obtain ⟨he, hc⟩:=zni ho n _ _ _ hev
   refine ⟨he, fun ok w us hg hok hf=>?_⟩
   have hget:∀ l, (Tr.nd .lf (some (.glob g0 0)) .lf:Mem).get l = if l = 0 then some (.glob g0 0) else none:=fun l=>by
    rw [Tr.get_nd, Tr.get_lf, Tr.get_lf]
    by_cases h0:l = 0
    ·
     rw [if_pos h0, if_pos h0]
    ·
     rw [if_neg h0, if_neg h0]; split <;> rfl
   obtain ⟨T, fz, hh⟩:=hG w hg
   let ρ0:Rho:=fun l=>if l = 0 then some ⟨g0, 0, 0⟩ else none
   have hs0:Still ok ρ0 (Tr.nd .lf (some (.glob g0 0)) .lf) 1 w:=by
    refine ⟨⟨fun l o hl=>?_, fun l l' o o' b b' hl hl' h1 h2 _ _=>?_⟩, fun l hl=>by rw [hget, if_neg (by omega)], fun l hl=>by simp only[ρ0]; rw [if_neg (by omega)], fun l o hl=>?_, fun l cs b hl _=>?_⟩
    ·
     rw [hget] at hl
     by_cases h0:l = 0
     ·
      rw [if_pos h0] at hl
      injection hl with hl
      subst hl
      exact ⟨⟨g0, 0, 0⟩, by simp [ρ0, h0], Nat.zero_le _, rfl, T, fz, hh⟩
     ·
      rw [if_neg h0] at hl; cases hl
    ·
     have e1:l = 0:=Classical.byContradiction fun c=>by simp [ρ0, c] at h1
     have e2:l' = 0:=Classical.byContradiction fun c=>by simp [ρ0, c] at h2
     omega
    ·
     rw [hget] at hl
     by_cases h0:l = 0
     ·
      rw [if_pos h0] at hl; injection hl with hl; subst hl; rfl
     ·
      rw [if_neg h0] at hl; cases hl
    ·
     rw [hget] at hl
     by_cases h0:l = 0
     ·
      rw [if_pos h0] at hl; injection hl with hl; cases hl
     ·
      rw [if_neg h0] at hl; cases hl
   obtain ⟨ρ, _, hs, hv, _⟩:=zhY hok args _ 1 vs M0 nx0 ρ0 us ha hs0 hf
   refine (hc.2 0 ρ w us (Nat.le_refl _) hs.fin (Nat.zero_le _) (fun l hl _=>hs.none l hl) hs.mem hv).mono ?_
   rintro e w' ⟨ρ', g, m, u, rfl, hu⟩
   obtain ⟨x1, x2, x3, x4, x5⟩:=g.below
   refine ⟨u, rfl, ⟨x1, x2, x3, x4, fun b hb=>g.unch b hb (fun l b' o h1 h2=>by omega)⟩, zpb m (fun l b o cs hl hb hrd=>?_) 20 v r u h hu⟩
   rcases Nat.lt_or_ge l nx0 with c | c
   ·
    rw [g.old l c] at hl
    rw [g.ext l (.inl c)] at hb
    have hst:=hs.still l o hl
    cases o with
    | ro cs'=>exact .inl (hs.let_ l cs' b hl hb)
    | glob _ _=>simp [rdO] at hrd
    | cells _=>simp [VO.still] at hst
    | map _ _=>simp [VO.still] at hst
    | loop _ _ _ _ _ _ _ _ _=>simp [VO.still] at hst
    | dfd _=>simp [VO.still] at hst
    | iter _ _=>simp [VO.still] at hst
   ·
    rcases g.new l b o c hl hb with c1 | ⟨l0, b0, o0, a1, a2, _⟩
    ·
     obtain ⟨b', hb', _, ho'⟩:=m.obj l o hl
     rw [hb] at hb'; injection hb' with hb'; subst hb'
     exact .inr ⟨c1, ho'.lt⟩
    ·
     omega
  ·
   cases h
 ·
  cases h
end
end Go.Bv
end
