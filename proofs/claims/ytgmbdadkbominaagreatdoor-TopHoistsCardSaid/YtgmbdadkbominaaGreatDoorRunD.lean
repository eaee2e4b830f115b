import Derived.Test.YtgmbdadkbominaaGreatDoorRunC
import Derived.Lib.Join
import Derived.Test.YtgmbdadkbominaaGreatDoorPlatB
import Derived.Lib.Bytealg
set_option linter.unusedVariables false
set_option linter.unusedSimpArgs false
section
namespace Go.Bv
open Go.RowKit
noncomputable section
inductive Job where
 | code (c:Code) (s:St)
 | loop (c:Code) (s:St)
 | scope (body c:Code) (s:St)
 | call (f:FuncId) (vs:List VV) (M:Mem) (nx:Nat)
 | yld (l:Nat) (vs:List VV) (M:Mem) (nx:Nat)
 | leave (f:FuncId) (s:St) (pm:Option VV)
 | dcall (f:FuncId) (vs:List VV) (pm:Option VV) (M:Mem) (nx:Nat)
inductive Res where
 | code (e:XE) (s:St)
 | out (o:OX) (M:Mem) (nx:Nat)
 | dout (pm:Option VV) (M:Mem) (nx:Nat)
abbrev Rec:=Nat -> Job -> Option Res
abbrev Orc:=Nat -> FuncId -> List VV -> Mem -> Nat -> Option (VV × Mem × Nat)
def zk7:Int -> Option Value
 | .ofNat n=>bif Nat.blt n 9223372036854775808 then some (.int .i64 (.ofNat n)) else none
 | .negSucc n=>bif Nat.blt n 9223372036854775808 then some (.int .i64 (.negSucc n)) else none
def isNeg:Int -> Bool
 | .ofNat _=>false
 | .negSucc _=>true
def isZero:Int -> Bool
 | .ofNat 0=>true
 | _=>false
inductive SgI where
 | mk (f:Int -> Int -> Option Value)
def sgI (op:BinOp):SgI:=match op with
 | .add=>.mk fun p q=>zk7 (p + q)
 | .sub=>.mk fun p q=>zk7 (p - q)
 | .mul=>.mk fun p q=>zk7 (p * q)
 | .lss=>.mk fun p q=>some (.bool (isNeg (p - q)))
 | .gtr=>.mk fun p q=>some (.bool (isNeg (q - p)))
 | .leq=>.mk fun p q=>some (.bool (!isNeg (q - p)))
 | .geq=>.mk fun p q=>some (.bool (!isNeg (p - q)))
 | .eql=>.mk fun p q=>some (.bool (isZero (p - q)))
 | .neq=>.mk fun p q=>some (.bool (!isZero (p - q)))
 | _=>.mk fun _ _=>none
def zpD (P:Program) (fr:Fr) (M:Mem) (nx:Nat) (o:Oper) (g:SgI) (op:BinOp) (T:TypeId) (x y:Operand):jE:=
 match g with
 | .mk f=>match evV fr x, evV fr y with
  | some (.c (.int .i64 p)), some (.c (.int .i64 q))=>match f p q with
   | some v=>some (.c v, M, nx)
   | none=>vY P fr M nx o
  | _, _=>orE (vY P fr M nx o) fun _=>zeU P fr M nx op T x y
inductive SgE where
 | plain (f:Nat -> Fr -> Mem -> Nat -> jE)
 | call (f:Rec -> Nat -> Fr -> Mem -> Nat -> Option (OX × Mem × Nat)) (dirty:Fr -> Bool)
 | oth (f:St -> Option (OX × St))
def sgE (P:Program) (drt:FuncId -> Bool) (o:Oper):SgE:=match o.op with
 | .move x=>.plain fun _ fr M nx=>zef fr M nx x
 | .assign x=>.plain fun _ fr M nx=>zef fr M nx x
 | .pick c x y=>.plain fun _ fr M nx=>zib fr M nx c x y
 | .alloc T=>.plain fun _ _ M nx=>zeN P M nx T
 | .box _ x=>.plain fun _ fr M nx=>zlx fr M nx x
 | .load T p=>.plain fun _ fr M nx=>ziv P fr M nx T p
 | .store T p x=>.plain fun lim fr M nx=>zeQ P lim fr M nx T p x
 | .fieldAddr T x k=>.plain fun _ fr M nx=>xZ P fr M nx T x k
 | .indexAddr T x i=>.plain fun _ fr M nx=>zac P fr M nx T x i
 | .makeFunc f a b=>.plain fun _ fr M nx=>zbk fr M nx f a b
 | .extract t i=>.plain fun _ fr M nx=>zcA fr M nx t i
 | .binOp op T x y _=>.plain fun _ fr M nx=>zpD P fr M nx o (sgI op) op T x y
 | .call { callee:=.value f, args, .. }=>.call (fun rec lim fr M nx=>match evV fr f, evL fr args.toList with
   | some (.fn g a b), some vs=>match rec lim (.call g (a ++ vs ++ b) M nx) with
    | some (.out x M' nx')=>some (x, M', nx')
    | _=>none
   | some (.yld l), some vs=>match rec lim (.yld l vs M nx) with
    | some (.out x M' nx')=>some (x, M', nx')
    | _=>none
   | _, _=>none) (fun fr=>match evV fr f with | some (.fn g _ _)=>drt g | _=>true)
 | .call { callee:=.builtin .recover, .. }=>.oth fun s=>match s.up with
  | .pan v=>some (.val v, { s with up:=.got })
  | .ret=>some (.val (.c .nilIface), s)
  | _=>none
 | .defer { callee:=.value f, args, .. }=>.oth fun s=>bif s.rnd then none else match evV s.fr f, evL s.fr args.toList with
  | some (.fn g a b), some vs=>some (.val (.tup []), { s with dfs:=.call g (a ++ vs ++ b) :: s.dfs })
  | _, _=>none
 | .panic x=>.oth fun s=>match evV s.fr x with
  | some (.ifc T y)=>some (.pan (.ifc T y), s)
  | _=>none
 | .call { callee:=.builtin b, args, argTypes }=>.plain fun lim fr M nx=>ziD P lim fr M nx o b args.toList argTypes.toList
 | _=>.plain fun lim fr M nx=>zqy P lim fr M nx o
inductive SgR where
 | mk (g:Option (Option (Nat × Bool))) (dst:Option Nat) (f:SgE)
def sgW (ops:Array Oper) (o:Oper):Option (Option (Nat × Bool)):=match o.guard with
 | none=>some none
 | some (j, want)=>match ops[j]? with
  | none=>none
  | some g=>match g.dst with
   | none=>none
   | some t=>some (some (t, want))
def sgR (P:Program) (drt:FuncId -> Bool) (ops:Array Oper) (o:Oper):SgR:=match sgE P drt o, sgW ops o, o.dst with
 | f, g, d=>.mk g d f
def zir (P:Program) (drt:FuncId -> Bool) (ops:Array Oper):List Oper -> List SgR
 | []=>[]
 | o :: l=>sgR P drt ops o :: zir P drt ops l
def zha (g:Option (Option (Nat × Bool))) (fr:Fr):Option Bool:=match g with
 | none=>some false
 | some none=>some true
 | some (some (t, want))=>match fr.get t with
  | some (.c (.bool b))=>some (bif want then b else !b)
  | some (.tup [])=>some false
  | _=>none
def zdg (fr:Fr) (n:Nat) (dst:Option Nat) (v:VV):Option Fr:=match dst with
 | none=>some fr
 | some d=>bif Nat.blt d n && Nat.blt d 512 then match fr.set d v with
  | ⟨a0, a1, a2, a3, a4, a5, a6, a7⟩=>some ⟨a0, a1, a2, a3, a4, a5, a6, a7⟩ else none
def zj6 (rec:Rec) (lim:Nat) (l:List SgR):St -> Option (XE × St):=
 @List.rec SgR (fun _=>St -> Option (XE × St)) (fun s=>some (.normal, s)) (fun r _ ih s=>match r with
  | .mk g dst f=>match s with
   | ⟨fr, dfs, up, M, nx, rnd, n, fid⟩=>match zha g fr with
    | some true=>match f with
     | .plain f=>match f lim fr M nx with
      | some (v, M', nx')=>bif Nat.ble nx nx' then match zdg fr n dst v with
       | some fr'=>ih ⟨fr', dfs, up, M', nx', rnd, n, fid⟩
       | none=>none else none
      | none=>none
     | .call f _=>match f rec lim fr M nx with
      | some (.val v, M', nx')=>match zdg fr n dst v with
       | some fr'=>ih ⟨fr', dfs, up, M', nx', rnd, n, fid⟩
       | none=>none
      | some (.pan v, M', nx')=>some (.pan v, ⟨fr, dfs, up, M', nx', rnd, n, fid⟩)
      | none=>none
     | .oth f=>match f ⟨fr, dfs, up, M, nx, rnd, n, fid⟩ with
      | some (.val v, s1)=>match zdg s1.fr s1.n dst v with
       | some fr'=>ih { s1 with fr:=fr' }
       | none=>none
      | some (.pan v, s1)=>some (.pan v, s1)
      | none=>none
    | some false=>match zdg fr n dst (.tup []) with
     | some fr'=>ih ⟨fr', dfs, up, M, nx, rnd, n, fid⟩
     | none=>none
    | none=>none) l
def zrf (o:Oper):Bool:=match o.op with
 | .move _ | .assign _ | .pick _ _ _ | .fieldAddr _ _ _ | .indexAddr _ _ _ | .makeFunc _ _ _ | .extract _ _ | .binOp _ _ _ _ _ | .unOp _ _ _ | .field _ _ _ | .index _ _ _ | .makeInterface _ _ | .nilCheck _ | .typeAssert _ _ _ _ | .slice _ _ _ _ _ | .convert _ _ _=>true
 | .call { callee:=.builtin .len, .. } | .call { callee:=.builtin .min, .. } | .call { callee:=.builtin .max, .. }=>true
 | _=>false
def vId:VV -> List Nat
 | .ptr l _=>[l]
 | .sl l _ _ _ _=>[l]
 | .mp l=>[l]
 | _=>[]
def zga:Nat -> VV -> List Nat
 | 0, _=>[]
 | n + 1, v=>match v with
  | .ptr l _=>[l]
  | .sl l _ _ _ _=>[l]
  | .mp l=>[l]
  | .agg cs=>cs.flatMap (zga n)
  | .tup cs=>cs.flatMap (zga n)
  | .fn _ a b=>a.flatMap (zga n) ++ b.flatMap (zga n)
  | .ifc _ y=>zga n y
  | _=>[]
def zsi:VO -> List Nat
 | .cells cs=>cs.flatMap (zga 6)
 | .ro cs=>cs.flatMap (zga 6)
 | .tc _ _ cs=>cs.flatMap (zga 6)
 | .map es _=>es.flatMap fun e=>zga 6 e.key ++ zga 6 e.val
 | _=>[]
def ziG (x:Nat):List Nat -> Bool
 | []=>false
 | y :: l=>bif Nat.beq x y then true else ziG x l
def zh2 (M:Mem):Nat -> List Nat -> List Nat -> List Nat
 | 0, _, seen=>seen
 | _ + 1, [], seen=>seen
 | n + 1, l :: todo, seen=>bif ziG l seen then zh2 M n todo seen else match M.get l with
  | some o=>zh2 M n (zsi o ++ todo) (l :: seen)
  | none=>zh2 M n todo seen
def zsM:VV -> Bool
 | .yld _=>true
 | _=>false
def ztE (xs:List Operand) (fr:Fr) (M:Mem) (nx:Nat):List Nat:=match evL fr xs with
 | some vs=>bif vs.any zsM then kX 0 nx else zh2 M 20000 (vs.flatMap (zga 6)) []
 | none=>[]
def opsV (xs:List Operand) (fr:Fr) (_:Mem) (_:Nat):List Nat:=xs.flatMap fun x=>match evV fr x with
 | some v=>vId v
 | none=>[]
inductive SgV where
 | mk (f:Fr -> Mem -> Nat -> List Nat)
def sgV (o:Oper):SgV:=match o.op with
 | .alloc _ | .box _ _ | .build _ _ | .buildSlice _ _ _ | .makeMap _ _=>.mk fun _ _ _=>[]
 | .call { callee:=.value f, args, .. }=>.mk (ztE (f :: args.toList))
 | op=>.mk (opsV op.operands.toList)
inductive SgD where
 | mk (g:Option (Option (Nat × Bool))) (dst:Option Nat) (f:SgE) (i:Nat) (looks:List Tmp) (ok:Bool) (mask:Nat) (cut pure:Bool) (view:SgV)
def sgD (P:Program) (drt:FuncId -> Bool) (ops:Array Oper) (i:Nat) (o:Oper):SgD:=match sgE P drt o, sgW ops o, o.dst, o.looksAt ops, zfH ops i (o.looksAt ops), maskAt ops i, zh6 ops i, zrf o, sgV o with
 | f, g, d, l, b, m, c, p, w=>.mk g d f i l b m c p w
def zm2 (P:Program) (drt:FuncId -> Bool) (ops:Array Oper):Nat -> List Oper -> List SgD
 | _, []=>[]
 | i, o :: l=>sgD P drt ops i o :: zm2 P drt ops (i + 1) l
def zii (rec:Rec) (f:SgE) (fr:Fr) (M:Mem) (nx:Nat):Option (VV × Mem × Nat):=match f with
 | .plain f=>match f nx fr M nx with
  | some (v, M', nx')=>bif Nat.ble nx nx' then some (v, M', nx') else none
  | none=>none
 | .call f dirty=>bif dirty fr then none else match f rec nx fr M nx with
  | some (.val v, M', nx')=>some (v, M', nx')
  | _=>none
 | .oth _=>none
def zn9 (rec:Rec) (lim:Nat) (f:SgE) (fr:Fr) (M:Mem) (nx:Nat):Option (VV × Mem × Nat):=match f with
 | .plain f=>match f lim fr M nx with
  | some (v, M', nx')=>bif Nat.ble nx nx' then some (v, M', nx') else none
  | none=>none
 | .call f _=>match f rec lim fr M nx with
  | some (.val v, M', nx')=>some (v, M', nx')
  | _=>none
 | .oth _=>none
def zss (rec:Rec) (lim:Nat) (f:SgE) (s:St):Option (OX × St):=match f with
 | .plain f=>match s with
  | ⟨fr, dfs, up, M, nx, rnd, n, fid⟩=>match f lim fr M nx with
   | some (v, M', nx')=>bif Nat.ble nx nx' then some (.val v, ⟨fr, dfs, up, M', nx', rnd, n, fid⟩) else none
   | none=>none
 | .call f _=>match s with
  | ⟨fr, dfs, up, M, nx, rnd, n, fid⟩=>match f rec lim fr M nx with
   | some (x, M', nx')=>some (x, ⟨fr, dfs, up, M', nx', rnd, n, fid⟩)
   | none=>none
 | .oth f=>f s
inductive FE where
 | mk (i:Nat) (V:List Nat) (ch:Bool) (lo hi:Nat)
def zf0 (W:List Nat):List Nat -> Bool
 | []=>true
 | x :: V=>bif ziG x W then false else zf0 W V
def zkh (lo hi:Nat):List Nat -> Bool
 | []=>true
 | x :: V=>bif Nat.ble lo x && Nat.blt x hi then false else zkh lo hi V
def zo7 (nx:Nat):List Nat -> Bool
 | []=>true
 | x :: V=>bif Nat.blt x nx && Nat.blt x 16777215 then zo7 nx V else false
def zhf (M:Mem):List Nat -> Bool
 | []=>true
 | x :: V=>match M.get x with
  | some o=>bif o.still then false else zhf M V
  | none=>zhf M V
def zfq (mask:Nat) (V:List Nat) (ch:Bool):List FE -> Bool
 | []=>true
 | .mk i W c lo hi :: l=>bif Nat.testBit mask i then zfq mask V ch l else bif (bif c || ch then zf0 W V else true) && zkh lo hi V then zfq mask V ch l else false
inductive DR where
 | val (v:VV) (M:Mem) (nx:Nat) (d:List FE)
 | hard (v:VV) (s:St)
 | pan (v:VV) (s:St)
def zrt (rec:Rec) (lim:Nat) (g:Option (Option (Nat × Bool))) (f:SgE) (s:St):Option DR:=match zha g s.fr with
 | some true=>match zss rec lim f s with
  | some (.val v, s1)=>some (.hard v s1)
  | some (.pan v, s1)=>some (.pan v s1)
  | none=>none
 | _=>none
def zrN (rec:Rec) (lim:Nat) (g:Option (Option (Nat × Bool))) (f:SgE) (i mask:Nat) (cut:Bool) (mi:Fr) (s:St) (V:List Nat) (d:List FE):Option DR:=bif Nat.blt 0 s.nx && zo7 s.nx V then
 match bif zfq mask V false d then zii rec f mi (zca s.M (0 :: V)) s.nx else none with
 | some (v, M', nx')=>bif Nat.beq nx' s.nx then some (.val v s.M s.nx (.mk i V false s.nx s.nx :: d))
  else bif Nat.ble s.nx nx' && Nat.blt nx' 16777215 then some (.val v (kJ s.M M' (kX s.nx (nx' - s.nx))) nx' (.mk i V false s.nx nx' :: d)) else none
 | none=>bif cut then zrt rec lim g f s else bif zfq mask V true d && (zhf s.M V && (!ziG 0 V && Nat.blt 0 lim)) then match zn9 rec lim f mi (zca s.M (0 :: V)) s.nx with
  | some (v, M', nx')=>bif Nat.beq nx' s.nx || Nat.ble s.nx nx' && Nat.blt nx' 16777215 then some (.val v (kJ s.M M' (V ++ kX s.nx (nx' - s.nx))) nx' (.mk i V true s.nx nx' :: d)) else none
  | none=>none else none
 else none
def zpR (rec:Rec) (lim:Nat) (g:Option (Option (Nat × Bool))) (f:SgE) (i mask:Nat) (cut pure:Bool) (view:SgV) (mi:Fr) (s:St) (d:List FE):Option DR:=match zha g mi with
 | some false=>bif Nat.blt 0 s.nx then some (.val (.tup []) s.M s.nx (.mk i [] false s.nx s.nx :: d)) else none
 | some true=>match bif pure && Nat.blt 0 s.nx then zii rec f mi .lf s.nx else none with
  | some (v, _, nx')=>bif Nat.beq nx' s.nx then some (.val v s.M s.nx (.mk i [] false s.nx s.nx :: d)) else none
  | none=>match view with
   | .mk w=>zrN rec lim g f i mask cut mi s (w mi s.M s.nx) d
 | none=>none
def zjM (rec:Rec) (lim:Nat) (l:List SgD):St -> List FE -> Option (XE × St):=
 @List.rec SgD (fun _=>St -> List FE -> Option (XE × St)) (fun s _=>some (.normal, s)) (fun r _ ih s d=>match r with
  | .mk g dst f i looks ok mask cut pure view=>bif ok then match mini s.fr looks with
    | ⟨a0, a1, a2, a3, a4, a5, a6, a7⟩=>match zpR rec lim g f i mask cut pure view ⟨a0, a1, a2, a3, a4, a5, a6, a7⟩ s d with
     | some (.val v M nx d')=>match s with
      | ⟨fr, dfs, up, _, _, rnd, n, fid⟩=>match zdg fr n dst v with
       | some fr'=>ih ⟨fr', dfs, up, M, nx, rnd, n, fid⟩ d'
       | none=>none
     | some (.hard v s1)=>match s1 with
      | ⟨fr, dfs, up, M, nx, rnd, n, fid⟩=>match zdg fr n dst v with
       | some fr'=>ih ⟨fr', dfs, up, M, nx, rnd, n, fid⟩ []
       | none=>none
     | some (.pan v s1)=>some (.pan v, s1)
     | none=>none else none) l
def rfE (rec:Rec) (lim:Nat) (f:Operand) (params:Array Tmp) (assign body:Code) (s:St):Option Res:=bif s.rnd then none else bif Nat.blt (s.nx + 2) 16777215 then match evV s.fr f with
 | some (.fn g a b)=>match rec lim (.call g (a ++ [.yld (s.nx + 1)] ++ b) (rfM s params assign body) (s.nx + 2)) with
  | some (.out (.val _) M2 nx2)=>match M2.get (s.nx + 1) with
   | some (.loop st pe fn n fr ps as bo df)=>bif Nat.blt nx2 16777215 then match st with
    | .busy=>none
    | _=>match znZ pe with
     | some e=>some (.code e { s with M:=M2.set (s.nx + 1) (some (.loop .exhausted pe fn n fr ps as bo df)), nx:=nx2, dfs:=.coll s.nx :: s.dfs })
     | none=>none else none
   | _=>none
  | some (.out (.pan v) M2 nx2)=>some (.code (.pan v) { s with M:=M2, nx:=nx2, dfs:=.coll s.nx :: s.dfs })
  | _=>none
 | _=>none else none
def okD (P:Program) (ops:Array Oper):Bool:=P.follows .mixedOrders && upB ops && zdO ops.toList 0
inductive SgC where
 | mk (f:Rec -> Nat -> St -> Option Res)
def SgC.run:SgC -> Rec -> Nat -> St -> Option Res
 | .mk f, rec, lim, s=>f rec lim s
def sgC (P:Program) (drt:FuncId -> Bool) (c:Code):SgC:=match c with
 | .skip=>.mk fun _ _ s=>some (.code .normal s)
 | .label _=>.mk fun _ _ s=>some (.code .normal s)
 | .exit i=>.mk fun _ _ s=>some (.code (.exit i) s)
 | .goto l=>.mk fun _ _ s=>some (.code (.goto l) s)
 | .ret=>.mk fun _ _ s=>some (.code .ret s)
 | .seq a b=>.mk fun rec lim s=>match (sgC P drt a).run rec lim s with
  | some (.code .normal s1)=>(sgC P drt b).run rec lim s1
  | r=>r
 | .cond x a b=>.mk fun rec lim s=>match zjj s.fr x with
  | some true=>(sgC P drt a).run rec lim s
  | some false=>(sgC P drt b).run rec lim s
  | none=>none
 | .block id a=>.mk fun rec lim s=>match (sgC P drt a).run rec lim s with
  | some (.code (.exit i) s1)=>bif Nat.beq i id then some (.code .normal s1) else some (.code (.exit i) s1)
  | r=>r
 | .loop a=>.mk fun rec lim s=>rec lim (.loop a s)
 | .scope a=>.mk fun rec lim s=>rec lim (.scope a a s)
 | .region _ ops draws=>match draws with
  | false=>.mk fun rec lim s=>match zj6 rec lim (zir P drt ops ops.toList) s with
   | some (e, s1)=>some (.code e s1)
   | none=>none
  | true=>match okD P ops with
   | true=>.mk fun rec lim s=>match zjM rec lim (zm2 P drt ops 0 ops.toList) s [] with
    | some (e, s1)=>some (.code e s1)
    | none=>none
   | false=>.mk fun _ _ _=>none
 | .rangeFunc f params assign body=>.mk fun rec lim s=>rfE rec lim f params assign body s
 | .refuse _=>.mk fun _ _ _=>none
inductive SgF where
 | bad
 | mk (fn:Func) (c:Code)
def sgF (P:Program) (f:FuncId):SgF:=match P.funcs[f]? with
 | some fn=>match fn.body with
  | some c=>match fn.name == "runtime.NumGoroutine" with
   | true=>.bad
   | false=>.mk fn c
  | none=>.bad
 | none=>.bad
def zjx:Up -> Bool
 | .no=>true
 | _=>false
def stepS (P:Program) (drt:FuncId -> Bool) (orc:Orc) (rec:Rec) (lim:Nat):Job -> Option Res
 | .code c s=>(sgC P drt c).run rec lim s
 | .loop c s=>match (sgC P drt c).run rec lim s with
  | some (.code .normal s1)=>rec lim (.loop c s1)
  | r=>r
 | .scope body c s=>match (sgC P drt c).run rec lim s with
  | some (.code (.goto l) s1)=>match findLabel body l with
   | some rest=>rec lim (.scope body rest s1)
   | none=>some (.code (.goto l) s1)
  | r=>r
 | .call f vs M nx=>match orc lim f vs M nx with
  | some (v, M', nx')=>some (.out (.val v) M' nx')
  | none=>match sgF P f with
   | .mk fn c=>bif Nat.ble vs.length fn.ntmps && Nat.blt vs.length 512 then match (sgC P drt c).run rec lim { fr:=zce 0 vs, dfs:=[], up:=.no, M, nx, rnd:=false, n:=fn.ntmps, fid:=f } with
    | some (.code e s1)=>bif s1.rnd then none else match e with
     | .normal=>rec lim (.leave f s1 none)
     | .ret=>rec lim (.leave f s1 none)
     | .pan v=>rec lim (.leave f s1 (some v))
     | _=>none
    | _=>none else none
   | .bad=>none
 | .yld l vs M nx=>match M.get l with
  | some (.loop .ready _ fn n fr ps as bo _)=>bif Nat.beq vs.length ps.size && ps.toList.all (fun t=>xM n (some t)) && Nat.ble lim l then
   match (sgC P drt as).run rec lim { fr:=vz fr ps.toList vs, dfs:=[], up:=.no, M, nx, rnd:=true, n, fid:=fn } with
   | some (.code .normal s1)=>match s1.M.get l with
    | some (.loop .ready pe1 fn1 n1 fr1 ps1 as1 bo1 df1)=>bif Nat.blt s1.nx 16777215 && zjx s1.up then
     match (sgC P drt bo).run rec lim { s1 with M:=s1.M.set l (some (.loop .busy pe1 fn1 n1 fr1 ps1 as1 bo1 df1)) } with
     | some (.code (.pan v) s2)=>bif zjx s2.up then match s2.dfs, P.funcs[fn]? with
      | [], some _=>some (.out (.pan v) s2.M s2.nx)
      | _, _=>none else none
     | some (.code e s2)=>match roundEnd e, s2.M.get l with
      | some (q, st', pe'), some (.loop _ _ fn2 n2 fr2 ps2 as2 bo2 df2)=>bif Nat.blt s2.nx 16777215 && zjx s2.up then some (.out (.val (.c (.bool q))) (s2.M.set l (some (.loop st' pe' fn2 n2 fr2 ps2 as2 bo2 df2))) s2.nx) else none
      | _, _=>none
     | _=>none else none
    | _=>none
   | _=>none else none
  | _=>none
 | .leave f s pm=>match s.dfs with
  | []=>match pm with
   | none=>match P.funcs[f]? with
    | some fn=>match resV P s.fr s.M fn.results.toList with
     | some v=>some (.out (.val v) s.M s.nx)
     | none=>none
    | none=>none
   | some v=>some (.out (.pan v) s.M s.nx)
  | .coll l :: ds=>match s.M.get l with
   | some (.dfd true)=>bif Nat.ble lim l && Nat.blt s.nx 16777215 then rec lim (.leave f { s with dfs:=ds, M:=s.M.set l (some (.dfd false)) } pm) else none
   | _=>none
  | .call g vs :: ds=>match rec lim (.dcall g vs pm s.M s.nx) with
   | some (.dout pm1 M nx)=>rec lim (.leave f { s with dfs:=ds, M, nx } pm1)
   | _=>none
 | .dcall f vs pm M nx=>match sgF P f with
  | .mk fn c=>bif Nat.ble vs.length fn.ntmps && Nat.blt vs.length 512 then match (sgC P drt c).run rec lim { fr:=zce 0 vs, dfs:=[], up:=zrB pm, M, nx, rnd:=false, n:=fn.ntmps, fid:=f } with
   | some (.code e s1)=>match e, s1.dfs, resV P s1.fr s1.M fn.results.toList, zsK s1.up with
    | .normal, [], some _, some pm1=>some (.dout pm1 s1.M s1.nx)
    | .ret, [], some _, some pm1=>some (.dout pm1 s1.M s1.nx)
    | _, _, _, _=>none
   | _=>none else none
  | .bad=>none
def evS (P:Program) (drt:FuncId -> Bool) (orc:Orc):Nat -> Rec:=
 @Nat.rec (fun _=>Rec) (fun _ _=>none) (fun _ ih lim j=>stepS P drt orc ih lim j)
end
end Go.Bv
end
section
namespace Go.Bv
open Go.RowKit
noncomputable section
def zq7 (P:Program) (lim:Nat):Job -> Res -> Prop
 | .code c s, .code e s'=>TS P lim [.code c] s e s'
 | .loop c s, .code e s'=>TS P lim [.code c, .inLoop c] s e s'
 | .scope body c s, .code e s'=>TS P lim [.code c, .inScope body] s e s'
 | .call f vs M nx, .out o M' nx'=>Av.Enters P f /\ zdx P lim f vs M nx o M' nx'
 | .yld l vs M nx, .out o M' nx'=>ziO P lim l vs M nx o M' nx'
 | .leave f s pm, .out o M' nx'=>∀ fn, P.funcs[f]? = some fn -> zan P lim fn s pm o M' nx'
 | .dcall f vs pm M nx, .dout pm' M' nx'=>Av.Enters P f /\ zsn P lim f vs M nx pm pm' M' nx'
 | _, _=>False
def zbC (P:Program) (rec:Rec):Prop:=∀ lim j r, rec lim j = some r -> zq7 P lim j r
section
variable {P:Program} {lim:Nat} {drt:FuncId -> Bool} {rec:Rec} {o:Oper}
theorem zeR {n:Int} {v:Value} (h:zk7 n = some v):v = .int .i64 n /\ -9223372036854775808 <= n /\ n <= 9223372036854775807:=by
 cases n with
 | ofNat n=>
  simp only[zk7] at h
  cases hb:Nat.blt n 9223372036854775808 with
  | false=>simp [hb] at h
  | true=>
   simp only[hb, cond_true, zLs] at h
   have:=qo.1 hb
   exact ⟨h.symm, by show (-9223372036854775808:Int) <= (n:Int); omega, by show (n:Int) <= _; omega⟩
 | negSucc n=>
  simp only[zk7] at h
  cases hb:Nat.blt n 9223372036854775808 with
  | false=>simp [hb] at h
  | true=>
   simp only[hb, cond_true, zLs] at h
   have:=qo.1 hb
   exact ⟨h.symm, by omega, by omega⟩
theorem znl (n:Int):isNeg n = decide (n < 0):=by
 cases n with
 | ofNat n=>simp [isNeg]
 | negSucc n=>simp [isNeg]
theorem zkz (n:Int):isZero n = decide (n = 0):=by
 cases n with
 | ofNat n=>cases n with
  | zero=>rfl
  | succ n=>rw [eq_comm]; show decide _ = false; rw [decide_eq_false_iff_not]; show ¬ ((n + 1:Nat):Int) = 0; omega
 | negSucc n=>simp [isZero]
theorem zrJ {op:BinOp} {f:Int -> Int -> Option Value} (hg:sgI op = .mk f) {p q:Int} {v:Value} (h:f p q = some v) {T:TypeId} (w:World):(binOp op T (.int .i64 p) (.int .i64 q)).run P w = .ok v w /\ v.oneCell' = true:=by
  cases op <;> simp only[sgI, SgI.mk.injEq] at hg <;> subst hg <;> simp only[zLs, reduceCtorEq] at h
  · obtain ⟨rfl, h1, h2⟩:=zeR h; exact ⟨by simp [binOp, Op.intArith, Av.wrap_i64 h1 h2], rfl⟩
  · obtain ⟨rfl, h1, h2⟩:=zeR h; exact ⟨by simp [binOp, Op.intArith, Av.wrap_i64 h1 h2], rfl⟩
  · obtain ⟨rfl, h1, h2⟩:=zeR h; exact ⟨by simp [binOp, Op.intArith, Av.wrap_i64 h1 h2], rfl⟩
  all_goals
    subst h
    refine ⟨?_, rfl⟩
    simp only[binOp, Op.intCmp, znl, zkz, Sem.run_pure, ne_eq, not_true, if_false]
    first
      | (by_cases hh : p = q
         · subst hh; simp
         · have:¬ p - q = 0:=by omega
           simp [hh, this])
      | (congr 2; by_cases h1:p - q < 0 <;> by_cases h2:q - p < 0 <;> simp [h1, h2] <;> omega)
theorem zn6 {fr:Fr} {M:Mem} {nx:Nat} {op:BinOp} {T U:TypeId} {x y:Operand} {v:VV} {M':Mem} {nx':Nat} (ho:o.op = .binOp op T x y U) (h:zpD P fr M nx o (sgI op) op T x y = some (v, M', nx')):OpS P lim fr M nx o v M' nx':=by
 unfold zpD at h
 split at h
 rename_i f hg
 split at h
 ·rename_i p q hx hy
  split at h
  ·rename_i c hc
   simp only[zLs, zLp] at h
   obtain ⟨rfl, rfl, rfl⟩:=h
   refine qM fun B n ρ w a hm hf=>?_
   have h1:=zY hf hx
   have h2:=zY hf hy
   simp only[VRel] at h1 h2
   obtain ⟨h3, h4⟩:=zrJ (P:=P) hg hc (T:=T) w
   refine ⟨c, ?_, by simp only[VRel]; exact ⟨trivial, h4⟩⟩
   have hq:(eqGuard op T x y (.int .i64 p) (.int .i64 q)).run P w = .ok () w:=by
    unfold eqGuard; split <;> rfl
   simp [execOp, ho, h1.1, h2.1, hq, h3]
  ·exact jX h
 ·rcases vk h with h | h
  ·exact jX h
  ·exact zfd ho h
theorem zcm {f:Nat -> Fr -> Mem -> Nat -> jE} (h:sgE P drt o = .plain f) {fr:Fr} {M:Mem} {nx:Nat} {v:VV} {M':Mem} {nx':Nat} (hf:f lim fr M nx = some (v, M', nx')):OpS P lim fr M nx o v M' nx' /\ ∀ c, o.op ≠ .defer c:=by
 unfold sgE at h
 split at h <;> simp only[SgE.plain.injEq, reduceCtorEq] at h <;> subst h <;> rename_i ho
 ·exact ⟨zct (.inl ho) hf, by simp [ho]⟩
 ·exact ⟨zct (.inr ho) hf, by simp [ho]⟩
 ·exact ⟨zgS ho hf, by simp [ho]⟩
 ·exact ⟨zfA ho hf, by simp [ho]⟩
 ·exact ⟨zjN ho hf, by simp [ho]⟩
 ·exact ⟨zgR ho hf, by simp [ho]⟩
 ·exact ⟨zfQ ho hf, by simp [ho]⟩
 ·exact ⟨zbL ho hf, by simp [ho]⟩
 ·exact ⟨zcd ho hf, by simp [ho]⟩
 ·exact ⟨zcG ho hf, by simp [ho]⟩
 ·exact ⟨zdE ho hf, by simp [ho]⟩
 ·exact ⟨zn6 ho hf, by simp [ho]⟩
 ·exact ⟨zgT ho hf, by simp [ho]⟩
 ·refine ⟨zqb hf, fun c hc=>?_⟩
  simp [zqy, hc] at hf
theorem zbU {f:Rec -> Nat -> Fr -> Mem -> Nat -> Option (OX × Mem × Nat)} {dirty:Fr -> Bool} (hr:zbC P rec) (h:sgE P drt o = .call f dirty) {s:St} {out:OX} {M':Mem} {nx':Nat} (hf:f rec lim s.fr s.M s.nx = some (out, M', nx')):OpT P lim o s out { s with M:=M', nx:=nx' }:=by
 unfold sgE at h
 split at h <;> simp only[SgE.call.injEq, reduceCtorEq] at h
 rename_i fop args tys ho
 obtain ⟨h, _⟩:=h
 subst h
 simp only at hf
 split at hf
 ·rename_i g a b vs h1 h2
  split at hf
  ·rename_i x M1 nx1 h3
   simp only[zLs, zLp] at hf
   obtain ⟨rfl, rfl, rfl⟩:=hf
   obtain ⟨he, hc⟩:=hr _ _ _ h3
   exact zoo ho he h1 h2 hc
  ·cases hf
 ·rename_i l vs h1 h2
  split at hf
  ·rename_i x M1 nx1 h3
   simp only[zLs, zLp] at hf
   obtain ⟨rfl, rfl, rfl⟩:=hf
   exact zmG ho h1 h2 (hr _ _ _ h3)
  ·cases hf
 ·cases hf
theorem zh0 {f:St -> Option (OX × St)} (h:sgE P drt o = .oth f) {s s1:St} {out:OX} (hf:f s = some (out, s1)):OpT P lim o s out s1:=by
 unfold sgE at h
 split at h <;> simp only[SgE.oth.injEq, reduceCtorEq] at h <;> subst h
 ·rename_i args tys ho
  simp only at hf
  split at hf
  ·rename_i v hv
   simp only[zLs, zLp] at hf
   obtain ⟨rfl, rfl⟩:=hf
   exact zjF ho hv
  ·rename_i hv
   simp only[zLs, zLp] at hf
   obtain ⟨rfl, rfl⟩:=hf
   exact ziH ho hv
  ·cases hf
 ·rename_i fop args tys ho
  simp only at hf
  by_cases hrn:s.rnd = true
  ·rw [hrn] at hf; simp at hf
  ·have hrn:s.rnd = false:=by simpa using hrn
   have hrn2:=hrn
   rw [hrn] at hf
   simp only[cond_false] at hf
   split at hf
   ·rename_i g a b vs h1 h2
    simp only[zLs, zLp] at hf
    obtain ⟨rfl, rfl⟩:=hf
    have:=zml (P:=P) (lim:=lim) ho hrn h1 h2
    simp only[hrn] at this
    exact this
   ·cases hf
 ·rename_i x ho
  simp only at hf
  split at hf
  ·rename_i T y h1
   simp only[zLs, zLp] at hf
   obtain ⟨rfl, rfl⟩:=hf
   exact zmm ho h1
  ·cases hf
theorem zma (hr:zbC P rec) {s s1:St} {out:OX} (h:zss rec lim (sgE P drt o) s = some (out, s1)):OpT P lim o s out s1:=by
 unfold zss at h
 cases hE:sgE P drt o with
 | plain f=>
  rw [hE] at h
  simp only at h
  split at h
  ·rename_i v M' nx' hf
   cases hb:Nat.ble s.nx nx' with
   | false=>rw [hb] at h; simp at h
   | true=>
    rw [hb] at h
    simp only[cond_true, zLs, zLp] at h
    obtain ⟨rfl, rfl⟩:=h
    obtain ⟨h1, h2⟩:=zcm hE hf
    exact zcw (zLb hb) h2 h1
  ·cases h
 | call f dirty=>
  rw [hE] at h
  simp only at h
  split at h
  ·rename_i x M' nx' hf
   simp only[zLs, zLp] at h
   obtain ⟨rfl, rfl⟩:=h
   exact zbU hr hE hf
  ·cases h
 | oth f=>rw [hE] at h; exact zh0 hE h
theorem zhi (hr:zbC P rec) {fr:Fr} {M:Mem} {nx:Nat} {v:VV} {M':Mem} {nx':Nat} (h:zii rec (sgE P drt o) fr M nx = some (v, M', nx')) (s:St):OpT P nx o { s with fr:=fr, M:=M, nx:=nx } (.val v) { s with fr:=fr, M:=M', nx:=nx' }:=by
 unfold zii at h
 cases hE:sgE P drt o with
 | plain f=>
  rw [hE] at h
  simp only at h
  split at h
  ·rename_i v' M1 nx1 hf
   cases hb:Nat.ble nx nx1 with
   | false=>rw [hb] at h; simp at h
   | true=>
    rw [hb] at h
    simp only[cond_true, zLs, zLp] at h
    obtain ⟨rfl, rfl, rfl⟩:=h
    obtain ⟨h1, h2⟩:=zcm hE hf
    exact zcw (s:={ s with fr:=fr, M:=M, nx:=nx }) (zLb hb) h2 h1
  ·cases h
 | call f dirty=>
  rw [hE] at h
  simp only at h
  cases hd:dirty fr with
  | true=>rw [hd] at h; simp at h
  | false=>
   rw [hd] at h
   simp only[cond_false] at h
   split at h
   ·rename_i v' M1 nx1 hf
    simp only[zLs, zLp] at h
    obtain ⟨rfl, rfl, rfl⟩:=h
    exact zbU (s:={ s with fr:=fr, M:=M, nx:=nx }) hr hE hf
   ·cases h
 | oth f=>rw [hE] at h; cases h
theorem zov (hr:zbC P rec) {fr:Fr} {M:Mem} {nx:Nat} {v:VV} {M':Mem} {nx':Nat} (h:zn9 rec lim (sgE P drt o) fr M nx = some (v, M', nx')) (s:St):OpT P lim o { s with fr:=fr, M:=M, nx:=nx } (.val v) { s with fr:=fr, M:=M', nx:=nx' }:=by
 unfold zn9 at h
 cases hE:sgE P drt o with
 | plain f=>
  rw [hE] at h
  simp only at h
  split at h
  ·rename_i v' M1 nx1 hf
   cases hb:Nat.ble nx nx1 with
   | false=>rw [hb] at h; simp at h
   | true=>
    rw [hb] at h
    simp only[cond_true, zLs, zLp] at h
    obtain ⟨rfl, rfl, rfl⟩:=h
    obtain ⟨h1, h2⟩:=zcm hE hf
    exact zcw (s:={ s with fr:=fr, M:=M, nx:=nx }) (zLb hb) h2 h1
  ·cases h
 | call f dirty=>
  rw [hE] at h
  simp only at h
  split at h
  ·rename_i v' M1 nx1 hf
   simp only[zLs, zLp] at h
   obtain ⟨rfl, rfl, rfl⟩:=h
   exact zbU (s:={ s with fr:=fr, M:=M, nx:=nx }) hr hE hf
  ·cases h
 | oth f=>rw [hE] at h; cases h
theorem zbZ {ops:Array Oper} {fr:Fr} {b:Bool} (h:zha (sgW ops o) fr = some b):xe ops fr o = some b:=by
 unfold zha sgW at h
 unfold xe
 cases hg:o.guard with
 | none=>rw [hg] at h; simpa using h
 | some p=>
  obtain ⟨j, want⟩:=p
  rw [hg] at h
  simp only at h ⊢
  cases hj:ops[j]? with
  | none=>rw [hj] at h; simpa using h
  | some g=>
   rw [hj] at h
   simp only at h ⊢
   cases hd:g.dst with
   | none=>rw [hd] at h; simpa using h
   | some t=>
    rw [hd] at h
    simp only at h ⊢
    split at h
    ·rename_i c hc; rw [hc]; exact h
    ·rename_i hc; rw [hc]; exact h
    ·cases h
theorem zcq {fr fr':Fr} {n:Nat} {dst:Option Nat} {v:VV} (h:zdg fr n dst v = some fr'):xM n dst = true /\ fr' = zdf fr dst v:=by
 unfold zdg at h
 cases dst with
 | none=>simp only[zLs] at h; exact ⟨rfl, h.symm⟩
 | some d=>
  simp only at h
  cases hb:Nat.blt d n && Nat.blt d 512 with
  | false=>rw [hb] at h; simp at h
  | true=>
   rw [hb] at h
   simp only[cond_true, zLs] at h
   exact ⟨hb, h.symm⟩
theorem zdr (hr:zbC P rec) {ops:Array Oper}:∀ (l:List Oper) (k:Nat) (s s':St) (e:XE), (∀ j, l[j]? = ops[k + j]?) -> zj6 rec lim (zir P drt ops l) s = some (e, s') -> TS P lim [.inRegion ops (List.range' k l.length)] s e s'
 | [], k, s, s', e, _, h=>by
  simp only[zir, zj6, zLs, zLp] at h
  obtain ⟨rfl, rfl⟩:=h
  exact TS.opEnd
 | o :: l, k, s, s', e, hl, h=>by
  have h0:ops[k]? = some o:=by simpa using (hl 0).symm
  have hl':∀ j, l[j]? = ops[k + 1 + j]?:=fun j=>by have:=hl (j + 1); simpa [Nat.add_assoc, Nat.add_comm 1 j] using this
  have hstep:zj6 rec lim (zir P drt ops (o :: l)) s = match zha (sgW ops o) s.fr with
    | some true=>match sgE P drt o with
     | .plain f=>match f lim s.fr s.M s.nx with
      | some (v, M', nx')=>bif Nat.ble s.nx nx' then match zdg s.fr s.n o.dst v with
       | some fr'=>zj6 rec lim (zir P drt ops l) { s with fr:=fr', M:=M', nx:=nx' }
       | none=>none else none
      | none=>none
     | .call f _=>match f rec lim s.fr s.M s.nx with
      | some (.val v, M', nx')=>match zdg s.fr s.n o.dst v with
       | some fr'=>zj6 rec lim (zir P drt ops l) { s with fr:=fr', M:=M', nx:=nx' }
       | none=>none
      | some (.pan v, M', nx')=>some (.pan v, { s with M:=M', nx:=nx' })
      | none=>none
     | .oth f=>match f s with
      | some (.val v, s1)=>match zdg s1.fr s1.n o.dst v with
       | some fr'=>zj6 rec lim (zir P drt ops l) { s1 with fr:=fr' }
       | none=>none
      | some (.pan v, s1)=>some (.pan v, s1)
      | none=>none
    | some false=>match zdg s.fr s.n o.dst (.tup []) with
     | some fr'=>zj6 rec lim (zir P drt ops l) { s with fr:=fr' }
     | none=>none
    | none=>none:=by cases s; rfl
  rw [hstep] at h
  clear hstep
  rw [show (o :: l).length = l.length + 1 from rfl, List.range'_succ]
  split at h
  ·rename_i hw
   have hw:=zbZ hw
   split at h
   ·rename_i f hE
    split at h
    ·rename_i v M' nx' hf
     cases hb:Nat.ble s.nx nx' with
     | false=>rw [hb] at h; simp at h
     | true=>
      rw [hb] at h
      simp only[cond_true] at h
      split at h
      ·rename_i fr' hp
       obtain ⟨hd, rfl⟩:=zcq hp
       obtain ⟨h1, h2⟩:=zcm (lim:=lim) hE hf
       exact TS.opVal (s1:={ s with M:=M', nx:=nx' }) h0 hw hd (zcw (M':=M') (nx':=nx') (zLb hb) h2 h1) (zdr hr l (k + 1) _ _ _ hl' h)
      ·cases h
    ·cases h
   ·rename_i f dirty hE
    split at h
    ·rename_i v M' nx' hf
     split at h
     ·rename_i fr' hp
      obtain ⟨hd, rfl⟩:=zcq hp
      exact TS.opVal (s1:={ s with M:=M', nx:=nx' }) h0 hw hd (zbU hr hE hf) (zdr hr l (k + 1) _ _ _ hl' h)
     ·cases h
    ·rename_i v M' nx' hf
     simp only[zLs, zLp] at h
     obtain ⟨rfl, rfl⟩:=h
     exact TS.opPan h0 hw (zbU hr hE hf)
    ·cases h
   ·rename_i f hE
    split at h
    ·rename_i v s1 hf
     split at h
     ·rename_i fr' hp
      obtain ⟨hd, rfl⟩:=zcq hp
      exact TS.opVal h0 hw hd (zh0 hE hf) (zdr hr l (k + 1) _ _ _ hl' h)
     ·cases h
    ·rename_i v s1 hf
     simp only[zLs, zLp] at h
     obtain ⟨rfl, rfl⟩:=h
     exact TS.opPan h0 hw (zh0 hE hf)
    ·cases h
  ·rename_i hw
   have hw:=zbZ hw
   split at h
   ·rename_i fr' hp
    obtain ⟨hd, rfl⟩:=zcq hp
    exact TS.opSkip h0 hw hd (zdr hr l (k + 1) _ _ _ hl' h)
   ·cases h
  ·cases h
end
end
end Go.Bv
end
section
namespace Go.Bv
open Go.RowKit
noncomputable section
def ext {α:Type} (f:Nat -> α) (j:Nat) (x:α):Nat -> α:=fun i=>if i <= j then f i else x
theorem jS {α:Type} {f:Nat -> α} {j i:Nat} {x:α} (h:i <= j):ext f j x i = f i:=by simp [ext, h]
theorem zbp {α:Type} {f:Nat -> α} {j:Nat} {x:α}:ext f j x (j + 1) = x:=by
 have:¬ j + 1 <= j:=by omega
 simp [ext, this]
def zdz {α:Type} (f:Nat -> α) (j:Nat) (x:α):Nat -> α:=fun i=>if i = j then x else f i
theorem jZ {α:Type} {f:Nat -> α} {j i:Nat} {x:α} (h:i ≠ j):zdz f j x i = f i:=by simp [zdz, h]
theorem yP {α:Type} {f:Nat -> α} {j:Nat} {x:α}:zdz f j x j = x:=by simp [zdz]
section
variable {P:Program} {lim:Nat} {drt:FuncId -> Bool} {rec:Rec} {ops:Array Oper}
theorem StepF.ext {s:St} {k j i:Nat} {vf:Nat -> VV} {ff:Nat -> Fr} {Mf:Nat -> Mem} {nf:Nat -> Nat} {vw:Nat -> List Nat} {ch:Nat -> Bool} {v:VV} {fr:Fr} {M:Mem} {nx:Nat} {V:List Nat} {cx:Bool} (hi:i < j) (h:StepF P lim ops s k vf ff Mf nf vw ch i):
  StepF P lim ops s k (zdz vf j v) (Bv.ext ff j fr) (Bv.ext Mf j M) (Bv.ext nf j nx) (zdz vw j V) (zdz ch j cx) i:=by
 have wr:∀ i' x, i' <= i -> (wrB (zdz vw j V) (zdz ch j cx) (Bv.ext nf j nx) i' x ↔ wrB vw ch nf i' x):=fun i' x h=>by
  unfold wrB
  rw [jZ (by omega), jZ (by omega), jS (by omega), jS (by omega)]
 obtain ⟨o, l, a1, a2, a3, a4, a5, a6, a6', a7, a8, a9⟩:=h
 have e1:i <= j:=by omega
 have e2:i + 1 <= j:=by omega
 have e3:i ≠ j:=by omega
 refine ⟨o, l, a1, a2, a3, by rw [jS e1, jS e2, jZ e3]; exact a4, by rw [jS e1, jS e2]; exact a5, by rw [jS e1, jZ e3]; exact a6, by rw [jS e1, jZ e3, jZ e3]; exact a6', fun i' h1 h2 h3=>?_, fun x hx=>?_, ?_⟩
 ·rw [jZ e3, jZ e3, jZ (show i' ≠ j by omega)]
  exact ⟨fun x hx hw=>(a7 i' h1 h2 h3).1 x hx ((wr i' x (by omega)).1 hw), (a7 i' h1 h2 h3).2⟩
 ·rw [jS e1, jS e2]; exact a8 x fun hw=>hx ((wr i x (Nat.le_refl _)).2 hw)
 ·rw [jS e1, jS e1, jS e1, jS e2, jS e2, jZ e3, jZ e3, jZ e3]
  rcases a9 with a9 | ⟨b1, Mv, M'', b2, b3, b4, b5⟩
  ·exact .inl a9
  ·exact .inr ⟨b1, Mv, M'', b2, b3, fun x o' hw=>b4 x o' ((wr i x (Nat.le_refl _)).1 hw), b5⟩
theorem zfl {x:Nat}:∀ {l:List Nat}, ziG x l = true ↔ x ∈ l
 | []=>by simp [ziG]
 | y :: l=>by
  unfold ziG
  cases h:Nat.beq x y with
  | true=>have:=qI.1 h; simp [this]
  | false=>
   have:=zaq.1 h
   simp only[cond_false, zfl, List.mem_cons, this, false_or]
theorem zfs {W:List Nat}:∀ {V:List Nat}, zf0 W V = true -> ∀ x ∈ V, x ∉ W
 | [], _, x, h=>by simp at h
 | y :: V, h, x, hx=>by
  unfold zf0 at h
  cases hm:ziG y W with
  | true=>rw [hm] at h; cases h
  | false=>
   rw [hm] at h
   rcases List.mem_cons.1 hx with rfl | hx
   ·exact fun c=>by rw [zfl.2 c] at hm; cases hm
   ·exact zfs h x hx
theorem zmc {lo hi:Nat}:∀ {V:List Nat}, zkh lo hi V = true -> ∀ x ∈ V, ¬ (lo <= x /\ x < hi)
 | [], _, x, h=>by simp at h
 | y :: V, h, x, hx=>by
  unfold zkh at h
  cases hm:(Nat.ble lo y && Nat.blt y hi) with
  | true=>rw [hm] at h; cases h
  | false=>
   rw [hm] at h
   rcases List.mem_cons.1 hx with rfl | hx
   ·intro c
    rw [Nat.ble_eq_true_of_le c.1, qo.2 c.2] at hm; cases hm
   ·exact zmc h x hx
theorem zlD {nx:Nat}:∀ {V:List Nat}, zo7 nx V = true -> ∀ x ∈ V, x < nx /\ x < 16777215
 | [], _, x, h=>by simp at h
 | y :: V, h, x, hx=>by
  unfold zo7 at h
  cases hm:(Nat.blt y nx && Nat.blt y 16777215) with
  | false=>rw [hm] at h; cases h
  | true=>
   rw [hm] at h
   rw [zLa] at hm
   rcases List.mem_cons.1 hx with rfl | hx
   ·exact ⟨qo.1 hm.1, qo.1 hm.2⟩
   ·exact zlD h x hx
theorem zi9 {M:Mem}:∀ {V:List Nat}, zhf M V = true -> ∀ x ∈ V, ∀ o, M.get x = some o -> o.still = false
 | [], _, x, h, _, _=>by simp at h
 | y :: V, h, x, hx, o, ho=>by
  unfold zhf at h
  rcases List.mem_cons.1 hx with rfl | hx
  ·rw [ho] at h
   cases hs:o.still with
   | false=>rfl
   | true=>simp only[hs, cond_true] at h; cases h
  ·refine zi9 (V:=V) ?_ x hx o ho
   split at h
   ·rename_i o2 _
    cases hs:o2.still with
    | false=>rw [hs] at h; exact h
    | true=>rw [hs] at h; cases h
   ·exact h
theorem zmg {mask:Nat} {V:List Nat} {ch:Bool} {i:Nat} {W:List Nat} {c:Bool} {lo hi:Nat}:∀ {d:List FE}, zfq mask V ch d = true -> FE.mk i W c lo hi ∈ d -> mask.testBit i = false -> (∀ x ∈ V, ¬ ((c = true /\ x ∈ W) ∨ (lo <= x /\ x < hi))) /\ (ch = true -> ∀ x ∈ V, x ∉ W)
 | [], _, h, _=>by simp at h
 | .mk i' W' c' lo' hi' :: d, h, hm, hb=>by
  unfold zfq at h
  rcases List.mem_cons.1 hm with e | hm
  ·injection e with e1 e2 e3 e4 e5
   subst e1; subst e2; subst e3; subst e4; subst e5
   rw [hb] at h
   simp only[cond_false] at h
   cases hc:((bif c || ch then zf0 W V else true) && zkh lo hi V) with
   | false=>rw [hc] at h; cases h
   | true=>
    rw [zLa] at hc
    refine ⟨fun x hx hw=>?_, fun hch x hx=>?_⟩
    ·rcases hw with ⟨h1, h2⟩ | h1
     ·have h3:=hc.1
      rw [h1, Bool.true_or] at h3
      exact zfs h3 x hx h2
     ·exact zmc hc.2 x hx h1
    ·have h3:=hc.1
     rw [hch, Bool.or_true] at h3
     exact zfs h3 x hx
  ·refine zmg (d:=d) ?_ hm hb
   cases hbb:Nat.testBit mask i' with
   | true=>rw [hbb] at h; exact h
   | false=>
    rw [hbb] at h
    simp only[cond_false] at h
    cases hc:((bif c' || ch then zf0 W' V else true) && zkh lo' hi' V) with
    | false=>rw [hc] at h; cases h
    | true=>rw [hc] at h; exact h
theorem zfo {mask:Nat} {ch:Bool}:∀ {d:List FE}, zfq mask [] ch d = true
 | []=>rfl
 | .mk i W c lo hi :: d=>by
  unfold zfq
  cases Nat.testBit mask i <;> cases c <;> cases ch <;> simp [zf0, zkh, zfo]
theorem zul (s:St) (d:List FE):zjM rec lim [] s d = some (.normal, s):=rfl
theorem zk6 (g : Option (Option (Nat × Bool))) (dst : Option Nat) (f : SgE) (i : Nat) (looks : List Tmp) (ok : Bool) (mask : Nat) (cut pure : Bool) (view : SgV) (l : List SgD) (s : St) (d : List FE) :
    zjM rec lim (.mk g dst f i looks ok mask cut pure view :: l) s d = bif ok then match zpR rec lim g f i mask cut pure view (mini s.fr looks) s d with
          | some (.val v M nx d') => match zdg s.fr s.n dst v with
              | some fr'=>zjM rec lim l { s with fr:=fr', M:=M, nx:=nx } d'
              | none=>none
          | some (.hard v s1) => match zdg s1.fr s1.n dst v with
              | some fr'=>zjM rec lim l { s1 with fr:=fr' } []
              | none=>none
          | some (.pan v s1)=>some (.pan v, s1)
          | none=>none else none:=by cases s; rfl
def zrA (P:Program) (lim:Nat) (ops:Array Oper) (s:St) (o:Oper) (l:List Tmp) (j:Nat) (d:List FE) (v:VV) (M':Mem) (nx':Nat) (V:List Nat) (cx:Bool):Prop:=
  (s.nx <= nx' /\ (s.nx < nx' -> nx' < 16777215)) /\ (∀ x ∈ V, x < s.nx /\ x < 16777215) /\ (0 < s.nx /\ (cx = true -> 0 ∉ V /\ 1 <= lim)) /\ zfq (maskAt ops j) V cx d = true /\ (∀ x, ¬ ((cx = true /\ x ∈ V) ∨ (s.nx <= x /\ x < nx')) -> M'.get x = s.M.get x) /\
  ((xe ops (mini s.fr l) o = some false /\ v = .tup [] /\ nx' = s.nx /\ cx = false) ∨
   (xe ops (mini s.fr l) o = some true /\ ∃ Mv M'':Mem, ((∀ x o', Mv.get x = some o' -> (x ∈ V ∨ x = 0) /\ s.M.get x = some o') /\ (cx = true -> ∀ x ∈ V, Mv.get x = s.M.get x)) /\ OpT P (bif cx then lim else s.nx) o { s with fr:=mini s.fr l, M:=Mv, nx:=s.nx } (.val v) { s with fr:=mini s.fr l, M:=M'', nx:=nx' } /\
    (∀ x o', ((cx = true /\ x ∈ V) ∨ (s.nx <= x /\ x < nx')) -> M'.get x = some o' -> M''.get x = some o') /\ (cx = true -> ∀ x ∈ V, M'.get x = M''.get x) /\ (cx = true -> ∀ x ∈ V, ∀ o', Mv.get x = some o' -> o'.still = false)))
theorem zqx (hr:zbC P rec) {o:Oper} {j:Nat} {l:List Tmp} {cut:Bool} {s:St} {V:List Nat} {d:List FE} {r:DR} (hw:xe ops (mini s.fr l) o = some true)
  (h:zrN rec lim (sgW ops o) (sgE P drt o) j (maskAt ops j) cut (mini s.fr l) s V d = some r):
  (∃ v M' nx' V' cx, r = .val v M' nx' (.mk j V' cx s.nx nx' :: d) /\ zrA P lim ops s o l j d v M' nx' V' cx) ∨
  (cut = true /\ xe ops s.fr o = some true /\ ((∃ v s1, r = .hard v s1 /\ OpT P lim o s (.val v) s1) ∨ ∃ v s1, r = .pan v s1 /\ OpT P lim o s (.pan v) s1)):=by
 unfold zrN at h
 cases hlow:(Nat.blt 0 s.nx && zo7 s.nx V) with
 | false=>rw [hlow] at h; cases h
 | true=>
  rw [hlow] at h
  simp only[cond_true] at h
  rw [zLa] at hlow
  have hn0:=qo.1 hlow.1
  have hlow:=zlD hlow.2
  have hv0:∀ x, (zca s.M (0 :: V)).get x = if x ∈ 0 :: V then s.M.get x else none:=zgK s.M fun x hx=>by
   rcases List.mem_cons.1 hx with rfl | hx
   ·omega
   ·exact (hlow x hx).2
  have hv1:∀ x o', (zca s.M (0 :: V)).get x = some o' -> (x ∈ V ∨ x = 0) /\ s.M.get x = some o':=fun x o' hx=>by
   rw [hv0] at hx
   by_cases c:x ∈ 0 :: V
   ·rw [if_pos c] at hx; exact ⟨(List.mem_cons.1 c).symm, hx⟩
   ·rw [if_neg c] at hx; cases hx
  have hv:∀ c:Bool, (∀ x o', (zca s.M (0 :: V)).get x = some o' -> (x ∈ V ∨ x = 0) /\ s.M.get x = some o') /\ (c = true -> ∀ x ∈ V, (zca s.M (0 :: V)).get x = s.M.get x):=fun c=>⟨hv1, fun _ x hx=>by rw [hv0, if_pos (List.mem_cons_of_mem _ hx)]⟩
  split at h
  ·rename_i v M' nx' hq
   cases hok:zfq (maskAt ops j) V false d with
   | false=>rw [hok] at hq; cases hq
   | true=>
    rw [hok] at hq
    simp only[cond_true] at hq
    have hquiet:=zhi hr hq s
    refine .inl ?_
    cases hb:Nat.beq nx' s.nx with
    | true=>
     rw [hb] at h
     simp only[cond_true, zLs] at h
     have hb:=qI.1 hb
     subst hb
     exact ⟨v, s.M, s.nx, V, false, h.symm, ⟨Nat.le_refl _, fun c=>by omega⟩, hlow, ⟨hn0, fun c=>(by cases c)⟩, hok, fun _ _=>rfl, .inr ⟨hw, _, M', hv _, hquiet, fun x o' c=>by
      rcases c with ⟨c, _⟩ | c
      ·cases c
      ·omega, fun c=>(by cases c), fun c=>by cases c⟩⟩
    | false=>
     rw [hb] at h
     simp only[cond_false] at h
     cases hb2:(Nat.ble s.nx nx' && Nat.blt nx' 16777215) with
     | false=>rw [hb2] at h; cases h
     | true=>
      rw [hb2] at h
      simp only[cond_true, zLs] at h
      rw [zLa] at hb2
      have b1:=zLb hb2.1
      have b2:=qo.1 hb2.2
      have hov:∀ x, (kJ s.M M' (kX s.nx (nx' - s.nx))).get x = if x ∈ kX s.nx (nx' - s.nx) then M'.get x else s.M.get x:=zcx s.M M' fun x hx=>by have:=wY.1 hx; omega
      refine ⟨v, _, nx', V, false, h.symm, ⟨b1, fun _=>b2⟩, hlow, ⟨hn0, fun c=>(by cases c)⟩, hok, fun x hx=>?_, .inr ⟨hw, _, M', hv _, hquiet, fun x o' c hx=>?_, fun c=>(by cases c), fun c=>by cases c⟩⟩
      ·rw [hov, if_neg]
       intro c
       have:=wY.1 c
       exact hx (.inr ⟨this.1, by omega⟩)
      ·rcases c with ⟨c, _⟩ | c
       ·cases c
       ·rw [hov, if_pos (wY.2 ⟨c.1, by omega⟩)] at hx
        exact hx
  ·cases cut with
   | true=>
    simp only[cond_true] at h
    unfold zrt at h
    split at h
    ·rename_i hw2
     refine .inr ⟨rfl, zbZ hw2, ?_⟩
     split at h
     ·rename_i v s1 ha
      simp only[zLs] at h
      exact .inl ⟨v, s1, h.symm, zma hr ha⟩
     ·rename_i v s1 ha
      simp only[zLs] at h
      exact .inr ⟨v, s1, h.symm, zma hr ha⟩
     ·cases h
    ·cases h
   | false=>
    simp only[cond_false] at h
    cases hok:(zfq (maskAt ops j) V true d && (zhf s.M V && (!ziG 0 V && Nat.blt 0 lim))) with
    | false=>rw [hok] at h; cases h
    | true=>
     rw [hok] at h
     simp only[cond_true] at h
     rw [zLa, zLa, zLa] at hok
     split at h
     ·rename_i v M' nx' ht
      have hturn:=zov hr ht s
      cases hb:(Nat.beq nx' s.nx || Nat.ble s.nx nx' && Nat.blt nx' 16777215) with
      | false=>rw [hb] at h; cases h
      | true=>
       rw [hb] at h
       simp only[cond_true, zLs] at h
       have hn:s.nx <= nx' /\ (s.nx < nx' -> nx' < 16777215):=by
        rw [Bool.or_eq_true, zLa] at hb
        rcases hb with hb | hb
        ·have:=qI.1 hb; omega
        ·have:=zLb hb.1; have:=qo.1 hb.2; omega
       have hov:∀ x, (kJ s.M M' (V ++ kX s.nx (nx' - s.nx))).get x = if x ∈ V ++ kX s.nx (nx' - s.nx) then M'.get x else s.M.get x:=zcx s.M M' fun x hx=>by
        rcases List.mem_append.1 hx with c | c
        ·exact (hlow x c).2
        ·have:=wY.1 c; omega
       refine .inl ⟨v, _, nx', V, true, h.symm, hn, hlow, ⟨hn0, fun _=>⟨fun c=>(by have:=hok.2.2.1; rw [zfl.2 c] at this; cases this), qo.1 hok.2.2.2⟩⟩, hok.1, fun x hx=>?_, .inr ⟨hw, _, M', hv _, hturn, fun x o' c hx=>?_, fun _ x hx=>?_, fun _ x hx o' hxo=>?_⟩⟩
       ·rw [hov, if_neg]
        intro c
        rcases List.mem_append.1 c with c | c
        ·exact hx (.inl ⟨rfl, c⟩)
        ·have:=wY.1 c
         exact hx (.inr ⟨this.1, by omega⟩)
       ·rw [hov, if_pos] at hx
        ·exact hx
        ·rcases c with ⟨_, c⟩ | c
         ·exact List.mem_append.2 (.inl c)
         ·exact List.mem_append.2 (.inr (wY.2 ⟨c.1, by omega⟩))
       ·rw [hov, if_pos (List.mem_append.2 (.inl hx))]
       ·exact zi9 hok.2.1 x hx o' ((hv true).1 x o' hxo).2
     ·cases h
theorem zhS (hr:zbC P rec) {o:Oper} {j:Nat} {l:List Tmp} {cut pure:Bool} {view:SgV} {s:St} {d:List FE} {r:DR}
  (h:zpR rec lim (sgW ops o) (sgE P drt o) j (maskAt ops j) cut pure view (mini s.fr l) s d = some r):
  (∃ v M' nx' V' cx, r = .val v M' nx' (.mk j V' cx s.nx nx' :: d) /\ zrA P lim ops s o l j d v M' nx' V' cx) ∨
  (cut = true /\ xe ops s.fr o = some true /\ ((∃ v s1, r = .hard v s1 /\ OpT P lim o s (.val v) s1) ∨ ∃ v s1, r = .pan v s1 /\ OpT P lim o s (.pan v) s1)):=by
 unfold zpR at h
 split at h
 ·rename_i hw
  cases hn:Nat.blt 0 s.nx with
  | false=>rw [hn] at h; cases h
  | true=>
  rw [hn] at h
  simp only[cond_true, zLs] at h
  exact .inl ⟨.tup [], s.M, s.nx, [], false, h.symm, ⟨Nat.le_refl _, fun c=>by omega⟩, fun x hx=>(by simp at hx), ⟨qo.1 hn, fun c=>(by cases c)⟩, zfo, fun _ _=>rfl, .inl ⟨zbZ hw, rfl, rfl, rfl⟩⟩
 ·rename_i hw
  have hw:=zbZ hw
  split at h
  ·rename_i v M' nx' hq
   cases hn:(pure && Nat.blt 0 s.nx) with
   | false=>rw [hn] at hq; cases hq
   | true=>
    rw [hn] at hq
    simp only[cond_true] at hq
    rw [zLa] at hn
    cases hb:Nat.beq nx' s.nx with
    | false=>rw [hb] at h; cases h
    | true=>
     rw [hb] at h
     simp only[cond_true, zLs] at h
     have hb:=qI.1 hb
     subst hb
     exact .inl ⟨v, s.M, s.nx, [], false, h.symm, ⟨Nat.le_refl _, fun c=>by omega⟩, fun x hx=>(by simp at hx), ⟨qo.1 hn.2, fun c=>(by cases c)⟩, zfo, fun _ _=>rfl, .inr ⟨hw, .lf, M', ⟨fun x o' c=>(by rw [Tr.get_lf] at c; cases c), fun c=>(by cases c)⟩, zhi hr hq s, fun x o' c=>by
      rcases c with ⟨c, _⟩ | c
      ·cases c
      ·omega, fun c=>(by cases c), fun c=>by cases c⟩⟩
  ·split at h
   exact zqx hr hw h
 ·cases h
theorem zf3 (hr : zbC P rec) (hu : upB ops = true) (hds : zdO ops.toList 0 = true) : ∀ (l : List Oper) (j : Nat) (s s' : St) (e : XE) (d : List FE) (nx0 k0 : Nat) (vf : Nat -> VV) (ff : Nat -> Fr) (Mf : Nat -> Mem) (nf : Nat -> Nat) (vw : Nat -> List Nat) (ch : Nat -> Bool),
    (∀ i, l[i]? = ops[j + i]?) -> j + l.length = ops.size -> k0 <= j -> (∀ i, k0 <= i -> i < j -> StepF P lim ops s k0 vf ff Mf nf vw ch i) ->
    ff j = s.fr -> Mf j = s.M -> nf j = s.nx -> nf k0 = nx0 -> (∀ i, k0 <= i -> i < j -> FE.mk i (vw i) (ch i) (nf i) (nf (i + 1)) ∈ d) ->
    zjM rec lim (zm2 P drt ops j l) s d = some (e, s') -> TSO P lim ops k0 { s with fr:=ff k0, M:=Mf k0, nx:=nx0 } e s'
  | [], j, s, s', e, d, nx0, k0, vf, ff, Mf, nf, vw, ch, hl, hlen, hk, hst, h1, h2, h3, h4, h5, h=>by
    simp only[zm2, zul, zLs, zLp] at h
    obtain ⟨rfl, rfl⟩:=h
    obtain ⟨r, rfl⟩:∃ r, j = k0 + r:=⟨j - k0, by omega⟩
    simp only[List.length_nil, Nat.add_zero] at hlen
    refine zlC (k:=k0) (r:=r) (vf:=vf) (ff:=ff) (Mf:=Mf) (nf:=nf) (vw:=vw) (ch:=ch) hst hu hds rfl h4 rfl (by omega) (.inl hlen) ?_
    rw [h1, h2, h3]
    exact zpW (by omega)
  | o :: l, j, s, s', e, d, nx0, k0, vf, ff, Mf, nf, vw, ch, hl, hlen, hk, hst, h1, h2, h3, h4, h5, h=>by
    have h0:ops[j]? = some o:=by simpa using (hl 0).symm
    have hl':∀ i, l[i]? = ops[j + 1 + i]?:=fun i=>by have:=hl (i + 1); simpa [Nat.add_assoc, Nat.add_comm 1 i] using this
    have hlen':j + 1 + l.length = ops.size:=by simp only[List.length_cons] at hlen; omega
    rw [show zm2 P drt ops j (o :: l) = .mk (sgW ops o) o.dst (sgE P drt o) j (o.looksAt ops) (zfH ops j (o.looksAt ops)) (maskAt ops j) (zh6 ops j) (zrf o) (sgV o) :: zm2 P drt ops (j + 1) l from rfl, zk6] at h
    cases hok:zfH ops j (o.looksAt ops) with
    | false=>rw [hok] at h; simp at h
    | true=>
      rw [hok] at h
      simp only[cond_true] at h
      have hle:k0 <= j + 1:=by omega
      obtain ⟨r, hjr⟩:∃ r, j = k0 + r:=⟨j - k0, by omega⟩
      have back:zh6 ops j = true -> ∀ e s', TSO P lim ops j s e s' -> TSO P lim ops k0 { s with fr:=ff k0, M:=Mf k0, nx:=nx0 } e s':=fun hc e s' ht=>by
        subst hjr
        refine zlC (k:=k0) (r:=r) (vf:=vf) (ff:=ff) (Mf:=Mf) (nf:=nf) (vw:=vw) (ch:=ch) hst hu hds rfl h4 rfl (by omega) (.inr hc) ?_
        rw [h1, h2, h3]; exact ht
      split at h
      · rename_i v M' nx' d' hone
        split at h
        · rename_i fr' hp
          obtain ⟨hd, rfl⟩:=zcq hp
          rcases zhS hr hone with ⟨v1, M1, nx1, V, cx, he, hn, hV, hz, hfe, hkeep, hC⟩ | ⟨_, _, ⟨v1, s1, he, _⟩ | ⟨v1, s1, he, _⟩⟩
          · simp only[DR.val.injEq] at he
            obtain ⟨rfl, rfl, rfl, rfl⟩:=he
            have ht:TSO P lim ops k0 { s with fr:=ext ff j (zdf s.fr o.dst v) k0, M:=ext Mf j M' k0, nx:=nx0 } e s':=by
             refine zf3 hr hu hds l (j + 1) { s with fr:=zdf s.fr o.dst v, M:=M', nx:=nx' } s' e _ nx0 k0 (zdz vf j v) (ext ff j (zdf s.fr o.dst v)) (ext Mf j M') (ext nf j nx') (zdz vw j V) (zdz ch j cx) hl' hlen' hle (fun i a b=>?_) zbp zbp zbp (by rw [jS hk]; exact h4) (fun i a b=>?_) h
             · rcases Nat.lt_or_ge i j with c | c
               · exact (hst i a c).ext c
               · have:i = j:=by omega
                 subst this
                 have x1:∀ {α:Type} {f:Nat -> α} {x:α}, ext f i x i = f i:=jS (Nat.le_refl _)
                 have wr:∀ x, wrB (zdz vw i V) (zdz ch i cx) (ext nf i nx') i x ↔ ((cx = true /\ x ∈ V) ∨ (s.nx <= x /\ x < nx')):=fun x=>by
                   unfold wrB
                   rw [yP, yP, x1, zbp, h3]
                 refine ⟨o, _, h0, ⟨hok, rfl⟩, hd, by rw [zbp, x1, h1, yP], by rw [x1, zbp, h3]; exact hn, by rw [yP, x1, h3]; exact hV, by rw [yP, yP, x1, h3]; exact hz, fun i' a1 a2 a3=>?_, fun x hx=>?_, ?_⟩
                 · rw [yP, yP, jZ (show i' ≠ i by omega)]
                   obtain ⟨q1, q2⟩:=zmg hfe (h5 i' a1 a2) a3
                   refine ⟨fun x hx hw=>q1 x hx ?_, q2⟩
                   unfold wrB at hw
                   rw [jZ (by omega), jZ (by omega), jS (by omega), jS (by omega)] at hw
                   exact hw
                 · rw [zbp, x1, h2]; exact hkeep x fun c=>hx ((wr x).2 c)
                 · simp only[x1, zbp, yP, h1, h2, h3]
                   rcases hC with ⟨a1, a2, a3, a4⟩ | ⟨a1, Mv, M'', a2, a3, a4, a5, a6⟩
                   · exact .inl ⟨a1, a2, a3, a4⟩
                   · exact .inr ⟨a1, Mv, M'', a2, a3, fun x o' hw=>a4 x o' ((wr x).1 hw), a5, a6⟩
             · rcases Nat.lt_or_ge i j with c | c
               · rw [jZ (by omega), jZ (by omega), jS (by omega), jS (by omega)]
                 exact List.mem_cons_of_mem _ (h5 i a c)
               · have:i = j:=by omega
                 subst this
                 rw [yP, yP, jS (Nat.le_refl _), zbp, h3]
                 exact List.mem_cons_self
            rw [jS hk, jS hk] at ht
            exact ht
          · cases he
          · cases he
        · cases h
      · rename_i v s1 hone
        split at h
        · rename_i fr' hp
          obtain ⟨hd, rfl⟩:=zcq hp
          rcases zhS hr hone with ⟨v1, M1, nx1, V, cx, he, _⟩ | ⟨hc, hw2, ⟨v1, s2, he, hop⟩ | ⟨v1, s2, he, _⟩⟩
          · cases he
          · simp only[DR.hard.injEq] at he
            obtain ⟨rfl, rfl⟩:=he
            refine back hc e s' (zqn hu hc h0 hw2 hd hop ?_)
            exact zf3 hr hu hds l (j + 1) { s1 with fr:=zdf s1.fr o.dst v } s' e [] s1.nx (j + 1) vf (fun _=>zdf s1.fr o.dst v) (fun _=>s1.M) (fun _=>s1.nx) vw ch hl' hlen' (Nat.le_refl _) (fun i a b=>by omega) rfl rfl rfl rfl (fun i a b=>by omega) h
          · cases he
        · cases h
      · rename_i v s1 hone
        rcases zhS hr hone with ⟨v1, M1, nx1, V, cx, he, _⟩ | ⟨hc, hw2, ⟨v1, s2, he, _⟩ | ⟨v1, s2, he, hop⟩⟩
        · cases he
        · cases he
        · simp only[DR.pan.injEq] at he
          obtain ⟨rfl, rfl⟩:=he
          simp only[zLs, zLp] at h
          obtain ⟨rfl, rfl⟩:=h
          exact back hc _ _ (zqY hu hc h0 hw2 hop)
      · cases h
end
end
end Go.Bv
end
section
namespace Go.Bv
open Go.RowKit
noncomputable section
section
variable {P:Program} {lim:Nat} {drt:FuncId -> Bool} {orc:Orc} {rec:Rec}
theorem zr7 (hr:zbC P rec) {f:Operand} {ps:Array Tmp} {as bo:Code} {s:St} {r:Res} (h:rfE rec lim f ps as bo s = some r):∃ e s', r = .code e s' /\ TS P lim [.code (.rangeFunc f ps as bo)] s e s':=by
 unfold rfE at h
 by_cases hrn:s.rnd = true
 ·rw [hrn] at h; simp at h
 have hrn:s.rnd = false:=by simpa using hrn
 simp only[hrn, cond_false] at h
 cases hb:Nat.blt (s.nx + 2) 16777215 with
 | false=>rw [hb] at h; simp at h
 | true=>
  rw [hb] at h
  simp only[cond_true] at h
  split at h
  ·rename_i g a b hf
   split at h
   ·rename_i v M2 nx2 hc
    obtain ⟨he, hc⟩:=hr _ _ _ hc
    split at h
    ·rename_i st pe fn n fr ps' as' bo' df hl
     cases hb2:Nat.blt nx2 16777215 with
     | false=>rw [hb2] at h; simp at h
     | true=>
      rw [hb2] at h
      simp only[cond_true] at h
      split at h
      ·cases h
      ·rename_i hst
       split at h
       ·rename_i e hpe
        simp only[zLs] at h
        subst h
        have:=TS.rangeFunc (P:=P) (lim:=lim) hrn hf he (qo.1 hb) (qo.1 hb2) hc hl (fun e=>hst e) hpe
        exact ⟨_, _, rfl, by simpa only [hrn] using this⟩
       ·cases h
    ·cases h
   ·rename_i v M2 nx2 hc
    obtain ⟨he, hc⟩:=hr _ _ _ hc
    simp only[zLs] at h
    subst h
    have:=TS.rangeFuncP (P:=P) (lim:=lim) hrn hf he (qo.1 hb) hc
    exact ⟨_, _, rfl, by simpa only [hrn] using this⟩
   ·cases h
  ·cases h
theorem zam (hr:zbC P rec):∀ (c:Code) (s:St) (r:Res), (sgC P drt c).run rec lim s = some r -> ∃ e s', r = .code e s' /\ TS P lim [.code c] s e s':=by
 intro c
 induction c with
 | skip=>intro s r h; simp only[sgC, SgC.run, zLs] at h; exact ⟨_, _, h.symm, TS.skip⟩
 | label l=>intro s r h; simp only[sgC, SgC.run, zLs] at h; exact ⟨_, _, h.symm, TS.label⟩
 | exit i=>intro s r h; simp only[sgC, SgC.run, zLs] at h; exact ⟨_, _, h.symm, TS.exit⟩
 | goto i=>intro s r h; simp only[sgC, SgC.run, zLs] at h; exact ⟨_, _, h.symm, TS.goto⟩
 | ret=>intro s r h; simp only[sgC, SgC.run, zLs] at h; exact ⟨_, _, h.symm, TS.ret⟩
 | seq a b iha ihb=>
  intro s r h
  simp only[sgC, SgC.run] at h
  split at h
  ·rename_i s1 h1
   obtain ⟨e1, s1', h2, h3⟩:=iha _ _ h1
   simp only[Res.code.injEq] at h2
   obtain ⟨rfl, rfl⟩:=h2
   obtain ⟨e, s', h4, h5⟩:=ihb _ _ h
   exact ⟨e, s', h4, TS.seq h3 h5⟩
  ·rename_i hne
   obtain ⟨e, s', h2, h3⟩:=iha _ _ h
   refine ⟨e, s', h2, TS.seq1 (fun he=>?_) h3⟩
   subst he; subst h2
   exact hne s' h
 | cond x a b iha ihb=>
  intro s r h
  simp only[sgC, SgC.run] at h
  split at h
  ·rename_i hb
   obtain ⟨e, s', h2, h3⟩:=iha _ _ h
   exact ⟨e, s', h2, TS.cond hb h3⟩
  ·rename_i hb
   obtain ⟨e, s', h2, h3⟩:=ihb _ _ h
   exact ⟨e, s', h2, TS.cond hb h3⟩
  ·cases h
 | block id a iha=>
  intro s r h
  simp only[sgC, SgC.run] at h
  split at h
  ·rename_i i s1 h1
   obtain ⟨e1, s1', h2, h3⟩:=iha _ _ h1
   simp only[Res.code.injEq] at h2
   obtain ⟨rfl, rfl⟩:=h2
   cases hb:Nat.beq i id with
   | true=>
    rw [hb] at h
    simp only[cond_true, zLs] at h
    have:=qI.1 hb
    subst this
    exact ⟨_, _, h.symm, TS.blockE h3⟩
   | false=>
    rw [hb] at h
    simp only[cond_false, zLs] at h
    exact ⟨_, _, h.symm, TS.blockX (by simp) (fun e=>by injection e with e; exact zaq.1 hb e) h3⟩
  ·rename_i hne
   obtain ⟨e, s', h2, h3⟩:=iha _ _ h
   subst h2
   cases e with
   | normal=>exact ⟨_, _, rfl, TS.block h3⟩
   | exit i=>exact absurd h (hne i s')
   | goto l=>exact ⟨_, _, rfl, TS.blockX (by simp) (by simp) h3⟩
   | ret=>exact ⟨_, _, rfl, TS.blockX (by simp) (by simp) h3⟩
   | pan v=>exact ⟨_, _, rfl, TS.blockX (by simp) (by simp) h3⟩
 | loop a _=>
  intro s r h
  simp only[sgC, SgC.run] at h
  have h1:=hr _ _ _ h
  cases r with
  | code e s'=>exact ⟨e, s', rfl, TS.loop h1⟩
  | out _ _ _=>exact h1.elim
  | dout _ _ _=>exact h1.elim
 | scope a _=>
  intro s r h
  simp only[sgC, SgC.run] at h
  have h1:=hr _ _ _ h
  cases r with
  | code e s'=>exact ⟨e, s', rfl, TS.scope h1⟩
  | out _ _ _=>exact h1.elim
  | dout _ _ _=>exact h1.elim
 | region id ops draws=>
  intro s r h
  cases draws with
  | false=>
   simp only[sgC, SgC.run] at h
   split at h
   ·rename_i e s1 h1
    simp only[zLs] at h
    have:=zdr (lim:=lim) (drt:=drt) hr (ops:=ops) ops.toList 0 s s1 e (by simp) h1
    rw [show List.range' 0 ops.toList.length = List.range ops.size from by simp [List.range_eq_range']] at this
    exact ⟨_, _, h.symm, TS.region this⟩
   ·cases h
  | true=>
   cases hok:okD P ops with
   | false=>simp only[sgC, hok, SgC.run] at h; cases h
   | true=>
    simp only[sgC, hok, SgC.run] at h
    split at h
    ·rename_i e s1 h1
     simp only[zLs] at h
     simp only[okD, zLa] at hok
     have:=zf3 (lim:=lim) (drt:=drt) hr hok.1.2 hok.2 ops.toList 0 s s1 e [] s.nx 0 (fun _=>.top) (fun _=>s.fr) (fun _=>s.M) (fun _=>s.nx) (fun _=>[]) (fun _=>false) (by simp) (by simp) (Nat.le_refl _) (fun i a b=>by omega) rfl rfl rfl rfl (fun i a b=>by omega) h1
     exact ⟨_, _, h.symm, zkv hok.1.1 this⟩
    ·cases h
 | rangeFunc f ps as bo _ _=>
  intro s r h
  simp only[sgC, SgC.run] at h
  exact zr7 hr h
 | refuse m=>intro s r h; simp only[sgC, SgC.run] at h; cases h
theorem zn3 {f:FuncId} {fn:Func} {c:Code} (h:sgF P f = .mk fn c):P.funcs[f]? = some fn /\ fn.body = some c /\ Av.Enters P f:=by
 unfold sgF at h
 split at h
 ·rename_i fn' h1
  split at h
  ·rename_i c' h2
   split at h
   ·cases h
   ·rename_i h3
    simp only[SgF.mk.injEq] at h
    obtain ⟨rfl, rfl⟩:=h
    exact ⟨h1, h2, fn', h1, h3, by simp [h2]⟩
  ·cases h
 ·cases h
theorem zhH {u:Up} (h:zjx u = true):u = .no:=by cases u <;> simp [zjx] at h ⊢
def zeK (P:Program) (orc:Orc):Prop:=∀ lim f vs M nx v M' nx', orc lim f vs M nx = some (v, M', nx') -> Av.Enters P f /\ zdx P lim f vs M nx (.val v) M' nx'
def zhc (P:Program) (orc:FuncId -> List VV -> Mem -> Option VV):Prop:=∀ f vs M v, orc f vs M = some v -> Av.Enters P f /\ ∀ lim nx, zdx P lim f vs M nx (.val v) M nx
def zoz (orc:FuncId -> List VV -> Mem -> Option VV):Orc:=fun _ f vs M nx=>match orc f vs M with
 | some v=>some (v, M, nx)
 | none=>none
theorem znx {orc:FuncId -> List VV -> Mem -> Option VV} (h:zhc P orc):zeK P (zoz orc):=fun lim f vs M nx v M' nx' e=>by
 unfold zoz at e
 split at e
 ·rename_i v' hv
  simp only[zLs, zLp] at e
  obtain ⟨rfl, rfl, rfl⟩:=e
  have:=h f vs M _ hv
  exact ⟨this.1, this.2 lim nx⟩
 ·cases e
def zia (a b:Orc):Orc:=fun lim f vs M nx=>match a lim f vs M nx with
 | some v=>some v
 | none=>b lim f vs M nx
theorem zg7 {a b:Orc} (ha:zeK P a) (hb:zeK P b):zeK P (zia a b):=fun lim f vs M nx v M' nx' h=>by
 unfold zia at h
 split at h
 ·rename_i v' h1
  simp only[zLs] at h
  subst h
  exact ha lim f vs M nx _ _ _ h1
 ·exact hb lim f vs M nx _ _ _ h
theorem zoa (ho:zeK P orc) (hr:zbC P rec):∀ (j:Job) (r:Res), stepS P drt orc rec lim j = some r -> zq7 P lim j r:=by
 intro j r h
 cases j with
 | code c s=>
  simp only[stepS] at h
  obtain ⟨e, s', rfl, h1⟩:=zam hr _ _ _ h
  exact h1
 | loop c s=>
  simp only[stepS] at h
  split at h
  ·rename_i s1 h1
   obtain ⟨e1, s1', h2, h3⟩:=zam hr _ _ _ h1
   simp only[Res.code.injEq] at h2
   obtain ⟨rfl, rfl⟩:=h2
   have h4:=hr _ _ _ h
   cases r with
   | code e s'=>exact TS.round h3 h4
   | out _ _ _=>exact h4.elim
   | dout _ _ _=>exact h4.elim
  ·rename_i hne
   obtain ⟨e, s', rfl, h3⟩:=zam hr _ _ _ h
   refine TS.roundX (fun he=>?_) h3
   subst he
   exact hne s' h
 | scope body c s=>
  simp only[stepS] at h
  split at h
  ·rename_i l s1 h1
   obtain ⟨e1, s1', h2, h3⟩:=zam hr _ _ _ h1
   simp only[Res.code.injEq] at h2
   obtain ⟨rfl, rfl⟩:=h2
   split at h
   ·rename_i rest hl
    have h4:=hr _ _ _ h
    cases r with
    | code e s'=>exact TS.scopeG hl h3 h4
    | out _ _ _=>exact h4.elim
    | dout _ _ _=>exact h4.elim
   ·rename_i hl
    simp only[zLs] at h
    subst h
    exact TS.scopeX (by simp) (fun l' e=>by injection e with e; rw [← e]; exact hl) h3
  ·rename_i hne
   obtain ⟨e, s', rfl, h3⟩:=zam hr _ _ _ h
   cases e with
   | normal=>exact TS.scopeN h3
   | exit i=>exact TS.scopeX (by simp) (by simp) h3
   | goto l=>exact absurd h (hne l s')
   | ret=>exact TS.scopeX (by simp) (by simp) h3
   | pan v=>exact TS.scopeX (by simp) (by simp) h3
 | call f vs M nx=>
  simp only[stepS] at h
  split at h
  ·rename_i v M' nx' hv
   simp only[zLs] at h
   subst h
   exact ho _ _ _ _ _ _ _ _ hv
  ·split at h
   ·rename_i fn c hF
    obtain ⟨hfn, hb, he⟩:=zn3 hF
    cases hc:Nat.ble vs.length fn.ntmps && Nat.blt vs.length 512 with
    | false=>rw [hc] at h; simp at h
    | true=>
     rw [hc] at h
     simp only[cond_true] at h
     simp only[zLa] at hc
     split at h
     ·rename_i e s1 h1
      obtain ⟨e1, s1', h2, h3⟩:=zam hr _ _ _ h1
      simp only[Res.code.injEq] at h2
      obtain ⟨rfl, rfl⟩:=h2
      by_cases hrn:s1.rnd = true
      ·rw [hrn] at h; simp at h
      have hrn:s1.rnd = false:=by simpa using hrn
      rw [hrn] at h
      simp only[cond_false] at h
      split at h
      ·have h4:=hr _ _ _ h
       cases r with
       | out o M' nx'=>exact ⟨he, za4 (M1:=M) hfn hb hc.1 hc.2 h3 hrn (.inl ⟨.inl rfl, h4 fn hfn⟩)⟩
       | code _ _=>exact h4.elim
       | dout _ _ _=>exact h4.elim
      ·have h4:=hr _ _ _ h
       cases r with
       | out o M' nx'=>exact ⟨he, za4 (M1:=M) hfn hb hc.1 hc.2 h3 hrn (.inl ⟨.inr rfl, h4 fn hfn⟩)⟩
       | code _ _=>exact h4.elim
       | dout _ _ _=>exact h4.elim
      ·rename_i v
       have h4:=hr _ _ _ h
       cases r with
       | out o M' nx'=>exact ⟨he, za4 (M1:=M) hfn hb hc.1 hc.2 h3 hrn (.inr ⟨v, rfl, h4 fn hfn⟩)⟩
       | code _ _=>exact h4.elim
       | dout _ _ _=>exact h4.elim
      ·cases h
     ·cases h
   ·cases h
 | yld l vs M nx=>
  simp only[stepS] at h
  split at h
  ·rename_i pe fn n fr ps as bo df hl
   cases hc:Nat.beq vs.length ps.size && ps.toList.all (fun t=>xM n (some t)) && Nat.ble lim l with
   | false=>rw [hc] at h; simp at h
   | true=>
    rw [hc] at h
    simp only[cond_true] at h
    simp only[zLa] at hc
    have hlen:=qI.1 hc.1.1
    have hll:=zLb hc.2
    split at h
    ·rename_i s1 h1
     obtain ⟨e1, s1', h2, has⟩:=zam hr _ _ _ h1
     simp only[Res.code.injEq] at h2
     obtain ⟨rfl, rfl⟩:=h2
     split at h
     ·rename_i pe1 fn1 n1 fr1 ps1 as1 bo1 df1 hl1
      cases hc2:Nat.blt s1.nx 16777215 && zjx s1.up with
      | false=>rw [hc2] at h; simp at h
      | true=>
       rw [hc2] at h
       simp only[cond_true] at h
       simp only[zLa] at hc2
       have hnx1:=qo.1 hc2.1
       have hu1:=zhH hc2.2
       split at h
       ·rename_i v s2 h3
        obtain ⟨e2, s2', h4, hbo⟩:=zam hr _ _ _ h3
        simp only[Res.code.injEq] at h4
        obtain ⟨rfl, rfl⟩:=h4
        cases hu2:zjx s2.up with
        | false=>rw [hu2] at h; simp at h
        | true=>
         rw [hu2] at h
         simp only[cond_true] at h
         split at h
         ·rename_i fd hd hfd
          simp only[zLs] at h
          subst h
          exact zmx hl hlen hc.1.2 hll has hl1 hnx1 hu1 hbo (zhH hu2) hd hfd rfl
         ·cases h
       ·rename_i e s2 hne h3
        obtain ⟨e2, s2', h4, hbo⟩:=zam hr _ _ _ h3
        simp only[Res.code.injEq] at h4
        obtain ⟨rfl, rfl⟩:=h4
        split at h
        ·rename_i q st' pe' st2 pe2 fn2 n2 fr2 ps2 as2 bo2 df2 hre hl2
         cases hc3:Nat.blt s2.nx 16777215 && zjx s2.up with
         | false=>rw [hc3] at h; simp at h
         | true=>
          rw [hc3] at h
          simp only[cond_true, zLs] at h
          simp only[zLa] at hc3
          subst h
          exact zgE (st1:=.ready) hl hlen hc.1.2 hll has hl1 hnx1 hu1 hbo hl2 (qo.1 hc3.1) (zhH hc3.2) hre
        ·cases h
       ·cases h
     ·cases h
    ·cases h
  ·cases h
 | leave f s pm=>
  simp only[stepS] at h
  split at h
  ·rename_i hd
   split at h
   ·split at h
    ·rename_i fn hfn
     split at h
     ·rename_i v hv
      simp only[zLs] at h
      subst h
      intro fn' hfn'
      rw [hfn] at hfn'; injection hfn' with hfn'; subst hfn'
      exact zmO hd hv
     ·cases h
    ·cases h
   ·rename_i v
    simp only[zLs] at h
    subst h
    intro fn' _
    exact zmo hd
  ·rename_i l ds hd
   split at h
   ·rename_i hl
    cases hc:Nat.ble lim l && Nat.blt s.nx 16777215 with
    | false=>rw [hc] at h; simp at h
    | true=>
     rw [hc] at h
     simp only[cond_true] at h
     simp only[zLa] at hc
     have h1:=hr _ _ _ h
     cases r with
     | out o M' nx'=>intro fn hfn; exact zk2 hd hl hc.1 hc.2 (h1 fn hfn)
     | code _ _=>exact h1.elim
     | dout _ _ _=>exact h1.elim
   ·cases h
  ·rename_i g vs ds hd
   split at h
   ·rename_i pm1 M1 nx1 h1
    obtain ⟨he, hdc⟩:=hr _ _ _ h1
    have h2:=hr _ _ _ h
    cases r with
    | out o M' nx'=>intro fn hfn; exact zk8 hd he hdc (h2 fn hfn)
    | code _ _=>exact h2.elim
    | dout _ _ _=>exact h2.elim
   ·cases h
 | dcall f vs pm M nx=>
  simp only[stepS] at h
  split at h
  ·rename_i fn c hF
   obtain ⟨hfn, hb, he⟩:=zn3 hF
   cases hc:Nat.ble vs.length fn.ntmps && Nat.blt vs.length 512 with
   | false=>rw [hc] at h; simp at h
   | true=>
    rw [hc] at h
    simp only[cond_true] at h
    simp only[zLa] at hc
    split at h
    ·rename_i e s1 h1
     obtain ⟨e1, s1', h2, h3⟩:=zam hr _ _ _ h1
     simp only[Res.code.injEq] at h2
     obtain ⟨rfl, rfl⟩:=h2
     split at h
     ·rename_i v pm1 hd hv hp
      simp only[zLs] at h
      subst h
      exact ⟨he, zem hfn hb hc.1 hc.2 h3 (.inl rfl) hd hv hp⟩
     ·rename_i v pm1 hd hv hp
      simp only[zLs] at h
      subst h
      exact ⟨he, zem hfn hb hc.1 hc.2 h3 (.inr rfl) hd hv hp⟩
     ·cases h
    ·cases h
  ·cases h
theorem zk5 (ho:zeK P orc):∀ n, zbC P (evS P drt orc n)
 | 0=>fun lim j r h=>by cases h
 | n + 1=>fun lim j r h=>zoa ho (zk5 ho n) j r h
end
end
end Go.Bv
end
section
namespace Go.Bv
open Go.RowKit
noncomputable section
def TabAt (w:World) (g k:Nat):Prop:=∃ T fz, w.heap[g]? = some (.cells (zlL k).toArray T fz)
def zq5 (P:Program) (fi g:Nat):Prop:=Av.Enters P fi /\ ∀ (n:Int) (w:World), -9223372036854775808 <= n -> n <= 9223372036854775807 -> TabAt w g 0 ->
 Calls P fi #[.int .i64 n] w fun e w'=>e = .returned (.string ⟨(Lib.itoa n).toArray⟩) /\ Below w.heap.size w w'
def zrz (P:Program) (fj:Nat):Prop:=Av.Enters P fj /\ (∀ (a:Option Addr) (c:Nat) (sep:ByteArray) (w:World), Calls P fj #[.slice a 0 c, .string sep] w fun e w'=>e = .returned (.string ⟨#[]⟩) /\ Below w.heap.size w w') /\
 ∀ (bk o c:Nat) (xs:List ByteArray) (sep:ByteArray) (w:World), (∀ (j:Nat) x, xs[j]? = some x -> w.cell? ⟨bk, o + j, none⟩ = some (.string x)) -> bk < w.heap.size -> xs.length <= 140737488355328 -> xs.length <= c -> (Lib.join (xs.map (·.data.toList)) sep.data.toList).length <= 140737488355328 ->
  Calls P fj #[.slice (some ⟨bk, o, none⟩) xs.length c, .string sep] w fun e w'=>e = .returned (.string ⟨(Lib.join (xs.map (·.data.toList)) sep.data.toList).toArray⟩) /\ Below w.heap.size w w'
def strsOf:List VV -> Option (List ByteArray)
 | []=>some []
 | .c (.string s) :: l=>match strsOf l with
  | some xs=>some (s :: xs)
  | none=>none
 | _=>none
theorem zep:∀ {cs:List VV} {xs:List ByteArray}, strsOf cs = some xs -> cs = xs.map fun s=>.c (.string s)
 | [], xs, h=>by simp only[strsOf, zLs] at h; subst h; rfl
 | x :: cs, xs, h=>by
  unfold strsOf at h
  split at h
  ·rename_i e; cases e
  ·rename_i s l e
   injection e with e1 e2
   subst e1; subst e2
   split at h
   ·rename_i xs' h1
    simp only[zLs] at h
    subst h
    rw [zep h1]; rfl
   ·cases h
  ·cases h
def zkV (l:List UInt8) (K:List UInt8 -> VV):VV:=@List.rec UInt8 (fun _=>(List UInt8 -> VV) -> VV) (fun K=>K []) (fun b _ ih K=>ih fun l'=>K (b :: l')) l K
theorem zgQ (l:List UInt8) (K:List UInt8 -> VV):zkV l K = K l:=by
 induction l generalizing K with
 | nil=>rfl
 | cons b l ih=>exact ih _
def zsr (fi fj g0:Nat):FuncId -> List VV -> Mem -> Option VV:=fun f vs M=>
 bif Nat.beq f fi then match vs with
  | [.c (.int .i64 n)]=>match zk7 n, M.get 0 with
   | some _, some (.glob g 0)=>bif Nat.beq g g0 then some (zkV (Lib.itoa n) fun l=>.c (.string ⟨l.toArray⟩)) else none
   | _, _=>none
  | _=>none
 else bif Nat.beq f fj then match vs with
  | [.sl l off n _ _, .c (.string sep)]=>match (M.get l).bind rdO with
   | some cs=>match strsOf ((cs.drop off).take n) with
    | some xs=>bif Nat.beq xs.length n && Nat.ble n 140737488355328 && Nat.ble (Lib.join (xs.map (·.data.toList)) sep.data.toList).length 140737488355328 then some (zkV (Lib.join (xs.map (·.data.toList)) sep.data.toList) fun l=>.c (.string ⟨l.toArray⟩)) else none
    | none=>none
   | _=>none
  | _=>none
 else none
theorem za0 {P:Program} {f:FuncId} {vs:List VV} {M:Mem} {x:Value} (hx:x.oneCell' = true) (h:∀ (B:Nat) (ρ:Rho) (w:World) (us:List Value), MRel B ρ M w -> VRelL ρ vs us -> Calls P f us.toArray w fun e w'=>e = .returned x /\ Below w.heap.size w w') (lim nx:Nat):zdx P lim f vs M nx (.val (.c x)) M nx:=by
 refine ⟨Nat.le_refl _, fun B ρ w us hlim hfin hB _ hm hv=>(h B ρ w us hm hv).mono ?_⟩
 rintro e w' ⟨rfl, hb⟩
 obtain ⟨ρ', g, m, rfl⟩:Post lim B nx nx ρ M M w w' (fun ρ'=>ρ' = ρ):=xP hm hfin hb hB rfl
 exact ⟨ρ', g, m, x, rfl, by simp only[VRel]; exact ⟨trivial, hx⟩⟩
theorem zqV {P:Program} {fi fj g0:Nat} (hi:zq5 P fi g0) (hj:zrz P fj):zhc P (zsr fi fj g0):=by
 intro f vs M v h
 unfold zsr at h
 cases hb:Nat.beq f fi with
 | true=>
  rw [hb] at h
  simp only[cond_true] at h
  have hb:=qI.1 hb
  subst hb
  split at h
  ·rename_i n
   split at h
   ·rename_i v' g hfit hg
    obtain ⟨_, h1, h2⟩:=zeR hfit
    cases hc:Nat.beq g g0 with
    | false=>rw [hc] at h; simp at h
    | true=>
     rw [hc] at h
     simp only[cond_true, zLs, zgQ] at h
     have hc:=qI.1 hc
     subst hc
     subst h
     refine ⟨hi.1, za0 rfl fun B ρ w us hm hv=>?_⟩
     simp only[VRelL, VRel] at hv
     obtain ⟨u, us', rfl, ⟨rfl, _⟩, rfl⟩:=hv
     obtain ⟨b, _, _, ho⟩:=hm.obj 0 _ hg
     obtain ⟨e, T, fz, hh⟩:=ho
     rw [e] at hh
     exact hi.2 n w h1 h2 ⟨T, fz, hh⟩
   ·cases h
  ·cases h
 | false=>
  rw [hb] at h
  simp only[cond_false] at h
  cases hb2:Nat.beq f fj with
  | false=>rw [hb2] at h; simp at h
  | true=>
   rw [hb2] at h
   simp only[cond_true] at h
   have hb2:=qI.1 hb2
   subst hb2
   split at h
   ·rename_i l off n cap e sep
    split at h
    ·rename_i cs hlr
     obtain ⟨ob, hl, hrd⟩:=Option.bind_eq_some_iff.1 hlr
     split at h
     ·rename_i xs hxs
      cases hc:(Nat.beq xs.length n && Nat.ble n 140737488355328 && Nat.ble (Lib.join (xs.map (·.data.toList)) sep.data.toList).length 140737488355328) with
      | false=>rw [hc] at h; simp at h
      | true=>
       rw [hc] at h
       simp only[cond_true, zLs, zgQ] at h
       simp only[zLa] at hc
       have c1:=qI.1 hc.1.1
       have c2:=zLb hc.1.2
       have c3:=zLb hc.2
       have hcs:=zep hxs
       subst h
       refine ⟨hj.1, za0 rfl fun B ρ w us hm hv=>?_⟩
       simp only[VRelL, VRel] at hv
       obtain ⟨u, us', rfl, ⟨b, hb, c, rfl, hnc, hcm, _⟩, u2, us2, rfl, ⟨rfl, _⟩, rfl⟩:=hv
       obtain ⟨b', hb', _, horel⟩:=hm.obj l _ hl
       rw [hb] at hb'; injection hb' with hb'; subst hb'
       subst c1
       refine hj.2.2 b.blk (b.base + off) c xs sep w (fun j x hx=>?_) horel.lt c2 hnc c3
       have h6:cs[off + j]? = some (.c (.string x)):=by
        have h7:((cs.drop off).take xs.length)[j]? = some (.c (.string x)):=by rw [hcs]; simp [hx]
        rw [List.getElem?_take] at h7
        split at h7
        ·rw [List.getElem?_drop] at h7; exact h7
        ·cases h7
       obtain ⟨u, h8, _, h9⟩:=zfw horel hrd (off + j) _ h6
       simp only[VRel] at h9
       rw [Nat.add_assoc, h8, h9.1]
     ·cases h
    ·cases h
   ·cases h
end
end Go.Bv
end
section
namespace Go.Bv
open Go.RowKit
noncomputable section
def znW (a b:FuncId -> List VV -> Mem -> Option VV):FuncId -> List VV -> Mem -> Option VV:=fun f vs M=>match a f vs M with
 | some v=>some v
 | none=>b f vs M
theorem zns {P:Program} {a b:FuncId -> List VV -> Mem -> Option VV} (ha:zhc P a) (hb:zhc P b):zhc P (znW a b):=fun f vs M v h=>by
 unfold znW at h
 split at h
 ·rename_i v' h1
  simp only[zLs] at h
  subst h
  exact ha f vs M _ h1
 ·exact hb f vs M v h
def zry (w:World) (b:Nat):Prop:=b < w.heap.size
def zkS (n:Int) (K:Int -> VV):VV:=match n with
 | .ofNat m=>@Nat.rec (fun _=>VV) (K (.ofNat 0)) (fun k _=>K (.ofNat (k + 1))) m
 | .negSucc m=>K (.negSucc m)
theorem zhl (n:Int) (K:Int -> VV):zkS n K = K n:=by
 cases n with
 | ofNat m=>cases m <;> rfl
 | negSucc m=>rfl
end
end Go.Bv
end
section
set_option linter.unusedSectionVars false
namespace Go.Bv
open Go.RowKit Go.Av
noncomputable section
mutual
/-- Data as values over made memory: each slice is an object that nobody writes. -/
def zaN:AV -> Mem -> Nat -> Option (VV × Mem × Nat)
 | .v x, M, nx=>bif x.oneCell' then some (.c x, M, nx) else none
 | .agg cs, M, nx=>match zcS cs M nx with
  | some (vs, M1, nx1)=>some (.agg vs, M1, nx1)
  | none=>none
 | .sl rows, M, nx=>match zjU rows M nx with
  | some (vs, M1, nx1)=>match rows with
   | []=>none
   | r :: _=>bif Nat.blt 0 r.length && rows.all (fun q=>Nat.beq q.length r.length) && Nat.blt nx1 16777215 then some (.sl nx1 0 rows.length none r.length, M1.set nx1 (some (.ro vs)), nx1 + 1) else none
  | none=>none
 | _, _, _=>none
def zcS:List AV -> Mem -> Nat -> Option (List VV × Mem × Nat)
 | [], M, nx=>some ([], M, nx)
 | x :: xs, M, nx=>match zaN x M nx with
  | some (v, M1, nx1)=>match zcS xs M1 nx1 with
   | some (vs, M2, nx2)=>some (v :: vs, M2, nx2)
   | none=>none
  | none=>none
def zjU:List (List AV) -> Mem -> Nat -> Option (List VV × Mem × Nat)
 | [], M, nx=>some ([], M, nx)
 | r :: rs, M, nx=>match zcS r M nx with
  | some (vs, M1, nx1)=>match zjU rs M1 nx1 with
   | some (ws, M2, nx2)=>some (vs ++ ws, M2, nx2)
   | none=>none
  | none=>none
end
structure Still (ok:Nat -> Prop) (ρ:Rho) (M:Mem) (nx:Nat) (w:World):Prop where
 mem:MRel 0 ρ M w
 fin:∀ l, nx <= l -> M.get l = none
 none:∀ l, nx <= l -> ρ l = none
 still:∀ l o, M.get l = some o -> o.still = true
 let_:∀ l cs b, M.get l = some (.ro cs) -> ρ l = some b -> ok b.blk
theorem Still.push {ok:Nat -> Prop} {ρ:Rho} {M:Mem} {nx:Nat} {w:World} (h:Still ok ρ M nx w) (hnx:nx < 16777215) {cs:List VV} {b:RB} (hb:b.blk < w.heap.size) (hk:ok b.blk)
  (hc:∀ (i:Nat) (v:VV), cs[i]? = some v -> ∃ u, w.cell? ⟨b.blk, b.base + i, Option.none⟩ = some u /\ u.oneCell' = true /\ VRel ρ v u):Still ok (upd ρ nx b) (M.set nx (some (.ro cs))) (nx + 1) w:=by
 have hget:∀ l, (M.set nx (some (.ro cs))).get l = if l = nx then some (.ro cs) else M.get l:=fun l=>Tr.get_set M nx l _ hnx
 have hx:zak ρ (upd ρ nx b):=jc (h.none nx (Nat.le_refl _))
 refine ⟨⟨fun l o hl=>?_, fun l l' o o' b1 b2 hl hl' _ _ _ hs=>?_⟩, fun l hl=>?_, fun l hl=>?_, fun l o hl=>?_, fun l cs' b' hl hb'=>?_⟩
 ·rw [hget] at hl
  by_cases e:l = nx
  ·rw [if_pos e] at hl
   injection hl with hl
   subst hl
   exact ⟨b, by simp [upd, e], Nat.zero_le _, hb, fun i v hv=>by obtain ⟨u, h1, h2, h3⟩:=hc i v hv; exact ⟨u, h1, h2, h3.ext hx⟩⟩
  ·rw [if_neg e] at hl
   obtain ⟨b', h1, h2, h3⟩:=h.mem.obj l o hl
   exact ⟨b', hx _ _ h1, h2, h3.keep hx rfl⟩
 ·have key:∀ l o, (M.set nx (some (.ro cs))).get l = some o -> o.still = true:=fun l o hl=>by
   rw [hget] at hl
   by_cases e:l = nx
   ·rw [if_pos e] at hl; injection hl with hl; subst hl; rfl
   ·rw [if_neg e] at hl; exact h.still l o hl
  rw [key l o hl, key l' o' hl'] at hs; cases hs
 ·rw [hget, if_neg (by omega)]; exact h.fin l (by omega)
 ·unfold upd; rw [if_neg (by omega)]; exact h.none l (by omega)
 ·rw [hget] at hl
  by_cases e:l = nx
  ·rw [if_pos e] at hl; injection hl with hl; subst hl; rfl
  ·rw [if_neg e] at hl; exact h.still l o hl
 ·rw [hget] at hl
  by_cases e:l = nx
  ·simp [upd, e] at hb'; subst hb'; exact hk
  ·rw [if_neg e] at hl
   simp only[upd, if_neg e] at hb'
   exact h.let_ l cs' b' hl hb'
mutual
theorem zlB:∀ (x:AV) (M:Mem) (nx:Nat) (v:VV) (M':Mem) (nx':Nat), zaN x M nx = some (v, M', nx') -> nx <= nx'
 | .v x, M, nx, v, M', nx', h=>by
  simp only[zaN] at h
  cases hx:x.oneCell' with
  | false=>rw [hx] at h; simp at h
  | true=>rw [hx] at h; simp only[cond_true, zLs, zLp] at h; omega
 | .agg cs, M, nx, v, M', nx', h=>by
  simp only[zaN] at h
  split at h
  ·rename_i vs M1 nx1 h1
   simp only[zLs, zLp] at h
   have:=zcu cs M nx vs M1 nx1 h1; omega
  ·cases h
 | .sl rows, M, nx, v, M', nx', h=>by
  simp only[zaN] at h
  split at h
  ·rename_i vs M1 nx1 h1
   cases rows with
   | nil=>simp at h
   | cons r rs=>
    simp only at h
    have:=zh9 (r :: rs) M nx vs M1 nx1 h1
    cases hc:(Nat.blt 0 r.length && (r :: rs).all (fun q=>Nat.beq q.length r.length) && Nat.blt nx1 16777215) with
    | false=>rw [hc] at h; simp at h
    | true=>rw [hc] at h; simp only[cond_true, zLs, zLp] at h; omega
  ·cases h
 | .top, M, nx, v, M', nx', h=>by simp [zaN] at h
 | .ptr _, M, nx, v, M', nx', h=>by simp [zaN] at h
 | .fn _ _ _, M, nx, v, M', nx', h=>by simp [zaN] at h
 | .ifc _ _, M, nx, v, M', nx', h=>by simp [zaN] at h
 | .tup _, M, nx, v, M', nx', h=>by simp [zaN] at h
 | .mp _ _, M, nx, v, M', nx', h=>by simp [zaN] at h
theorem zcu:∀ (xs:List AV) (M:Mem) (nx:Nat) (vs:List VV) (M':Mem) (nx':Nat), zcS xs M nx = some (vs, M', nx') -> nx <= nx'
 | [], M, nx, vs, M', nx', h=>by simp only[zcS, zLs, zLp] at h; omega
 | x :: xs, M, nx, vs, M', nx', h=>by
  simp only[zcS] at h
  split at h
  ·rename_i v M1 nx1 h1
   split at h
   ·rename_i vs2 M2 nx2 h2
    simp only[zLs, zLp] at h
    have:=zlB x M nx v M1 nx1 h1; have:=zcu xs M1 nx1 vs2 M2 nx2 h2; omega
   ·cases h
  ·cases h
theorem zh9:∀ (rs:List (List AV)) (M:Mem) (nx:Nat) (vs:List VV) (M':Mem) (nx':Nat), zjU rs M nx = some (vs, M', nx') -> nx <= nx'
 | [], M, nx, vs, M', nx', h=>by simp only[zjU, zLs, zLp] at h; omega
 | r :: rs, M, nx, vs, M', nx', h=>by
  simp only[zjU] at h
  split at h
  ·rename_i v M1 nx1 h1
   split at h
   ·rename_i vs2 M2 nx2 h2
    simp only[zLs, zLp] at h
    have:=zcu r M nx v M1 nx1 h1; have:=zh9 rs M1 nx1 vs2 M2 nx2 h2; omega
   ·cases h
  ·cases h
end
structure Lays (top:Nat) (ok:Nat -> Prop) (w:World) (S:Rho -> Mem -> Nat -> Prop):Prop where
 none:∀ {ρ:Rho} {M:Mem} {nx:Nat}, S ρ M nx -> nx < top -> ρ nx = none
 push:∀ {ρ:Rho} {M:Mem} {nx:Nat} {cs:List VV} {b:RB}, S ρ M nx -> nx < top -> nx < 16777215 -> b.blk < w.heap.size -> ok b.blk ->
  (∀ (i:Nat) (v:VV), cs[i]? = some v -> ∃ u, w.cell? ⟨b.blk, b.base + i, Option.none⟩ = some u /\ u.oneCell' = true /\ VRel ρ v u) -> S (upd ρ nx b) (M.set nx (some (.ro cs))) (nx + 1)
section
variable {ok:Nat -> Prop} {w:World} {top:Nat} {S:Rho -> Mem -> Nat -> Prop} (hS:Lays top ok w S)
include hS
mutual
theorem zis (hok:∀ b, ok b -> b < w.heap.size):∀ (x:AV) (M:Mem) (nx:Nat) (v:VV) (M':Mem) (nx':Nat) (ρ:Rho) (u:Value), zaN x M nx = some (v, M', nx') -> nx' <= top -> S ρ M nx -> Fits ok w x u -> ∃ ρ', zak ρ ρ' /\ S ρ' M' nx' /\ VRel ρ' v u /\ nx <= nx'
 | .v x, M, nx, v, M', nx', ρ, u, h, ht, hs, hf=>by
  simp only[zaN] at h
  cases hx:x.oneCell' with
  | false=>rw [hx] at h; simp at h
  | true=>
   rw [hx] at h
   simp only[cond_true, zLs, zLp] at h
   obtain ⟨rfl, rfl, rfl⟩:=h
   simp only[Fits] at hf
   exact ⟨ρ, fun _ _ h=>h, hs, by simp only[VRel]; exact hf, Nat.le_refl _⟩
 | .agg cs, M, nx, v, M', nx', ρ, u, h, ht, hs, hf=>by
  simp only[zaN] at h
  split at h
  ·rename_i vs M1 nx1 h1
   simp only[zLs, zLp] at h
   obtain ⟨rfl, rfl, rfl⟩:=h
   simp only[Fits] at hf
   obtain ⟨us, rfl, h2, h3⟩:=hf
   obtain ⟨ρ', h4, h5, h6, h7⟩:=zdw hok cs M nx vs M1 nx1 ρ us h1 ht hs h3
   exact ⟨ρ', h4, h5, by simp only[VRel]; exact ⟨us, rfl, h2, h6⟩, h7⟩
  ·cases h
 | .sl rows, M, nx, v, M', nx', ρ, u, h, ht, hs, hf=>by
  simp only[zaN] at h
  split at h
  ·rename_i vs M1 nx1 h1
   cases rows with
   | nil=>simp at h
   | cons r rs=>
    simp only at h
    cases hc:(Nat.blt 0 r.length && (r :: rs).all (fun q=>Nat.beq q.length r.length) && Nat.blt nx1 16777215) with
    | false=>rw [hc] at h; simp at h
    | true=>
     rw [hc] at h
     simp only[cond_true, zLs, zLp] at h
     obtain ⟨rfl, rfl, rfl⟩:=h
     simp only[zLa] at hc
     have hpos:=qo.1 hc.1.1
     have hnx:=qo.1 hc.2
     simp only[Fits] at hf
     obtain ⟨a, c, size, rfl, h2, h3, h4, h5⟩:=hf
     obtain ⟨b, off, rfl, hb, hr⟩:=h5 (by simp)
     obtain ⟨ρ1, e1, s1, c1, l1⟩:=zlh hok (r :: rs) M nx vs M1 nx1 ρ b off h1 (by omega) hs hr
     refine ⟨upd ρ1 nx1 ⟨b, off, c * r.length⟩, fun l x hx=>jc (hS.none s1 (by omega)) _ _ (e1 _ _ hx), hS.push s1 (by omega) hnx (hok b hb) hb c1, ?_, by omega⟩
     simp only[VRel]
     exact ⟨⟨b, off, c * r.length⟩, by simp [upd], c, by simp, h2, h3, hpos, by simp⟩
  ·cases h
 | .top, M, nx, v, M', nx', ρ, u, h, _, _, _=>by simp [zaN] at h
 | .ptr _, M, nx, v, M', nx', ρ, u, h, _, _, _=>by simp [zaN] at h
 | .fn _ _ _, M, nx, v, M', nx', ρ, u, h, _, _, _=>by simp [zaN] at h
 | .ifc _ _, M, nx, v, M', nx', ρ, u, h, _, _, _=>by simp [zaN] at h
 | .tup _, M, nx, v, M', nx', ρ, u, h, _, _, _=>by simp [zaN] at h
 | .mp _ _, M, nx, v, M', nx', ρ, u, h, _, _, _=>by simp [zaN] at h
theorem zdw (hok:∀ b, ok b -> b < w.heap.size):∀ (xs:List AV) (M:Mem) (nx:Nat) (vs:List VV) (M':Mem) (nx':Nat) (ρ:Rho) (us:List Value), zcS xs M nx = some (vs, M', nx') -> nx' <= top -> S ρ M nx -> FitsL ok w xs us -> ∃ ρ', zak ρ ρ' /\ S ρ' M' nx' /\ VRelL ρ' vs us /\ nx <= nx'
 | [], M, nx, vs, M', nx', ρ, us, h, ht, hs, hf=>by
  simp only[zcS, zLs, zLp] at h
  obtain ⟨rfl, rfl, rfl⟩:=h
  simp only[FitsL] at hf
  exact ⟨ρ, fun _ _ h=>h, hs, by simp only[VRelL]; exact hf, Nat.le_refl _⟩
 | x :: xs, M, nx, vs, M', nx', ρ, us, h, ht, hs, hf=>by
  simp only[zcS] at h
  split at h
  ·rename_i v M1 nx1 h1
   split at h
   ·rename_i vs2 M2 nx2 h2
    simp only[zLs, zLp] at h
    obtain ⟨rfl, rfl, rfl⟩:=h
    simp only[FitsL] at hf
    obtain ⟨u, us', rfl, f1, f2⟩:=hf
    obtain ⟨ρ1, e1, s1, v1, l1⟩:=zis hok x M nx v M1 nx1 ρ u h1 (by have:=zcu xs M1 nx1 _ _ _ h2; omega) hs f1
    obtain ⟨ρ2, e2, s2, v2, l2⟩:=zdw hok xs M1 nx1 vs2 M2 nx2 ρ1 us' h2 ht s1 f2
    exact ⟨ρ2, fun l b h=>e2 _ _ (e1 _ _ h), s2, by simp only[VRelL]; exact ⟨u, us', rfl, v1.ext e2, v2⟩, by omega⟩
   ·cases h
  ·cases h
theorem zlJ (hok:∀ b, ok b -> b < w.heap.size):∀ (xs:List AV) (M:Mem) (nx:Nat) (vs:List VV) (M':Mem) (nx':Nat) (ρ:Rho) (b off:Nat), zcS xs M nx = some (vs, M', nx') -> nx' <= top -> S ρ M nx -> FitsC ok w b off xs ->
  ∃ ρ', zak ρ ρ' /\ S ρ' M' nx' /\ (vs.length = xs.length /\ ∀ (i:Nat) (v:VV), vs[i]? = some v -> ∃ u, w.cell? ⟨b, off + i, Option.none⟩ = some u /\ u.oneCell' = true /\ VRel ρ' v u) /\ nx <= nx'
 | [], M, nx, vs, M', nx', ρ, b, off, h, ht, hs, hf=>by
  simp only[zcS, zLs, zLp] at h
  obtain ⟨rfl, rfl, rfl⟩:=h
  exact ⟨ρ, fun _ _ h=>h, hs, ⟨rfl, fun i v hv=>by simp at hv⟩, Nat.le_refl _⟩
 | x :: xs, M, nx, vs, M', nx', ρ, b, off, h, ht, hs, hf=>by
  simp only[zcS] at h
  split at h
  ·rename_i v M1 nx1 h1
   split at h
   ·rename_i vs2 M2 nx2 h2
    simp only[zLs, zLp] at h
    obtain ⟨rfl, rfl, rfl⟩:=h
    simp only[FitsC] at hf
    obtain ⟨⟨u, f1, f2, f3⟩, f4⟩:=hf
    obtain ⟨ρ1, e1, s1, v1, l1⟩:=zis hok x M nx v M1 nx1 ρ u h1 (by have:=zcu xs M1 nx1 _ _ _ h2; omega) hs f3
    obtain ⟨ρ2, e2, s2, ⟨v2, v3⟩, l2⟩:=zlJ hok xs M1 nx1 vs2 M2 nx2 ρ1 b (off + 1) h2 ht s1 f4
    refine ⟨ρ2, fun l b h=>e2 _ _ (e1 _ _ h), s2, ⟨by simp [v2], fun i z hz=>?_⟩, by omega⟩
    cases i with
    | zero=>simp at hz; subst hz; exact ⟨u, f1, f2, v1.ext e2⟩
    | succ i=>
     simp at hz
     obtain ⟨u', a1, a2, a3⟩:=v3 i z hz
     exact ⟨u', by rw [show off + (i + 1) = off + 1 + i from by omega]; exact a1, a2, a3⟩
   ·cases h
  ·cases h
theorem zlh (hok:∀ b, ok b -> b < w.heap.size):∀ (xs:List (List AV)) (M:Mem) (nx:Nat) (vs:List VV) (M':Mem) (nx':Nat) (ρ:Rho) (b off:Nat), zjU xs M nx = some (vs, M', nx') -> nx' <= top -> S ρ M nx -> FitsR ok w b off xs ->
  ∃ ρ', zak ρ ρ' /\ S ρ' M' nx' /\ (∀ (i:Nat) (v:VV), vs[i]? = some v -> ∃ u, w.cell? ⟨b, off + i, Option.none⟩ = some u /\ u.oneCell' = true /\ VRel ρ' v u) /\ nx <= nx'
 | [], M, nx, vs, M', nx', ρ, b, off, h, ht, hs, hf=>by
  simp only[zjU, zLs, zLp] at h
  obtain ⟨rfl, rfl, rfl⟩:=h
  exact ⟨ρ, fun _ _ h=>h, hs, fun i v hv=>by simp at hv, Nat.le_refl _⟩
 | x :: xs, M, nx, vs, M', nx', ρ, b, off, h, ht, hs, hf=>by
  simp only[zjU] at h
  split at h
  ·rename_i v M1 nx1 h1
   split at h
   ·rename_i vs2 M2 nx2 h2
    simp only[zLs, zLp] at h
    obtain ⟨rfl, rfl, rfl⟩:=h
    simp only[FitsR] at hf
    obtain ⟨f1, f2⟩:=hf
    obtain ⟨ρ1, e1, s1, ⟨v0, v1⟩, l1⟩:=zlJ hok x M nx v M1 nx1 ρ b off h1 (by have:=zh9 xs M1 nx1 _ _ _ h2; omega) hs f1
    obtain ⟨ρ2, e2, s2, v3, l2⟩:=zlh hok xs M1 nx1 vs2 M2 nx2 ρ1 b (off + x.length) h2 ht s1 f2
    refine ⟨ρ2, fun l b h=>e2 _ _ (e1 _ _ h), s2, fun i z hz=>?_, by omega⟩
    rw [List.getElem?_append] at hz
    split at hz
    ·obtain ⟨u', a1, a2, a3⟩:=v1 i z hz
     exact ⟨u', a1, a2, a3.ext e2⟩
    ·rename_i hi
     obtain ⟨u', a1, a2, a3⟩:=v3 _ z hz
     exact ⟨u', by rw [show off + i = off + x.length + (i - v.length) from by omega]; exact a1, a2, a3⟩
   ·cases h
  ·cases h
end
end
def chop (e:Nat):Nat -> List VV -> List (List VV)
 | 0, _=>[]
 | n + 1, l=>l.take e :: chop e n (l.drop e)
def zgw (M:Mem) (lo:Nat):Nat -> VV -> Option AV
 | 0, _=>none
 | k + 1, v=>match v with
  | .c x=>some (.v x)
  | .agg cs=>match cs.mapM (zgw M lo k) with
   | some l=>some (.agg l)
   | none=>none
  | .tup cs=>match cs.mapM (zgw M lo k) with
   | some l=>some (.tup l)
   | none=>none
  | .sl l off n _ e=>bif Nat.beq n 0 then some (.sl []) else bif Nat.ble lo l then match M.get l with
   | some ob=>match rdO ob with
    | some cs=>bif Nat.ble (off + n * e) cs.length then match (chop e n (cs.drop off)).mapM (fun r=>r.mapM (zgw M lo k)) with
     | some rows=>some (.sl rows)
     | none=>none else none
    | none=>none
   | none=>none else none
  | _=>none
theorem mapM_some {α β:Type} {f:α -> Option β}:∀ {l:List α} {r:List β}, l.mapM f = some r -> r.length = l.length /\ ∀ (i:Nat) (y:β), r[i]? = some y -> ∃ x, l[i]? = some x /\ f x = some y
 | [], r, h=>by simp at h; subst h; simp
 | x :: l, r, h=>by
  rw [List.mapM_cons] at h
  simp only[Option.bind_eq_bind, Option.bind_eq_some_iff, Option.pure_def, zLs] at h
  obtain ⟨y, h1, ys, h2, rfl⟩:=h
  obtain ⟨h3, h4⟩:=mapM_some h2
  refine ⟨by simp [h3], fun i z hz=>?_⟩
  cases i with
  | zero=>simp at hz; subst hz; exact ⟨x, by simp, h1⟩
  | succ i=>simp at hz; simpa using h4 i z hz
theorem zjP (e:Nat):∀ (n:Nat) (l:List VV), (chop e n l).length = n
 | 0, _=>rfl
 | n + 1, l=>by simp [chop, zjP e n]
theorem zfn (e:Nat):∀ (n:Nat) (l:List VV) (i:Nat) (r:List VV), (chop e n l)[i]? = some r -> r = (l.drop (i * e)).take e
 | 0, l, i, r, h=>by simp [chop] at h
 | n + 1, l, i, r, h=>by
  cases i with
  | zero=>simp [chop] at h; subst h; simp
  | succ i=>
   simp [chop] at h
   have:=zfn e n (l.drop e) i r h
   rw [this, List.drop_drop, show e + i * e = (i + 1) * e from by rw [Nat.add_mul]; omega]
theorem ziC {ok:Nat -> Prop} {B lo:Nat} {ρ:Rho} {M:Mem} {w:World} (hm:MRel B ρ M w) (hk:∀ l b o cs, lo <= l -> M.get l = some o -> ρ l = some b -> rdO o = some cs -> ok b.blk):∀ (k:Nat) (v:VV) (x:AV) (u:Value), zgw M lo k v = some x -> VRel ρ v u -> Fits ok w x u:=by
 intro k
 induction k with
 | zero=>intro v x u h; simp [zgw] at h
 | succ k ih=>
  intro v x u h hv
  have list:∀ (cs:List VV) (l:List AV) (us:List Value), cs.mapM (zgw M lo k) = some l -> VRelL ρ cs us -> FitsL ok w l us:=fun cs l us h1 h2=>by
   obtain ⟨h3, h4⟩:=mapM_some h1
   refine FitsL.of_get (by rw [h2.length, h3]) fun i y u' hy hu=>?_
   obtain ⟨c, hc, ho⟩:=h4 i y hy
   obtain ⟨u2, hu2, hr⟩:=h2.get hc
   rw [hu] at hu2; injection hu2 with hu2; subst hu2
   exact ih c y u' ho hr
  unfold zgw at h
  split at h
  ·simp only[zLs] at h
   subst h
   simp only[VRel] at hv
   simp only[Fits]; exact hv
  ·rename_i cs
   split at h
   ·rename_i l hl
    simp only[zLs] at h
    subst h
    simp only[VRel] at hv
    obtain ⟨vs, rfl, h1, h2⟩:=hv
    simp only[Fits]
    exact ⟨vs, rfl, h1, list cs l vs hl h2⟩
   ·cases h
  ·rename_i cs
   split at h
   ·rename_i l hl
    simp only[zLs] at h
    subst h
    simp only[VRel] at hv
    obtain ⟨vs, rfl, h2⟩:=hv
    simp only[Fits]
    exact ⟨vs, rfl, list cs l vs hl h2⟩
   ·cases h
  ·rename_i l off n cap e
   simp only[VRel] at hv
   obtain ⟨b, hb, c, rfl, h1, h2, _⟩:=hv
   cases hn:Nat.beq n 0 with
   | true=>
    rw [hn] at h
    simp only[cond_true, zLs] at h
    subst h
    have:=qI.1 hn
    subst this
    simp only[Fits]
    exact ⟨some ⟨b.blk, b.base + off, none⟩, c, 0, rfl, h1, h2, by simp, by simp⟩
   | false=>
    rw [hn] at h
    simp only[cond_false] at h
    cases hlo:Nat.ble lo l with
    | false=>rw [hlo] at h; simp at h
    | true=>
    rw [hlo] at h
    simp only[cond_true] at h
    have hlo:=zLb hlo
    split at h
    ·rename_i ob hob
     split at h
     ·rename_i cs hrd
      cases hle:Nat.ble (off + n * e) cs.length with
      | false=>rw [hle] at h; simp at h
      | true=>
       rw [hle] at h
       simp only[cond_true] at h
       have hle:=zLb hle
       split at h
       ·rename_i rows hrows
        simp only[zLs] at h
        subst h
        obtain ⟨r1, r2⟩:=mapM_some hrows
        rw [zjP] at r1
        obtain ⟨b', hb', _, horel⟩:=hm.obj l ob hob
        rw [hb] at hb'; injection hb' with hb'; subst hb'
        have hrowlen:∀ (i:Nat) (r:List AV), rows[i]? = some r -> r.length = e:=fun i r hr=>by
         obtain ⟨q, hq, hq2⟩:=r2 i r hr
         have hi:i < n:=by
          have:=(zLg hr).1
          omega
         have hqe:=zfn e n _ i q hq
         obtain ⟨q1, _⟩:=mapM_some hq2
         rw [q1, hqe, List.length_take, List.length_drop, List.length_drop]
         have:(i + 1) * e <= n * e:=Nat.mul_le_mul_right e hi
         rw [Nat.add_mul] at this
         omega
        simp only[Fits]
        refine ⟨some ⟨b.blk, b.base + off, none⟩, c, e, by rw [r1], by rw [r1]; exact h1, h2, fun r hr=>?_, fun _=>⟨b.blk, b.base + off, rfl, hk l b ob cs hlo hob hb hrd, ?_⟩⟩
        ·obtain ⟨i, hi⟩:=List.mem_iff_getElem?.1 hr
         exact hrowlen i r hi
        ·refine FitsR.of_get (size:=e) (fun r hr=>?_) fun i r hr=>?_
         ·obtain ⟨i, hi⟩:=List.mem_iff_getElem?.1 hr
          exact hrowlen i r hi
         ·refine FitsC.of_get fun j y hy=>?_
          obtain ⟨q, hq, hq2⟩:=r2 i r hr
          obtain ⟨_, q3⟩:=mapM_some hq2
          obtain ⟨z, hz, hz2⟩:=q3 j y hy
          have hqe:=zfn e n _ i q hq
          have hj:j < e:=by
           have:=(zLg hy).1
           rw [hrowlen i r hr] at this; exact this
          have hcs:cs[off + i * e + j]? = some z:=by
           rw [hqe, List.getElem?_take, if_pos hj, List.getElem?_drop, List.getElem?_drop] at hz
           rw [Nat.add_assoc]; exact hz
          obtain ⟨u', a1, a2, a3⟩:=zfw horel hrd _ z hcs
          exact ⟨u', by rw [show b.base + off + i * e + j = b.base + (off + i * e + j) from by omega]; exact a1, a2, ih z y u' hz2 a3⟩
       ·cases h
     ·cases h
    ·cases h
  ·cases h
def zsS (P:Program) (drt:FuncId -> Bool) (orc:Orc) (n g0:Nat) (f:FuncId) (args:List AV):Option AV:=match zcS args (Tr.nd .lf (some (.glob g0 0)) .lf) 1 with
 | some (vs, M0, nx0)=>match evS P drt orc n nx0 (.call f vs M0 nx0) with
  | some (.out (.val v) M _)=>zgw M 0 20 v
  | _=>none
 | none=>none
theorem zkD {P:Program} {drt:FuncId -> Bool} {orc:Orc} {G:Av.Glob} {f:FuncId} {args:List AV} {r:AV} {n g0:Nat} (ho:zeK P orc) (hG:∀ w, G.holds w -> TabAt w g0 0)
  (h:zsS P drt orc n g0 f args = some r):Av.ACall P G f args r:=by
 unfold zsS at h
 split at h
 ·rename_i vs M0 nx0 ha
  split at h
  ·rename_i v M nx hev
   obtain ⟨he, hc⟩:=zk5 ho n _ _ _ hev
   refine ⟨he, fun ok w us hg hok hf=>?_⟩
   have hget:∀ l, (Tr.nd .lf (some (.glob g0 0)) .lf:Mem).get l = if l = 0 then some (.glob g0 0) else none:=fun l=>by
    rw [Tr.get_nd, Tr.get_lf, Tr.get_lf]
    by_cases h0:l = 0
    ·rw [if_pos h0, if_pos h0]
    ·rw [if_neg h0, if_neg h0]; split <;> rfl
   obtain ⟨T, fz, hh⟩:=hG w hg
   let ρ0:Rho:=fun l=>if l = 0 then some ⟨g0, 0, 0⟩ else none
   have hs0:Still ok ρ0 (Tr.nd .lf (some (.glob g0 0)) .lf) 1 w:=by
    refine ⟨⟨fun l o hl=>?_, fun l l' o o' b b' hl hl' h1 h2 _ _=>?_⟩, fun l hl=>by rw [hget, if_neg (by omega)], fun l hl=>by simp only[ρ0]; rw [if_neg (by omega)], fun l o hl=>?_, fun l cs b hl _=>?_⟩
    ·rw [hget] at hl
     by_cases h0:l = 0
     ·rw [if_pos h0] at hl
      injection hl with hl
      subst hl
      exact ⟨⟨g0, 0, 0⟩, by simp [ρ0, h0], Nat.zero_le _, rfl, T, fz, hh⟩
     ·rw [if_neg h0] at hl; cases hl
    ·have e1:l = 0:=Classical.byContradiction fun c=>by simp [ρ0, c] at h1
     have e2:l' = 0:=Classical.byContradiction fun c=>by simp [ρ0, c] at h2
     omega
    ·rw [hget] at hl
     by_cases h0:l = 0
     ·rw [if_pos h0] at hl; injection hl with hl; subst hl; rfl
     ·rw [if_neg h0] at hl; cases hl
    ·rw [hget] at hl
     by_cases h0:l = 0
     ·rw [if_pos h0] at hl; injection hl with hl; cases hl
     ·rw [if_neg h0] at hl; cases hl
   obtain ⟨ρ, _, hs, hv, _⟩:=zdw (top:=nx0) (S:=fun ρ M nx=>Still ok ρ M nx w) ⟨fun h _=>h.none _ (Nat.le_refl _), fun h _ h1 h2 h3 h4=>h.push h1 h2 h3 h4⟩ hok args _ 1 vs M0 nx0 ρ0 us ha (Nat.le_refl _) hs0 hf
   refine (hc.2 0 ρ w us (Nat.le_refl _) hs.fin (Nat.zero_le _) (fun l hl _=>hs.none l hl) hs.mem hv).mono ?_
   rintro e w' ⟨ρ', g, m, u, rfl, hu⟩
   obtain ⟨x1, x2, x3, x4, x5⟩:=g.below
   refine ⟨u, rfl, ⟨x1, x2, x3, x4, fun b hb=>g.unch b hb (fun l b' o h1 h2=>by omega)⟩, ziC m (fun l b o cs _ hl hb hrd=>?_) 20 v r u h hu⟩
   rcases Nat.lt_or_ge l nx0 with c | c
   ·rw [g.old l c] at hl
    rw [g.ext l (.inl c)] at hb
    have hst:=hs.still l o hl
    cases o with
    | ro cs'=>exact .inl (hs.let_ l cs' b hl hb)
    | glob _ _=>simp [rdO] at hrd
    | cells _=>simp [VO.still] at hst
    | map _ _=>simp [VO.still] at hst
    | loop _ _ _ _ _ _ _ _ _=>simp [VO.still] at hst
    | dfd _=>simp [VO.still] at hst
    | iter _ _=>simp [VO.still] at hst
    | tc _ _ _=>simp [VO.still] at hst
   ·rcases g.new l b o c hl hb with c1 | ⟨l0, b0, o0, a1, a2, _⟩
    ·obtain ⟨b', hb', _, ho'⟩:=m.obj l o hl
     rw [hb] at hb'; injection hb' with hb'; subst hb'
     exact .inr ⟨c1, ho'.lt⟩
    ·omega
  ·cases h
 ·cases h
end
end Go.Bv
end
section
namespace Go.Bv
open Go.RowKit Go.Av
noncomputable section
def zsu (w w':World) (b:Nat):Prop:=w.heap.size <= b /\ b < w'.heap.size
def zet (P:Program) (g0:Nat) (f:FuncId) (args:List AV) (r:AV):Prop:=Enters P f /\ ∀ (ok:Nat -> Prop) (w:World) (us:List Value), TabAt w g0 0 -> (∀ b, ok b -> b < w.heap.size) -> FitsL ok w args us ->
 Calls P f us.toArray w fun e w'=>∃ u, e = .returned u /\ Below w.heap.size w w' /\ Fits (zsu w w') w' r u
def runN (P:Program) (drt:FuncId -> Bool) (orc:Orc) (n g0:Nat) (f:FuncId) (args:List AV):Option AV:=match zcS args (Tr.nd .lf (some (.glob g0 0)) .lf) 1 with
 | some (vs, M0, nx0)=>match evS P drt orc n nx0 (.call f vs M0 nx0) with
  | some (.out (.val v) M _)=>zgw M nx0 20 v
  | _=>none
 | none=>none
theorem zzZ {P:Program} {drt:FuncId -> Bool} {orc:Orc} {f:FuncId} {args:List AV} {r:AV} {n g0:Nat} (ho:zeK P orc)
  (h:runN P drt orc n g0 f args = some r):zet P g0 f args r:=by
 unfold runN at h
 split at h
 ·rename_i vs M0 nx0 ha
  split at h
  ·rename_i v M nx hev
   obtain ⟨he, hc⟩:=zk5 ho n _ _ _ hev
   refine ⟨he, fun ok w us hg hok hf=>?_⟩
   have hget:∀ l, (Tr.nd .lf (some (.glob g0 0)) .lf:Mem).get l = if l = 0 then some (.glob g0 0) else none:=fun l=>by
    rw [Tr.get_nd, Tr.get_lf, Tr.get_lf]
    by_cases h0:l = 0
    ·rw [if_pos h0, if_pos h0]
    ·rw [if_neg h0, if_neg h0]; split <;> rfl
   obtain ⟨T, fz, hh⟩:=hg
   let ρ0:Rho:=fun l=>if l = 0 then some ⟨g0, 0, 0⟩ else none
   have hs0:Still ok ρ0 (Tr.nd .lf (some (.glob g0 0)) .lf) 1 w:=by
    refine ⟨⟨fun l o hl=>?_, fun l l' o o' b b' hl hl' h1 h2 _ _=>?_⟩, fun l hl=>by rw [hget, if_neg (by omega)], fun l hl=>by simp only[ρ0]; rw [if_neg (by omega)], fun l o hl=>?_, fun l cs b hl _=>?_⟩
    ·rw [hget] at hl
     by_cases h0:l = 0
     ·rw [if_pos h0] at hl
      injection hl with hl
      subst hl
      exact ⟨⟨g0, 0, 0⟩, by simp [ρ0, h0], Nat.zero_le _, rfl, T, fz, hh⟩
     ·rw [if_neg h0] at hl; cases hl
    ·have e1:l = 0:=Classical.byContradiction fun c=>by simp [ρ0, c] at h1
     have e2:l' = 0:=Classical.byContradiction fun c=>by simp [ρ0, c] at h2
     omega
    ·rw [hget] at hl
     by_cases h0:l = 0
     ·rw [if_pos h0] at hl; injection hl with hl; subst hl; rfl
     ·rw [if_neg h0] at hl; cases hl
    ·rw [hget] at hl
     by_cases h0:l = 0
     ·rw [if_pos h0] at hl; injection hl with hl; cases hl
     ·rw [if_neg h0] at hl; cases hl
   obtain ⟨ρ, _, hs, hv, _⟩:=zdw (top:=nx0) (S:=fun ρ M nx=>Still ok ρ M nx w) ⟨fun h _=>h.none _ (Nat.le_refl _), fun h _ h1 h2 h3 h4=>h.push h1 h2 h3 h4⟩ hok args _ 1 vs M0 nx0 ρ0 us ha (Nat.le_refl _) hs0 hf
   refine (hc.2 0 ρ w us (Nat.le_refl _) hs.fin (Nat.zero_le _) (fun l hl _=>hs.none l hl) hs.mem hv).mono ?_
   rintro e w' ⟨ρ', g, m, u, rfl, hu⟩
   obtain ⟨x1, x2, x3, x4, x5⟩:=g.below
   refine ⟨u, rfl, ⟨x1, x2, x3, x4, fun b hb=>g.unch b hb (fun l b' o h1 h2=>by omega)⟩, ziC m (fun l b o cs hlo hl hb hrd=>?_) 20 v r u h hu⟩
   rcases g.new l b o hlo hl hb with c1 | ⟨l0, b0, o0, a1, a2, _⟩
   ·obtain ⟨b', hb', _, ho'⟩:=m.obj l o hl
    rw [hb] at hb'; injection hb' with hb'; subst hb'
    exact ⟨c1, ho'.lt⟩
   ·omega
  ·cases h
 ·cases h
def zpJ:List UInt8 -> List UInt8 -> Bool
 | [], []=>true
 | a :: l, b :: m=>Nat.beq a.toNat b.toNat && zpJ l m
 | _, _=>false
theorem zlo:∀ {l m:List UInt8}, zpJ l m = true -> l = m
 | [], [], _=>rfl
 | a :: l, b :: m, h=>by
  simp only[zpJ, zLa] at h
  rw [zlo h.2, UInt8.toNat_inj.1 (qI.1 h.1)]
 | [], _ :: _, h=>by cases h
 | _ :: _, [], h=>by cases h
def eqD:Value -> Value -> Bool
 | .int .i64 a, .int .i64 b=>isZero (a - b)
 | .bool true, .bool true=>true
 | .bool false, .bool false=>true
 | .string s, .string t=>zpJ s.data.toList t.data.toList
 | .slice none 0 0, .slice none 0 0=>true
 | _, _=>false
theorem zsF {x y:Value} (h:eqD x y = true):x = y:=by
 unfold eqD at h
 split at h
 ·rename_i a b
  have:a - b = 0:=by
   unfold isZero at h
   split at h
   ·assumption
   ·cases h
  rw [show a = b from by omega]
 ·rfl
 ·rfl
 ·rename_i s t
  have:=zlo h
  rw [show s = t from ByteArray.ext (Array.toList_inj.1 this)]
 ·rfl
 ·cases h
mutual
def eqA:AV -> AV -> Bool
 | .v x, .v y=>eqD x y
 | .agg a, .agg b=>zgv a b
 | .tup a, .tup b=>zgv a b
 | .sl a, .sl b=>znd a b
 | _, _=>false
def zgv:List AV -> List AV -> Bool
 | [], []=>true
 | x :: l, y :: m=>eqA x y && zgv l m
 | _, _=>false
def znd:List (List AV) -> List (List AV) -> Bool
 | [], []=>true
 | x :: l, y :: m=>zgv x y && znd l m
 | _, _=>false
end
mutual
theorem zrH:∀ {x y:AV}, eqA x y = true -> x = y
 | .v x, y, h=>by cases y <;> simp only[eqA, Bool.false_eq_true] at h; rw [zsF h]
 | .agg a, y, h=>by cases y <;> simp only[eqA, Bool.false_eq_true] at h; rw [zdN h]
 | .tup a, y, h=>by cases y <;> simp only[eqA, Bool.false_eq_true] at h; rw [zdN h]
 | .sl a, y, h=>by cases y <;> simp only[eqA, Bool.false_eq_true] at h; rw [zln h]
 | .top, y, h=>by simp [eqA] at h
 | .ptr _, y, h=>by simp [eqA] at h
 | .fn _ _ _, y, h=>by simp [eqA] at h
 | .ifc _ _, y, h=>by simp [eqA] at h
theorem zdN:∀ {x y:List AV}, zgv x y = true -> x = y
 | [], [], _=>rfl
 | x :: l, y :: m, h=>by simp only[zgv, zLa] at h; rw [zrH h.1, zdN h.2]
 | [], _ :: _, h=>by simp [zgv] at h
 | _ :: _, [], h=>by simp [zgv] at h
theorem zln:∀ {x y:List (List AV)}, znd x y = true -> x = y
 | [], [], _=>rfl
 | x :: l, y :: m, h=>by simp only[znd, zLa] at h; rw [zdN h.1, zln h.2]
 | [], _ :: _, h=>by simp [znd] at h
 | _ :: _, [], h=>by simp [znd] at h
end
structure DEnt where
 f:FuncId
 args:List AV
 r:AV
def resD (r:AV) (M:Mem) (nx:Nat):Option (VV × Mem × Nat):=match r with
 | .tup rs=>match zcS rs M nx with
  | some (vs, M', nx')=>some (.tup vs, M', nx')
  | none=>none
 | r=>zaN r M nx
def zl1 (f:FuncId) (as:List AV):List DEnt -> Option AV
 | []=>none
 | e :: l=>bif Nat.beq f e.f && zgv as e.args then some e.r else zl1 f as l
theorem zjC {f:FuncId} {as:List AV} {r:AV}:∀ {l:List DEnt}, zl1 f as l = some r -> ∃ e ∈ l, e.f = f /\ e.args = as /\ e.r = r
 | [], h=>by cases h
 | e :: l, h=>by
  unfold zl1 at h
  cases hc:(Nat.beq f e.f && zgv as e.args) with
  | true=>
   rw [hc] at h
   simp only[cond_true, zLs] at h
   simp only[zLa] at hc
   exact ⟨e, by simp, (qI.1 hc.1).symm, (zdN hc.2).symm, h⟩
  | false=>
   rw [hc] at h
   obtain ⟨e', h1, h2⟩:=zjC h
   exact ⟨e', List.mem_cons_of_mem _ h1, h2⟩
def zr2 (f:FuncId):List DEnt -> Bool
 | []=>false
 | e :: l=>Nat.beq f e.f || zr2 f l
def zrW (g0:Nat) (tab:List DEnt):Orc:=fun _ f vs M nx=>bif zr2 f tab then match M.get 0 with
  | some (.glob g 0)=>bif Nat.beq g g0 then match vs.mapM (zgw M 0 20) with
    | some as=>match zl1 f as tab with
     | some r=>resD r M nx
     | none=>none
    | none=>none else none
  | _=>none else none
structure NewS (nx0 top B:Nat) (ρ0:Rho) (M0:Mem) (w w':World) (ρ:Rho) (M:Mem) (nx:Nat):Prop where
 mem:MRel B ρ M w'
 fin:∀ l, nx <= l -> M.get l = none
 le:nx0 <= nx
 free:∀ l, nx <= l -> l < top -> ρ l = none
 ext:∀ l, (l < nx0 ∨ top <= l) -> ρ l = ρ0 l
 old:∀ l, l < nx0 -> M.get l = M0.get l
 low:∀ l o b, l < nx0 -> M.get l = some o -> ρ l = some b -> b.blk < w.heap.size
 new:∀ l o b, nx0 <= l -> M.get l = some o -> ρ l = some b -> w.heap.size <= b.blk /\ o.still = true
theorem NewS.lays {nx0 top B:Nat} {ρ0:Rho} {M0:Mem} {w w':World} (hB:B <= w.heap.size):Lays top (zsu w w') w' (NewS nx0 top B ρ0 M0 w w') where
 none:=fun h ht=>h.free _ (Nat.le_refl _) ht
 push:=by
  intro ρ M nx cs b h ht hnx hb hk hc
  have hget:∀ l, (M.set nx (some (.ro cs))).get l = if l = nx then some (.ro cs) else M.get l:=fun l=>Tr.get_set M nx l _ hnx
  have hx:zak ρ (upd ρ nx b):=jc (h.free nx (Nat.le_refl _) ht)
  have hle:=h.le
  refine ⟨⟨fun l o hl=>?_, fun l l' o o' b1 b2 hl hl' h1 h2 h3 hs=>?_⟩, fun l hl=>?_, by omega, fun l h1 h2=>?_, fun l hl=>?_, fun l hl=>?_, fun l o b' h1 h2 h3=>?_, fun l o b' h1 h2 h3=>?_⟩
  ·rw [hget] at hl
   by_cases e:l = nx
   ·rw [if_pos e] at hl
    injection hl with hl
    subst hl
    exact ⟨b, by simp [upd, e], Nat.le_trans hB hk.1, hb, fun i v hv=>by obtain ⟨u, h1, h2, h3⟩:=hc i v hv; exact ⟨u, h1, h2, h3.ext hx⟩⟩
   ·rw [if_neg e] at hl
    obtain ⟨b', h1, h2, h3⟩:=h.mem.obj l o hl
    exact ⟨b', hx _ _ h1, h2, h3.keep hx rfl⟩
  ·rw [hget] at hl hl'
   by_cases e:l = nx
   ·rw [if_pos e] at hl; injection hl with hl; subst hl
    simp only[upd, if_pos e, zLs] at h1
    subst h1
    by_cases e':l' = nx
    ·omega
    ·rw [if_neg e'] at hl'
     simp only[upd, if_neg e'] at h2
     rcases Nat.lt_or_ge l' nx0 with c | c
     ·have:=h.low l' o' b2 c hl' h2; have:=hk.1; omega
     ·rw [(h.new l' o' b2 c hl' h2).2] at hs; cases hs
   ·rw [if_neg e] at hl
    simp only[upd, if_neg e] at h1
    by_cases e':l' = nx
    ·rw [if_pos e'] at hl'; injection hl' with hl'; subst hl'
     simp only[upd, if_pos e', zLs] at h2
     subst h2
     rcases Nat.lt_or_ge l nx0 with c | c
     ·have:=h.low l o b1 c hl h1; have:=hk.1; omega
     ·rw [(h.new l o b1 c hl h1).2] at hs; cases hs
    ·rw [if_neg e'] at hl'
     simp only[upd, if_neg e'] at h2
     exact h.mem.dist l l' o o' b1 b2 hl hl' h1 h2 h3 hs
  ·rw [hget, if_neg (by omega)]; exact h.fin l (by omega)
  ·unfold upd; rw [if_neg (by omega)]; exact h.free l (by omega) h2
  ·unfold upd; rw [if_neg (by omega)]; exact h.ext l hl
  ·rw [hget, if_neg (by omega)]; exact h.old l hl
  ·rw [hget, if_neg (by omega)] at h2
   simp only[upd] at h3; rw [if_neg (by omega)] at h3
   exact h.low l o b' h1 h2 h3
  ·rw [hget] at h2
   by_cases e:l = nx
   ·rw [if_pos e] at h2; injection h2 with h2; subst h2
    simp only[upd, if_pos e, zLs] at h3
    subst h3
    exact ⟨hk.1, rfl⟩
   ·rw [if_neg e] at h2
    simp only[upd, if_neg e] at h3
    exact h.new l o b' h1 h2 h3
theorem zql {P:Program} {g0:Nat} {tab:List DEnt} (ht:∀ e ∈ tab, zet P g0 e.f e.args e.r):zeK P (zrW g0 tab):=by
 intro lim f vs M nx v M' nx' h
 unfold zrW at h
 cases hF:zr2 f tab with
 | false=>rw [hF] at h; cases h
 | true=>
 rw [hF] at h
 simp only[cond_true] at h
 split at h
 ·rename_i g hg
  cases hc:Nat.beq g g0 with
  | false=>rw [hc] at h; cases h
  | true=>
   rw [hc] at h
   simp only[cond_true] at h
   have hc:=qI.1 hc
   subst hc
   split at h
   ·rename_i as has
    split at h
    ·rename_i r hr
     obtain ⟨e, he, rfl, rfl, rfl⟩:=zjC hr
     have hd:=ht e he
     refine ⟨hd.1, ?_⟩
     have hle:nx <= nx':=by
      unfold resD at h
      split at h
      ·split at h
       ·rename_i h1
        simp only[zLs, zLp] at h
        have:=zcu _ _ _ _ _ _ h1; omega
       ·cases h
      ·exact zlB _ _ _ _ _ _ h
     refine ⟨hle, fun B ρ w us hlim hfin hB hfr hm hv=>?_⟩
     have htab:TabAt w g 0:=by
      obtain ⟨b, _, _, e1, T, fz, hh⟩:=hm.obj 0 _ hg
      rw [e1] at hh
      exact ⟨T, fz, hh⟩
     have hfits:FitsL (zry w) w e.args us:=by
      obtain ⟨h3, h4⟩:=mapM_some has
      refine FitsL.of_get (by rw [h3, hv.length]) fun i y u' hy hu=>?_
      obtain ⟨c, hc, ho⟩:=h4 i y hy
      obtain ⟨u2, hu2, hr2⟩:=hv.get hc
      rw [hu] at hu2; injection hu2 with hu2; subst hu2
      exact ziC hm (fun l b o cs _ hl hb _=>by obtain ⟨b', hb', _, ho'⟩:=hm.obj l o hl; rw [hb] at hb'; injection hb' with hb'; subst hb'; exact ho'.lt) 20 c y u' ho hr2
     refine (hd.2 (zry w) w us htab (fun _ h=>h) hfits).mono ?_
     rintro en w' ⟨u, rfl, hb, hu⟩
     obtain ⟨ρ', g1, m1, rfl⟩:Post lim B nx nx ρ M M w w' (fun ρ'=>ρ' = ρ):=xP hm hfin hb hB rfl
     have hs0:NewS nx nx' B ρ' M w w' ρ' M nx:=⟨m1, hfin, Nat.le_refl _, fun l h1 h2=>hfr l h1 h2, fun _ _=>rfl, fun _ _=>rfl, fun l o b _ h2 h3=>by
      obtain ⟨b', hb', _, ho'⟩:=hm.obj l o h2
      rw [h3] at hb'; injection hb' with hb'; subst hb'; exact ho'.lt, fun l o b h1 h2 _=>by rw [hfin l h1] at h2; cases h2⟩
     have hok':∀ b, zsu w w' b -> b < w'.heap.size:=fun b h=>h.2
     have key:∃ ρ2, NewS nx nx' B ρ' M w w' ρ2 M' nx' /\ VRel ρ2 v u:=by
      unfold resD at h
      split at h
      ·rename_i rs hrs
       split at h
       ·rename_i vs1 M1 nx1 h1
        simp only[zLs, zLp] at h
        obtain ⟨rfl, rfl, rfl⟩:=h
        rw [hrs] at hu
        simp only[Fits] at hu
        obtain ⟨us', rfl, hu⟩:=hu
        obtain ⟨ρ2, _, s2, v2, _⟩:=zdw (NewS.lays hB) hok' rs M nx vs1 M1 nx1 ρ' us' h1 (Nat.le_refl _) hs0 hu
        exact ⟨ρ2, s2, by simp only[VRel]; exact ⟨us', rfl, v2⟩⟩
       ·cases h
      ·obtain ⟨ρ2, _, s2, v2, _⟩:=zis (NewS.lays hB) hok' _ M nx v M' nx' ρ' u h (Nat.le_refl _) hs0 hu
       exact ⟨ρ2, s2, v2⟩
     obtain ⟨ρ2, s2, v2⟩:=key
     refine ⟨ρ2, ⟨s2.ext, hle, hb.mono hB, fun g2 hg2 _=>hb.block g2 hg2, fun l hl=>s2.old l (by omega), fun l hl hn=>by rw [s2.old l hl]; exact hn, fun l b o h1 h2 h3=>.inl (s2.new l o b h1 h2 h3).1, fun _ l hl=>s2.fin l hl⟩, s2.mem, u, rfl, v2⟩
    ·cases h
   ·cases h
 ·cases h
end
end Go.Bv
end
section
namespace Go.Bv
open Go.RowKit
noncomputable section
def zrx (P:Program) (fc T:Nat):Prop:=Av.Enters P fc /\
 (∀ (b:Nat) (w:World), w.cell? ⟨b, 0, none⟩ = some (.pointer none) -> w.shape? b = some (T, 2) -> w.frozen? ⟨b, 0, none⟩ = false -> Calls P fc #[.pointer (some ⟨b, 0, none⟩)] w fun e w'=>e = .returned (.tuple #[]) /\ w' = w.setCell ⟨b, 0, none⟩ (.pointer (some ⟨b, 0, none⟩))) /\
 ∀ (b:Nat) (w:World), w.cell? ⟨b, 0, none⟩ = some (.pointer (some ⟨b, 0, none⟩)) -> Calls P fc #[.pointer (some ⟨b, 0, none⟩)] w fun e w'=>e = .returned (.tuple #[]) /\ w' = w
def zrE (fc T:Nat):Orc:=fun lim f vs M nx=>bif Nat.beq f fc then match vs with
 | [.ptr l 0]=>match M.get l with
  | some (.tc T' (some 2) [p, q])=>bif Nat.beq T' T then match p with
   | .c (.pointer none)=>bif Nat.ble lim l && Nat.blt nx 16777215 then some (.tup [], M.set l (some (.tc T (some 2) [.ptr l 0, q])), nx) else none
   | .ptr l' 0=>bif Nat.beq l' l then some (.tup [], M, nx) else none
   | _=>none else none
  | _=>none
 | _=>none else none
theorem zkc (w:World) (g:Nat) (arr:Array Value) (T:TypeId) (v:Value) (h:w.heap[g]? = some (.cells arr T (0, 0))):(w.setCell ⟨g, 0, none⟩ v).heap[g]? = some (.cells (arr.set! 0 v) T (0, 0)) /\ (∀ k, k ≠ g -> (w.setCell ⟨g, 0, none⟩ v).heap[k]? = w.heap[k]?) /\
  (w.setCell ⟨g, 0, none⟩ v).heap.size = w.heap.size /\ (w.setCell ⟨g, 0, none⟩ v).os = w.os /\ (w.setCell ⟨g, 0, none⟩ v).tape = w.tape /\ (w.setCell ⟨g, 0, none⟩ v).output = w.output:=by
 have hg:=(Array.getElem?_eq_some_iff.1 h).1
 unfold World.setCell
 refine ⟨?_, fun k hk=>?_, ?_, rfl, rfl, rfl⟩
 ·simp [Array.getElem?_modify, h]
 ·simp [Array.getElem?_modify, Ne.symm hk]
 ·simp
theorem zp1 {P:Program} {fc T:Nat} (hc:zrx P fc T):zeK P (zrE fc T):=by
 intro lim f vs M nx v M' nx' h
 unfold zrE at h
 cases hb:Nat.beq f fc with
 | false=>rw [hb] at h; cases h
 | true=>
  rw [hb] at h
  simp only[cond_true] at h
  have hb:=qI.1 hb
  subst hb
  split at h
  ·rename_i l
   split at h
   ·rename_i T' p q hl
    cases hT:Nat.beq T' T with
    | false=>rw [hT] at h; cases h
    | true=>
     rw [hT] at h
     simp only[cond_true] at h
     have hT:=qI.1 hT
     subst hT
     refine ⟨hc.1, ?_⟩
     split at h
     ·cases hc2:(Nat.ble lim l && Nat.blt nx 16777215) with
      | false=>rw [hc2] at h; cases h
      | true=>
       rw [hc2] at h
       simp only[cond_true, zLs, zLp] at h
       obtain ⟨rfl, rfl, rfl⟩:=h
       rw [zLa] at hc2
       have c1:=zLb hc2.1
       have c2:=qo.1 hc2.2
       refine ⟨Nat.le_refl _, fun B ρ w us hlim hfin hB hfr hm hv=>?_⟩
       simp only[VRelL, VRel] at hv
       obtain ⟨u, us', rfl, ⟨b, hb, rfl⟩, rfl⟩:=hv
       obtain ⟨b', hb', hB', e0, arr, g2, g3, g4, g5, g6⟩:=hm.obj l _ hl
       rw [hb] at hb'; injection hb' with hb'; subst hb'
       have hcap:=g6 2 rfl
       obtain ⟨u0, q1, q2, q3⟩:=g5 0 _ rfl
       obtain ⟨u1, r1, r2, r3⟩:=g5 1 _ rfl
       simp only[VRel] at q3
       rw [e0]
       obtain ⟨s1, s2, s3, s4, s5, s6⟩:=zkc w b.blk arr T' (.pointer (some ⟨b.blk, 0, none⟩)) g2
       refine (hc.2.1 b.blk w (by rw [cell_of_row w b.blk _ arr _ _ g2]; rw [← q3.1]; simpa using q1) (by simp [World.shape?, g2, g3, hcap]) (by simp [World.frozen?, g2])).mono ?_
       rintro e w' ⟨rfl, rfl⟩
       have hz:0 < arr.size:=by omega
       have hpost:=kM (lim:=lim) (K:=fun ρ'=>VRel ρ' (.tup []) (.tuple #[])) hm hfin c2 c1 hl hb (o':=.tc T' (some 2) [.ptr l 0, q]) ⟨s4, s5, s6, by rw [s3]; exact Nat.le_refl _, fun k hk=>s2 k (by omega)⟩ (fun g _ hg=>s2 g hg)
        ⟨e0, arr.set! 0 (.pointer (some ⟨b.blk, 0, none⟩)), s1, by simpa using g3, by simpa using g4, fun i v hv=>by
         match i with
         | 0=>simp at hv; subst hv; exact ⟨.pointer (some ⟨b.blk, 0, none⟩), by simp [Array.set!, hz], rfl, by simp only[VRel]; exact ⟨b, hb, by rw [e0]⟩⟩
         | 1=>simp at hv; subst hv; exact ⟨u1, by simpa [Array.getElem?_setIfInBounds] using r1, r2, r3⟩
         | i + 2=>simp at hv, g6⟩ (by simp [VRel, VRelL])
       obtain ⟨ρ', g, m, k⟩:=hpost
       exact ⟨ρ', g, m, _, rfl, k⟩
     ·rename_i l'
      cases hc2:Nat.beq l' l with
      | false=>rw [hc2] at h; cases h
      | true=>
       rw [hc2] at h
       simp only[cond_true, zLs, zLp] at h
       obtain ⟨rfl, rfl, rfl⟩:=h
       have hc2:=qI.1 hc2
       subst hc2
       refine ⟨Nat.le_refl _, fun B ρ w us hlim hfin hB hfr hm hv=>?_⟩
       simp only[VRelL, VRel] at hv
       obtain ⟨u, us', rfl, ⟨b, hb, rfl⟩, rfl⟩:=hv
       obtain ⟨b', hb', hB', e0, arr, g2, g3, g4, g5, g6⟩:=hm.obj l' _ hl
       rw [hb] at hb'; injection hb' with hb'; subst hb'
       obtain ⟨u0, q1, q2, q3⟩:=g5 0 _ rfl
       simp only[VRel] at q3
       obtain ⟨b2, hb2, q3⟩:=q3
       rw [hb] at hb2; injection hb2 with hb2; subst hb2
       rw [e0] at q3 ⊢
       refine (hc.2.2 b.blk w (by rw [cell_of_row w b.blk _ arr _ _ g2]; rw [← q3]; simpa using q1)).mono ?_
       rintro e w' ⟨rfl, rfl⟩
       obtain ⟨ρ', g, m, k⟩:Post lim B nx nx ρ M M w' w' (fun ρ'=>VRel ρ' (.tup []) (.tuple #[])):=xP hm hfin (Below.refl _ _) hB (by simp [VRel, VRelL])
       exact ⟨ρ', g, m, _, rfl, k⟩
     ·cases h
   ·cases h
  ·cases h
def zn0:List UInt8 -> Nat -> Nat -> Int
 | [], _, _=>-1
 | b :: l, c, k=>bif Nat.beq b.toNat c then Int.ofNat k else zn0 l c (k + 1)
theorem zlO:∀ (l:List UInt8) (c:UInt8) (k:Nat), zn0 l c.toNat k = if Lib.indexByte l c = -1 then -1 else Lib.indexByte l c + k
 | [], c, k=>by simp [zn0, Lib.indexByte]
 | b :: l, c, k=>by
  have hge:=Lib.indexByte_ge l c
  unfold zn0 Lib.indexByte
  cases hb:Nat.beq b.toNat c.toNat with
  | true=>
   have:b = c:=UInt8.toNat_inj.1 (qI.1 hb)
   subst this
   simp
  | false=>
   have hne:¬ b = c:=fun e=>by subst e; exact zaq.1 hb rfl
   simp only[cond_false, beq_iff_eq, hne, if_false]
   rw [zlO l c (k + 1)]
   by_cases h1:Lib.indexByte l c = -1
   ·simp [h1]
   ·rw [if_neg h1, if_neg h1, if_neg (by omega)]; push_cast; omega
def zmD:List UInt8 -> Nat -> Nat -> Nat
 | [], _, k=>k
 | b :: l, c, k=>bif Nat.beq b.toNat c then zmD l c (k + 1) else zmD l c k
theorem zim:∀ (l:List UInt8) (c:UInt8) (k:Nat), zmD l c.toNat k = Lib.countByte l c + k
 | [], c, k=>by simp [zmD, Lib.countByte]
 | b :: l, c, k=>by
  unfold zmD
  cases hb:Nat.beq b.toNat c.toNat with
  | true=>
   have:b = c:=UInt8.toNat_inj.1 (qI.1 hb)
   subst this
   simp only[cond_true]
   rw [zim l b (k + 1)]
   simp [Lib.countByte]; omega
  | false=>
   have hne:¬ b = c:=fun e=>by subst e; exact zaq.1 hb rfl
   simp only[cond_false]
   rw [zim l c k]
   simp [Lib.countByte, hne]
def ztd (P:Program) (fx:Nat):Prop:=Av.Enters P fx /\ ∀ (s:ByteArray) (c:Int) (w:World), Calls P fx #[.string s, .int .u8 c] w fun e w'=>e = .returned (.int .i64 (Lib.indexByte s.data.toList c.toNat.toUInt8)) /\ w' = w
def ztt (P:Program) (ft:Nat):Prop:=Av.Enters P ft /\ ∀ (s:ByteArray) (c:UInt8) (w:World), Calls P ft #[.string s, .string ⟨#[c]⟩] w fun e w'=>e = .returned (.int .i64 (Lib.countByte s.data.toList c)) /\ w' = w
def zsq (fx ft:Nat):FuncId -> List VV -> Mem -> Option VV:=fun f vs _=>
 bif Nat.beq f fx then match vs with
  | [.c (.string s), .c (.int .u8 (.ofNat c))]=>bif Nat.blt c 256 then some (zkS (zn0 s.data.toList c 0) fun n=>.c (.int .i64 n)) else none
  | _=>none
 else bif Nat.beq f ft then match vs with
  | [.c (.string s), .c (.string p)]=>match p.data.toList with
   | [c]=>some (zkS (Int.ofNat (zmD s.data.toList c.toNat 0)) fun n=>.c (.int .i64 n))
   | _=>none
  | _=>none
 else none
theorem zqu {P:Program} {fx ft:Nat} (hx:ztd P fx) (ht:ztt P ft):zhc P (zsq fx ft):=by
 intro f vs M v h
 unfold zsq at h
 cases hb:Nat.beq f fx with
 | true=>
  rw [hb] at h
  simp only[cond_true] at h
  have hb:=qI.1 hb
  subst hb
  split at h
  ·rename_i s c
   cases hc:Nat.blt c 256 with
   | false=>rw [hc] at h; cases h
   | true=>
    rw [hc] at h
    simp only[cond_true, zLs, zhl] at h
    subst h
    have hc:=qo.1 hc
    refine ⟨hx.1, za0 rfl fun B ρ w us hm hv=>?_⟩
    simp only[VRelL, VRel] at hv
    obtain ⟨u, us', rfl, ⟨rfl, _⟩, u2, us2, rfl, ⟨rfl, _⟩, rfl⟩:=hv
    refine (hx.2 s (Int.ofNat c) w).mono ?_
    rintro e w' ⟨rfl, rfl⟩
    refine ⟨?_, Below.refl _ _⟩
    have h1:(Int.ofNat c).toNat.toUInt8.toNat = c:=by show (UInt8.ofNat c).toNat = c; simp; omega
    have h2:=zlO s.data.toList (Int.ofNat c).toNat.toUInt8 0
    rw [h1] at h2
    rw [h2]
    split
    ·rename_i e; rw [e]
    ·simp
  ·cases h
 | false=>
  rw [hb] at h
  simp only[cond_false] at h
  cases hb2:Nat.beq f ft with
  | false=>rw [hb2] at h; cases h
  | true=>
   rw [hb2] at h
   simp only[cond_true] at h
   have hb2:=qI.1 hb2
   subst hb2
   split at h
   ·rename_i s p
    split at h
    ·rename_i c hp
     simp only[zLs, zhl] at h
     subst h
     have hp':p = ⟨#[c]⟩:=ByteArray.ext (Array.toList_inj.1 hp)
     subst hp'
     refine ⟨ht.1, za0 rfl fun B ρ w us hm hv=>?_⟩
     simp only[VRelL, VRel] at hv
     obtain ⟨u, us', rfl, ⟨rfl, _⟩, u2, us2, rfl, ⟨rfl, _⟩, rfl⟩:=hv
     refine (ht.2 s c w).mono ?_
     rintro e w' ⟨rfl, rfl⟩
     refine ⟨?_, Below.refl _ _⟩
     rw [zim]; rfl
    ·cases h
   ·cases h
end
end Go.Bv
end
