import Derived.Test.YtgmbdadkbominaaGreatDoorRunA
import Derived.AtR
import Derived.Recover
import Derived.RangeFuncIn
import Derived.RangeFuncRecord
set_option linter.unusedVariables false
set_option linter.unusedSimpArgs false
section
namespace Go.Bv
open Go.RowKit
noncomputable section
inductive VD where
 | coll (l:Nat)
 | call (f:FuncId) (args:List VV)
def zui (ρ:Rho):VD -> Deferred -> Prop
 | .coll l, d=>∃ b, ρ l = some b /\ d = { target:=.collected b.blk, args:=#[] }
 | .call f vs, d=>∃ us cap:List Value, d = { target:=.fn (.func f) cap.toArray, args:=us.toArray } /\ VRelL ρ vs (us ++ cap)
def DRelL (ρ:Rho):List VD -> List Deferred -> Prop
 | [], ds=>ds = []
 | x :: xs, ds=>∃ d ds', ds = d :: ds' /\ zui ρ x d /\ DRelL ρ xs ds'
theorem DRelL.ext {ρ ρ':Rho} (h:zak ρ ρ'):∀ {l:List VD} {ds:List Deferred}, DRelL ρ l ds -> DRelL ρ' l ds
 | [], ds, hx=>hx
 | x :: xs, ds, hx=>by
  obtain ⟨d, ds', e, h1, h2⟩:=hx
  refine ⟨d, ds', e, ?_, DRelL.ext h h2⟩
  cases x with
  | coll l=>obtain ⟨b, a, c⟩:=h1; exact ⟨b, h l b a, c⟩
  | call f vs=>obtain ⟨us, cap, a, c⟩:=h1; exact ⟨us, cap, a, c.ext h⟩
inductive Up where
 | no
 | ret
 | pan (v:VV)
 | got
def UR (ρ:Rho) (up:Up) (b:Frame) (cs0 cs:List Frame):Prop:=match up with
 | .no=>cs = cs0
 | .ret=>b.kind = .deferred /\ b.roundOf = none /\ ∃ c0 rest, cs0 = c0 :: rest /\ c0.mode = .returning /\ cs = cs0
 | .pan v=>b.kind = .deferred /\ b.roundOf = none /\ ∃ c0 rest u, cs0 = c0 :: rest /\ c0.mode = .panicking [{ v:=u, recovered:=false }] /\ VRel ρ v u /\ cs = cs0
 | .got=>b.kind = .deferred /\ b.roundOf = none /\ ∃ c0 rest u, cs0 = c0 :: rest /\ c0.mode = .panicking [{ v:=u, recovered:=false }] /\ cs = { c0 with mode:=.panicking [{ v:=u, recovered:=true }] } :: rest
theorem UR.ext {ρ ρ':Rho} (h:zak ρ ρ') {up:Up} {b:Frame} {cs0 cs:List Frame} (hx:UR ρ up b cs0 cs):UR ρ' up b cs0 cs:=by
 cases up with
 | pan v=>obtain ⟨a, a', c0, rest, u, b1, b2, b3, b4⟩:=hx; exact ⟨a, a', c0, rest, u, b1, b2, b3.ext h, b4⟩
 | _=>exact hx
structure St where
 fr:Fr
 dfs:List VD
 up:Up
 M:Mem
 nx:Nat
 rnd:Bool
 n:Nat
 fid:FuncId
inductive XE where
 | normal
 | exit (id:Nat)
 | goto (l:Nat)
 | ret
 | pan (v:VV)
def AtX (P:Program) (m:Machine) (b:Frame) (k:List Item) (cs:List Frame) (ρ:Rho) (a:Act) (w:World):XE -> Prop
 | .normal=>Steps P m (lone (b.atR a k) cs w)
 | .exit id=>∃ k0, exitTo id k0 = exitTo id k /\ Steps P m (lone (b.atR a (.code (.exit id) :: k0)) cs w)
 | .goto l=>∃ k0, gotoIn l k0 = gotoIn l k /\ Steps P m (lone (b.atR a (.code (.goto l) :: k0)) cs w)
 | .ret=>∃ k0, Steps P m (lone (b.atR a (.code .ret :: k0)) cs w)
 | .pan v=>∃ todo u, VRel ρ v u /\ Steps P m (lone { b.atR a todo with mode:=.panicking [{ v:=u, recovered:=false }] } cs w)
structure SR (B n:Nat) (ρ:Rho) (s:St) (b:Frame) (cs0 cs:List Frame) (a:Act) (w:World):Prop where
 base:B <= w.heap.size
 fin:∀ l, s.nx <= l -> s.M.get l = none
 mem:MRel B ρ s.M w
 fr:FrRel ρ n s.fr a.tmps
 dfs:DRelL ρ s.dfs a.defers
 up:UR ρ s.up b cs0 cs
 rnd:b.roundOf.isSome = s.rnd
 nn:s.n = n
 fid:b.fn = s.fid
def TS (P:Program) (lim:Nat) (pre:List Item) (s:St) (e:XE) (s':St):Prop:=s.nx <= s'.nx /\
 ∀ (B n:Nat) (ρ:Rho) (w:World) (a:Act) (b:Frame) (k:List Item) (cs0 cs:List Frame), lim <= s.nx -> Fresh ρ s.nx s'.nx -> SR B n ρ s b cs0 cs a w ->
  ∃ a' w' cs' ρ', Goes lim B s.nx s'.nx ρ ρ' s.M s'.M w w' /\ SR B n ρ' s' b cs0 cs' a' w' /\ AtX P (lone (b.atR a (pre ++ k)) cs w) b k cs' ρ' a' w' e
section
variable {P:Program} {lim:Nat} {pre pre' q:List Item} {s s1 s':St} {e:XE}
theorem AtX.of_steps {m m1:Machine} {b:Frame} {k:List Item} {cs:List Frame} {ρ:Rho} {a:Act} {w:World} (h:Steps P m m1) (h':AtX P m1 b k cs ρ a w e):AtX P m b k cs ρ a w e:=by
 cases e with
 | normal=>exact h.trans h'
 | exit id=>obtain ⟨k0, h1, h2⟩:=h'; exact ⟨k0, h1, h.trans h2⟩
 | goto l=>obtain ⟨k0, h1, h2⟩:=h'; exact ⟨k0, h1, h.trans h2⟩
 | ret=>obtain ⟨k0, h2⟩:=h'; exact ⟨k0, h.trans h2⟩
 | pan v=>obtain ⟨t, u, h1, h2⟩:=h'; exact ⟨t, u, h1, h.trans h2⟩
theorem TS.step (h:∀ (n:Nat) (ρ:Rho) (w:World) (a:Act) (b:Frame) (k:List Item) (cs:List Frame), FrRel ρ n s.fr a.tmps -> step P (lone (b.atR a (pre ++ k)) cs w) = .next (lone (b.atR a (pre' ++ k)) cs w)) (h2:TS P lim pre' s e s'):TS P lim pre s e s':=by
 refine ⟨h2.1, fun B n ρ w a b k cs0 cs hl hf hs=>?_⟩
 obtain ⟨a', w', cs', ρ', h3, h4, h5⟩:=h2.2 B n ρ w a b k cs0 cs hl hf hs
 exact ⟨a', w', cs', ρ', h3, h4, .of_steps (.one (h n ρ w a b k cs hs.fr)) h5⟩
theorem TS.nil:TS P lim [] s .normal s:=⟨Nat.le_refl _, fun _ _ ρ w a _ _ _ cs _ _ hs=>⟨a, w, cs, ρ, Goes.refl hs.fin, hs, Steps.refl ..⟩⟩
theorem TS.bind (h:TS P lim pre s .normal s1) (h2:TS P lim q s1 e s'):TS P lim (pre ++ q) s e s':=by
 refine ⟨Nat.le_trans h.1 h2.1, fun B n ρ w a b k cs0 cs hl hf hs=>?_⟩
 obtain ⟨a1, w1, cs1, ρ1, g1, r1, x1⟩:=h.2 B n ρ w a b (q ++ k) cs0 cs hl (hf.left h2.1) hs
 obtain ⟨a2, w2, cs2, ρ2, g2, r2, x2⟩:=h2.2 B n ρ1 w1 a1 b k cs0 cs1 (Nat.le_trans hl g1.le) (hf.right g1) r1
 refine ⟨a2, w2, cs2, ρ2, g1.trans g2, r2, ?_⟩
 rw [List.append_assoc]
 exact .of_steps x1 x2
theorem TS.pass (hn:e ≠ .normal) (h1:∀ id k, e = .exit id -> exitTo id (q ++ k) = exitTo id k) (h2:∀ l k, e = .goto l -> gotoIn l (q ++ k) = gotoIn l k) (h:TS P lim pre s e s'):TS P lim (pre ++ q) s e s':=by
 refine ⟨h.1, fun B n ρ w a b k cs0 cs hl hf hs=>?_⟩
 obtain ⟨a1, w1, cs1, ρ1, g1, r1, x1⟩:=h.2 B n ρ w a b (q ++ k) cs0 cs hl hf hs
 refine ⟨a1, w1, cs1, ρ1, g1, r1, ?_⟩
 rw [List.append_assoc]
 cases e with
 | normal=>exact absurd rfl hn
 | exit id=>obtain ⟨k0, y1, y2⟩:=x1; exact ⟨k0, y1.trans (h1 id k rfl), y2⟩
 | goto l=>obtain ⟨k0, y1, y2⟩:=x1; exact ⟨k0, y1.trans (h2 l k rfl), y2⟩
 | ret=>exact x1
 | pan v=>exact x1
theorem TS.skip:TS P lim [.code .skip] s .normal s:=TS.step (pre':=[]) (fun _ _ _ _ _ _ _ _=>stepR_skip) TS.nil
theorem TS.label {l:Nat}:TS P lim [.code (.label l)] s .normal s:=TS.step (pre':=[]) (fun _ _ _ _ _ _ _ _=>stepR_label) TS.nil
theorem TS.exit {id:Nat}:TS P lim [.code (.exit id)] s (.exit id) s:=⟨Nat.le_refl _, fun _ _ ρ w a _ k _ cs _ _ hs=>⟨a, w, cs, ρ, Goes.refl hs.fin, hs, k, rfl, Steps.refl ..⟩⟩
theorem TS.goto {l:Nat}:TS P lim [.code (.goto l)] s (.goto l) s:=⟨Nat.le_refl _, fun _ _ ρ w a _ k _ cs _ _ hs=>⟨a, w, cs, ρ, Goes.refl hs.fin, hs, k, rfl, Steps.refl ..⟩⟩
theorem TS.ret:TS P lim [.code .ret] s .ret s:=⟨Nat.le_refl _, fun _ _ ρ w a _ k _ cs _ _ hs=>⟨a, w, cs, ρ, Goes.refl hs.fin, hs, k, Steps.refl ..⟩⟩
theorem TS.seq {x y:Code} (h:TS P lim [.code x] s .normal s1) (h2:TS P lim [.code y] s1 e s'):TS P lim [.code (.seq x y)] s e s':=
 TS.step (pre':=[.code x, .code y]) (fun _ _ _ _ _ _ _ _=>stepR_seq) (TS.bind (pre:=[.code x]) (q:=[.code y]) h h2)
theorem TS.seq1 {x y:Code} (hn:e ≠ .normal) (h:TS P lim [.code x] s e s'):TS P lim [.code (.seq x y)] s e s':=
 TS.step (pre':=[.code x, .code y]) (fun _ _ _ _ _ _ _ _=>stepR_seq) (TS.pass (pre:=[.code x]) (q:=[.code y]) hn (fun _ _ _=>rfl) (fun _ _ _=>rfl) h)
theorem TS.cond {c:Operand} {x y:Code} {t:Bool} (hc:zjj s.fr c = some t) (h:TS P lim [.code (bif t then x else y)] s e s'):TS P lim [.code (.cond c x y)] s e s':=
 TS.step (pre':=[.code (bif t then x else y)]) (fun _ _ w a b k cs hf=>by
  have:=stepR_cond (P:=P) (x:=x) (y:=y) (b:=b) (k:=k) (cs:=cs) (w:=w) (zkd hf hc)
  rw [show (if t = true then x else y) = (bif t then x else y) from by cases t <;> rfl] at this
  exact this) h
theorem TS.inBlock {id:Nat}:TS P lim [.inBlock id] s .normal s:=TS.step (pre':=[]) (fun _ _ _ _ _ _ _ _=>stepR_inBlock) TS.nil
theorem TS.block {id:Nat} {c:Code} (h:TS P lim [.code c] s .normal s'):TS P lim [.code (.block id c)] s .normal s':=
 TS.step (pre':=[.code c, .inBlock id]) (fun _ _ _ _ _ _ _ _=>stepR_block) (TS.bind (pre:=[.code c]) (q:=[.inBlock id]) h TS.inBlock)
theorem TS.blockX {id:Nat} {c:Code} (hn:e ≠ .normal) (hx:e ≠ .exit id) (h:TS P lim [.code c] s e s'):TS P lim [.code (.block id c)] s e s':=
 TS.step (pre':=[.code c, .inBlock id]) (fun _ _ _ _ _ _ _ _=>stepR_block) (TS.pass (pre:=[.code c]) (q:=[.inBlock id]) hn (fun i k he=>by
  have:¬ id = i:=fun e2=>hx (by rw [he, e2])
  simp [exitTo, this]) (fun _ _ _=>rfl) h)
theorem TS.blockE {id:Nat} {c:Code} (h:TS P lim [.code c] s (.exit id) s'):TS P lim [.code (.block id c)] s .normal s':=by
 refine ⟨h.1, fun B n ρ w a b k cs0 cs hl hf hs=>?_⟩
 obtain ⟨a1, w1, cs1, ρ1, g1, r1, k0, y1, y2⟩:=h.2 B n ρ w a b (.inBlock id :: k) cs0 cs hl hf hs
 refine ⟨a1, w1, cs1, ρ1, g1, r1, ?_⟩
 have h0:exitTo id k0 = some k:=by rw [y1]; simp [exitTo]
 exact Steps.trans (.one stepR_block) (Steps.trans y2 (.one (stepR_exit h0)))
theorem TS.round {c:Code} (h:TS P lim [.code c] s .normal s1) (h2:TS P lim [.code c, .inLoop c] s1 e s'):TS P lim [.code c, .inLoop c] s e s':=
 TS.bind (pre:=[.code c]) (q:=[.inLoop c]) h (TS.step (pre':=[.code c, .inLoop c]) (fun _ _ _ _ _ _ _ _=>stepR_inLoop) h2)
theorem TS.roundX {c:Code} (hn:e ≠ .normal) (h:TS P lim [.code c] s e s'):TS P lim [.code c, .inLoop c] s e s':=
 TS.pass (pre:=[.code c]) (q:=[.inLoop c]) hn (fun _ _ _=>rfl) (fun _ _ _=>rfl) h
theorem TS.loop {c:Code} (h:TS P lim [.code c, .inLoop c] s e s'):TS P lim [.code (.loop c)] s e s':=
 TS.step (pre':=[.code c, .inLoop c]) (fun _ _ _ _ _ _ _ _=>stepR_loop) h
theorem zi1 {b:Frame} {a:Act} {k:List Item} {cs:List Frame} {w:World} {c:Code}:_root_.Go.step P (lone (b.atR a (.code (.scope c) :: k)) cs w) = .next (lone (b.atR a (.code c :: .inScope c :: k)) cs w):=
 step_lone_go (by simp [stepG, stepG.exec, Frame.atR])
theorem zgq {b:Frame} {a:Act} {k:List Item} {cs:List Frame} {w:World} {c:Code}:_root_.Go.step P (lone (b.atR a (.inScope c :: k)) cs w) = .next (lone (b.atR a k) cs w):=
 step_lone_go (by simp [stepG, stepG.exec, Frame.atR])
theorem TS.scopeN {x body:Code} (h:TS P lim [.code x] s .normal s'):TS P lim [.code x, .inScope body] s .normal s':=
 TS.bind (pre:=[.code x]) (q:=[.inScope body]) h (TS.step (pre':=[]) (fun _ _ _ _ _ _ _ _=>zgq) TS.nil)
theorem TS.scopeX {x body:Code} (hn:e ≠ .normal) (hg:∀ l, e = .goto l -> findLabel body l = none) (h:TS P lim [.code x] s e s'):TS P lim [.code x, .inScope body] s e s':=
 TS.pass (pre:=[.code x]) (q:=[.inScope body]) hn (fun _ _ _=>rfl) (fun l k he=>by simp [gotoIn, hg l he]) h
theorem TS.scopeG {x body rest:Code} {l:Nat} (hl:findLabel body l = some rest) (h:TS P lim [.code x] s (.goto l) s1) (h2:TS P lim [.code rest, .inScope body] s1 e s'):TS P lim [.code x, .inScope body] s e s':=by
 refine ⟨Nat.le_trans h.1 h2.1, fun B n ρ w a b k cs0 cs hlim hf hs=>?_⟩
 obtain ⟨a1, w1, cs1, ρ1, g1, r1, k0, y1, y2⟩:=h.2 B n ρ w a b (.inScope body :: k) cs0 cs hlim (hf.left h2.1) hs
 obtain ⟨a2, w2, cs2, ρ2, g2, r2, x2⟩:=h2.2 B n ρ1 w1 a1 b k cs0 cs1 (Nat.le_trans hlim g1.le) (hf.right g1) r1
 refine ⟨a2, w2, cs2, ρ2, g1.trans g2, r2, ?_⟩
 have h0:gotoIn l k0 = some (.code rest :: .inScope body :: k):=by rw [y1]; simp [gotoIn, hl]
 exact .of_steps (Steps.trans y2 (.one (stepR_goto h0))) x2
theorem TS.scope {body:Code} (h:TS P lim [.code body, .inScope body] s e s'):TS P lim [.code (.scope body)] s e s':=
 TS.step (pre':=[.code body, .inScope body]) (fun _ _ _ _ _ _ _ _=>zi1) h
end
end
end Go.Bv
end
section
namespace Go.Bv
open Go.RowKit
noncomputable section
inductive OX where
 | val (v:VV)
 | pan (v:VV)
def zqO (ρ:Rho):OX -> Ending -> Prop
 | .val v, e=>∃ u, e = .returned u /\ VRel ρ v u
 | .pan v, e=>∃ u, e = .panicked [{ v:=u, recovered:=false }] /\ VRel ρ v u
def zdx (P:Program) (lim:Nat) (f:FuncId) (vs:List VV) (M:Mem) (nx:Nat) (out:OX) (M':Mem) (nx':Nat):Prop:=nx <= nx' /\
 ∀ (B:Nat) (ρ:Rho) (w:World) (us:List Value), lim <= nx -> (∀ l, nx <= l -> M.get l = none) -> B <= w.heap.size -> Fresh ρ nx nx' -> MRel B ρ M w -> VRelL ρ vs us ->
  Calls P f us.toArray w fun e w'=>∃ ρ', Goes lim B nx nx' ρ ρ' M M' w w' /\ MRel B ρ' M' w' /\ zqO ρ' out e
def OpT (P:Program) (lim:Nat) (o:Oper) (s:St) (out:OX) (s1:St):Prop:=s.nx <= s1.nx /\ s1.fr = s.fr /\
 ∀ (B n:Nat) (ρ:Rho) (w:World) (a:Act) (b:Frame) (k:List Item) (cs0 cs:List Frame) (ops:Array Oper) (i:Nat) (rest:List Nat), lim <= s.nx -> Fresh ρ s.nx s1.nx -> SR B n ρ s b cs0 cs a w ->
  ops[i]? = some o -> Region.wanted o (yielded ops a.tmps) = true ->
  ∃ u a' w' cs' ρ', Goes lim B s.nx s1.nx ρ ρ' s.M s1.M w w' /\ SR B n ρ' s1 b cs0 cs' a' w' /\ a'.tmps = a.tmps /\ match out with
   | .val v=>VRel ρ' v u /\ Steps P (lone (b.atR a (.inRegion ops (i :: rest) :: k)) cs w) (lone (b.atR (a'.put o.dst u) (.inRegion ops rest :: k)) cs' w')
   | .pan v=>VRel ρ' v u /\ ∃ todo, Steps P (lone (b.atR a (.inRegion ops (i :: rest) :: k)) cs w) (lone { b.atR a' todo with mode:=.panicking [{ v:=u, recovered:=false }] } cs' w')
section
variable {P:Program} {lim:Nat} {o:Oper} {s s1:St}
theorem zaP {b:Frame} {a:Act} {ops:Array Oper} {i:Nat} {rest:List Nat} {k:List Item} {v:Value} (ho:ops[i]? = some o):(b.atR a (.inRegion ops (i :: rest) :: k)).finish v = b.atR (a.put o.dst v) (.inRegion ops rest :: k):=by
 rw [Frame.finish_atR, ho]; rfl
theorem SR.next {B n:Nat} {ρ ρ':Rho} {b:Frame} {cs0 cs:List Frame} {a:Act} {w w':World} {M':Mem} {nx':Nat} (h:SR B n ρ s b cs0 cs a w) (hf:Fresh ρ s.nx nx') (g:Goes lim B s.nx nx' ρ ρ' s.M M' w w') (m:MRel B ρ' M' w'):
  SR B n ρ' { s with M:=M', nx:=nx' } b cs0 cs a w':=
 ⟨Nat.le_trans h.base g.below.size, g.fin h.fin, m, h.fr.ext (g.rext hf), h.dfs.ext (g.rext hf), h.up.ext (g.rext hf), h.rnd, h.nn, h.fid⟩
theorem zcw {v:VV} {M':Mem} {nx':Nat} (hle:s.nx <= nx') (hnd:∀ c, o.op ≠ .defer c) (h:OpS P lim s.fr s.M s.nx o v M' nx'):OpT P lim o s (.val v) { s with M:=M', nx:=nx' }:=by
 refine ⟨hle, rfl, fun B n ρ w a b k cs0 cs ops i rest hl hf hs ho hw=>?_⟩
 obtain ⟨u, w', h1, ρ', g, m, hv⟩:=h B n ρ w a hl hs.fin hs.base hf hs.mem hs.fr
 refine ⟨u, a, w', cs, ρ', g, hs.next hf g m, rfl, hv, ?_⟩
 refine .one (step_lone_go ?_)
 rw [stepGR_op ho hw, Oper.semAt_eq _ _ _ hnd, ← zaP ho]
 rcases h1 with h1 | ⟨h1, rfl⟩
 ·simp [stepG.apply, h1]
 ·simp [stepG.apply, h1]
theorem zmU {fop:Operand} {args:Array Operand} {tys:Array TypeId} {f:FuncId} {us vs:List Value} (ho:o.op = .call { callee:=.value fop, args:=args, argTypes:=tys }) (he:Av.Enters P f) {a:Act} {w:World}
  (hf:a.eval fop = .func (.func f) us.toArray vs.toArray):(execOp a.eval o).run P w = .ok (.enter f (us ++ args.toList.map a.eval ++ vs).toArray) w:=Av.call_exec ho he hf
theorem zoo {fop:Operand} {args:Array Operand} {tys:Array TypeId} {f:FuncId} {fs cs0 vs:List VV} {out:OX} {M':Mem} {nx':Nat} (ho:o.op = .call { callee:=.value fop, args:=args, argTypes:=tys }) (he:Av.Enters P f)
  (hf:evV s.fr fop = some (.fn f fs cs0)) (ha:evL s.fr args.toList = some vs) (h:zdx P lim f (fs ++ vs ++ cs0) s.M s.nx out M' nx'):OpT P lim o s out { s with M:=M', nx:=nx' }:=by
 refine ⟨h.1, rfl, fun B n ρ w a b k cs0' cs ops i rest hl hfr hs hoi hw=>?_⟩
 have h1:=zY hs.fr hf
 simp only[VRel] at h1
 obtain ⟨us1, us2, e, h2, h3⟩:=h1
 have h4:=zcf hs.fr ha
 have hex:=zmU (w:=w) ho he e
 obtain ⟨en, w', fr', ⟨ρ', g, m, hout⟩, hcomes, hfn, hleave⟩:=h.2 B ρ w _ hl hs.fin hs.base hfr hs.mem ((h2.append h4).append h3) (b.atR a (.inRegion ops (i :: rest) :: k) :: cs)
 have hnd:∀ c, o.op ≠ .defer c:=fun c hc=>by rw [ho] at hc; cases hc
 have hstep:step P (lone (b.atR a (.inRegion ops (i :: rest) :: k)) cs w) = .next (lone (Frame.enter P f (us1 ++ args.toList.map a.eval ++ us2).toArray .normal) (b.atR a (.inRegion ops (i :: rest) :: k) :: cs) w):=
  step_lone_go (by
   rw [stepGR_op hoi hw, Oper.semAt_eq _ _ _ hnd]
   simp [stepG.apply, hex, Frame.atR])
 cases out with
 | val v=>
  obtain ⟨u, rfl, hv⟩:=hout
  refine ⟨u, a, w', cs, ρ', g, hs.next hfr g m, rfl, hv, ?_⟩
  rw [← zaP hoi]
  exact Steps.trans (.one hstep) (Steps.trans hcomes (.one (step_leave_returned hleave)))
 | pan v=>
  obtain ⟨u, rfl, hv⟩:=hout
  refine ⟨u, a, w', cs, ρ', g, hs.next hfr g m, rfl, hv, .inRegion ops (i :: rest) :: k, ?_⟩
  have h5:=step_leave_panicked (P:=P) (c:=b.atR a (.inRegion ops (i :: rest) :: k)) (cs:=cs) hleave
  rw [Frame.raise_atR] at h5
  exact Steps.trans (.one hstep) (Steps.trans hcomes (.one h5))
theorem zmm {x:Operand} {T:TypeId} {y:VV} (ho:o.op = .panic x) (hx:evV s.fr x = some (.ifc T y)):OpT P lim o s (.pan (.ifc T y)) s:=by
 refine ⟨Nat.le_refl _, rfl, fun B n ρ w a b k cs0 cs ops i rest hl hf hs hoi hw=>?_⟩
 have h1:=zY hs.fr hx
 have h1':=h1
 simp only[VRel] at h1'
 obtain ⟨u, e, _⟩:=h1'
 have hnd:∀ c, o.op ≠ .defer c:=fun c hc=>by rw [ho] at hc; cases hc
 refine ⟨a.eval x, a, w, cs, ρ, Goes.refl hs.fin, hs, rfl, h1, .inRegion ops (i :: rest) :: k, .one (step_lone_go ?_)⟩
 rw [stepGR_op hoi hw, Oper.semAt_eq _ _ _ hnd]
 have hex:(execOp a.eval o).run P w = .halt (.panic (a.eval x)) w:=by
  simp [execOp, ho, e, Instr.panic, goPanic, Sem.run]
 simp [stepG.apply, hex, Frame.raise_atR]
theorem zml {fop:Operand} {args:Array Operand} {tys:Array TypeId} {f:FuncId} {fs cs0 vs:List VV} (ho:o.op = .defer { callee:=.value fop, args:=args, argTypes:=tys }) (hr:s.rnd = false)
  (hf:evV s.fr fop = some (.fn f fs cs0)) (ha:evL s.fr args.toList = some vs):OpT P lim o s (.val (.tup [])) { s with dfs:=.call f (fs ++ vs ++ cs0) :: s.dfs }:=by
 refine ⟨Nat.le_refl _, rfl, fun B n ρ w a b k cs0' cs ops i rest hl hfr hs hoi hw=>?_⟩
 have h1:=zY hs.fr hf
 simp only[VRel] at h1
 obtain ⟨us1, us2, e, h2, h3⟩:=h1
 have h4:=zcf hs.fr ha
 have hro:b.roundOf = none:=by
  have:=hs.rnd
  rw [hr] at this
  simpa using this
 refine ⟨undef, { a with defers:={ target:=.fn (.func f) us2.toArray, args:=(us1 ++ args.toList.map a.eval).toArray } :: a.defers }, w, cs, ρ, Goes.refl hs.fin,
  ⟨hs.base, hs.fin, hs.mem, hs.fr, ⟨_, _, rfl, ⟨us1 ++ args.toList.map a.eval, us2, rfl, (h2.append h4).append h3⟩, hs.dfs⟩, hs.up, hs.rnd, hs.nn, hs.fid⟩, rfl, by simp [VRel, VRelL, undef], .one (step_lone_go ?_)⟩
 rw [stepGR_op hoi hw, hro, Oper.semAt_none]
 have hex:(execOp a.eval o).run P w = .ok (.defer { target:=.fn (.func f) us2.toArray, args:=(us1 ++ args.toList.map a.eval).toArray }) w:=by
  simp only[execOp, ho, resolve, e, Deferred.ofValue, Sem.run_bind, Sem.run_pure, Result.andThen_ok]
  congr 3
  apply Array.toList_inj.1
  simp
 have hfin:=Frame.finish_atR b { a with defers:={ target:=.fn (.func f) us2.toArray, args:=(us1 ++ args.toList.map a.eval).toArray } :: a.defers } ops i rest k undef
 rw [hoi] at hfin
 simp only[stepG.apply, Sem.runT_eq, hex, GStep.bare_after]
 exact congrArg (fun fr=>GStep.go { frame:=fr, callers:=cs, status:=.running, dying:=none } w) hfin
theorem zjF {args:Array Operand} {tys:Array TypeId} {v:VV} (ho:o.op = .call { callee:=.builtin .recover, args:=args, argTypes:=tys }) (hu:s.up = .pan v):OpT P lim o s (.val v) { s with up:=.got }:=by
 refine ⟨Nat.le_refl _, rfl, fun B n ρ w a b k cs0 cs ops i rest hl hf hs hoi hw=>?_⟩
 have hup:=hs.up
 rw [hu] at hup
 obtain ⟨hk, hro, c0, tl, u, rfl, hmode, hv, rfl⟩:=hup
 have hnd:∀ c, o.op ≠ .defer c:=fun c hc=>by rw [ho] at hc; cases hc
 refine ⟨u, a, w, { c0 with mode:=.panicking [{ v:=u, recovered:=true }] } :: tl, ρ, Goes.refl hs.fin, ⟨hs.base, hs.fin, hs.mem, hs.fr, hs.dfs, ⟨hk, hro, c0, tl, u, rfl, hmode, rfl⟩, hs.rnd, hs.nn, hs.fid⟩, rfl, hv, .one (step_lone_go ?_)⟩
 rw [stepGR_op hoi hw, Oper.semAt_eq _ _ _ hnd, ← zaP hoi]
 have hex:(execOp a.eval o).run P w = .ok .recover w:=by simp [execOp, ho, resolve, invoke, builtin]
 have htr:tryRecover (b.atR a (.inRegion ops (i :: rest) :: k)) (c0 :: tl) = some (u, { c0 with mode:=.panicking [{ v:=u, recovered:=true }] } :: tl):=by
  simp [tryRecover, Frame.atR, hk, hmode]
 have hro':(b.atR a (.inRegion ops (i :: rest) :: k)).roundOf = none:=hro
 simp [stepG.apply, hex, hro', htr]
theorem ziH {args:Array Operand} {tys:Array TypeId} (ho:o.op = .call { callee:=.builtin .recover, args:=args, argTypes:=tys }) (hu:s.up = .ret):OpT P lim o s (.val (.c .nilIface)) s:=by
 refine ⟨Nat.le_refl _, rfl, fun B n ρ w a b k cs0 cs ops i rest hl hf hs hoi hw=>?_⟩
 have hup:=hs.up
 rw [hu] at hup
 obtain ⟨hk, hro, c0, tl, rfl, hmode, rfl⟩:=hup
 have hnd:∀ c, o.op ≠ .defer c:=fun c hc=>by rw [ho] at hc; cases hc
 refine ⟨.nilIface, a, w, c0 :: tl, ρ, Goes.refl hs.fin, hs, rfl, by simp [VRel, Value.oneCell'], .one (step_lone_go ?_)⟩
 rw [stepGR_op hoi hw, Oper.semAt_eq _ _ _ hnd, ← zaP hoi]
 have hex:(execOp a.eval o).run P w = .ok .recover w:=by simp [execOp, ho, resolve, invoke, builtin]
 have htr:tryRecover (b.atR a (.inRegion ops (i :: rest) :: k)) (c0 :: tl) = none:=by
  simp [tryRecover, Frame.atR, hk, hmode]
 have hro':(b.atR a (.inRegion ops (i :: rest) :: k)).roundOf = none:=hro
 simp [stepG.apply, hex, hro', htr]
end
end
end Go.Bv
end
section
namespace Go.Bv
open Go.RowKit
noncomputable section
section
variable {P:Program} {lim:Nat} {o:Oper} {s s1 s':St} {e:XE}
def zdf (fr:Fr) (dst:Option Tmp) (v:VV):Fr:=match dst with
 | none=>fr
 | some d=>fr.set d v
def xM (n:Nat) (dst:Option Tmp):Bool:=match dst with
 | none=>true
 | some d=>Nat.blt d n && Nat.blt d 512
theorem zpv {ρ:Rho} {n:Nat} {fr:Fr} {a:Act} {dst:Option Tmp} {v:VV} {u:Value} (h:FrRel ρ n fr a.tmps) (hd:xM n dst = true) (hv:VRel ρ v u):FrRel ρ n (zdf fr dst v) (a.put dst u).tmps:=by
 refine ⟨(Av.size_put a dst u).trans h.1, fun t x hx=>?_⟩
 cases dst with
 | none=>exact h.2 t x hx
 | some d=>
  simp only[xM, zLa] at hd
  have h1:=qo.1 hd.1
  have h2:=qo.1 hd.2
  simp only[zdf] at hx
  have hx:=Oc.get_set fr d t v x h2 hx
  simp only[Act.put, Av.getD_put]
  by_cases ht:t = d
  ·subst ht
   rw [if_pos rfl] at hx
   subst hx
   rw [if_pos ⟨rfl, by rw [h.1]; exact h1⟩]; exact hv
  ·rw [if_neg ht] at hx
   rw [if_neg (fun c=>ht c.1)]; exact h.2 t x hx
theorem SR.put {B n:Nat} {ρ:Rho} {b:Frame} {cs0 cs:List Frame} {a:Act} {w:World} {dst:Option Tmp} {v:VV} {u:Value} (h:SR B n ρ s b cs0 cs a w) (hd:xM s.n dst = true) (hv:VRel ρ v u):SR B n ρ { s with fr:=zdf s.fr dst v } b cs0 cs (a.put dst u) w:=
 ⟨h.base, h.fin, h.mem, zpv h.fr (by rw [← h.nn]; exact hd) hv, by rw [Av.defers_put]; exact h.dfs, h.up, h.rnd, h.nn, h.fid⟩
def xe (ops:Array Oper) (fr:Fr) (o:Oper):Option Bool:=match o.guard with
 | none=>some true
 | some (j, want)=>match ops[j]? with
  | none=>some false
  | some g=>match g.dst with
   | none=>some false
   | some t=>match fr.get t with
    | some (.c (.bool b))=>some (bif want then b else !b)
    | some (.tup [])=>some false
    | _=>none
theorem zbW {ρ:Rho} {n:Nat} {fr:Fr} {a:Act} {ops:Array Oper} {c:Bool} (h:FrRel ρ n fr a.tmps) (he:xe ops fr o = some c):Region.wanted o (yielded ops a.tmps) = c:=by
 unfold xe at he
 unfold Region.wanted
 split at he
 ·rename_i hg; rw [hg]; simpa using he
 ·rename_i j want hg
  rw [hg]
  simp only
  unfold yielded
  split at he
  ·rename_i hj; rw [hj]; simpa using he
  ·rename_i g hj
   rw [hj]
   split at he
   ·rename_i hd; simp only[Option.bind_some, hd]; simpa using he
   ·rename_i t hd
    simp only[Option.bind_some, hd]
    split at he
    ·rename_i b hb
     have hr:=h.2 t _ hb
     simp only[VRel] at hr
     have hlt:t < a.tmps.size:=by
      rcases Nat.lt_or_ge t a.tmps.size with h1 | h1
      ·exact h1
      ·have:=hr.1
       rw [Array.getD_eq_getD_getElem?, Array.getElem?_eq_none h1] at this
       simp [undef] at this
     have e:a.tmps[t]? = some (.bool b):=by
      rw [← hr.1, Array.getElem?_eq_getElem hlt]
      simp [Array.getD_eq_getD_getElem?, Array.getElem?_eq_getElem hlt]
     rw [e]
     simp only[zLs] at he
     subst he
     cases b <;> cases want <;> rfl
    ·rename_i hb
     have hr:=h.2 t _ hb
     simp only[VRel, VRelL] at hr
     obtain ⟨vs, hv, rfl⟩:=hr
     simp only[zLs] at he
     subst he
     cases hq:a.tmps[t]? with
     | none=>rfl
     | some q=>
      have:a.tmps.getD t undef = q:=by rw [Array.getD_eq_getD_getElem?, hq]; rfl
      rw [this] at hv
      subst hv
      rfl
    ·cases he
theorem TS.opEnd {ops:Array Oper}:TS P lim [.inRegion ops []] s .normal s:=TS.step (pre':=[]) (fun _ _ _ _ _ _ _ _=>stepR_region_end) TS.nil
theorem TS.region {id:Nat} {ops:Array Oper} (h:TS P lim [.inRegion ops (List.range ops.size)] s e s'):TS P lim [.code (.region id ops false)] s e s':=
 TS.step (pre':=[.inRegion ops (List.range ops.size)]) (fun _ _ _ _ _ _ _ _=>stepR_region) h
theorem TS.opVal {ops:Array Oper} {i:Nat} {rest:List Nat} {v:VV} (ho:ops[i]? = some o) (hw:xe ops s.fr o = some true) (hd:xM s1.n o.dst = true) (h:OpT P lim o s (.val v) s1) (h2:TS P lim [.inRegion ops rest] { s1 with fr:=zdf s1.fr o.dst v } e s'):
  TS P lim [.inRegion ops (i :: rest)] s e s':=by
 refine ⟨Nat.le_trans h.1 h2.1, fun B n ρ w a b k cs0 cs hl hf hs=>?_⟩
 obtain ⟨u, a1, w1, cs1, ρ1, g1, r1, ht, hv, hst⟩:=h.2.2 B n ρ w a b k cs0 cs ops i rest hl (hf.left h2.1) hs ho (zbW hs.fr hw)
 obtain ⟨a2, w2, cs2, ρ2, g2, r2, x2⟩:=h2.2 B n ρ1 w1 (a1.put o.dst u) b k cs0 cs1 (Nat.le_trans hl g1.le) (hf.right g1) (r1.put hd hv)
 exact ⟨a2, w2, cs2, ρ2, g1.trans g2, r2, .of_steps hst x2⟩
theorem TS.opPan {ops:Array Oper} {i:Nat} {rest:List Nat} {v:VV} (ho:ops[i]? = some o) (hw:xe ops s.fr o = some true) (h:OpT P lim o s (.pan v) s1):TS P lim [.inRegion ops (i :: rest)] s (.pan v) s1:=by
 refine ⟨h.1, fun B n ρ w a b k cs0 cs hl hf hs=>?_⟩
 obtain ⟨u, a1, w1, cs1, ρ1, g1, r1, ht, hv, todo, hst⟩:=h.2.2 B n ρ w a b k cs0 cs ops i rest hl hf hs ho (zbW hs.fr hw)
 exact ⟨a1, w1, cs1, ρ1, g1, r1, todo, u, hv, hst⟩
theorem TS.opSkip {ops:Array Oper} {i:Nat} {rest:List Nat} (ho:ops[i]? = some o) (hw:xe ops s.fr o = some false) (hd:xM s.n o.dst = true) (h2:TS P lim [.inRegion ops rest] { s with fr:=zdf s.fr o.dst (.tup []) } e s'):TS P lim [.inRegion ops (i :: rest)] s e s':=by
 refine ⟨h2.1, fun B n ρ w a b k cs0 cs hl hf hs=>?_⟩
 obtain ⟨a2, w2, cs2, ρ2, g2, r2, x2⟩:=h2.2 B n ρ w (a.put o.dst undef) b k cs0 cs hl hf (hs.put hd (by simp [VRel, VRelL, undef]))
 refine ⟨a2, w2, cs2, ρ2, g2, r2, .of_steps (.one ?_) x2⟩
 have hst:=stepR_op_skip (P:=P) (b:=b) (a:=a) (k:=k) (cs:=cs) (w:=w) (ops:=ops) (i:=i) (rest:=rest) (by simp [ho, zbW hs.fr hw])
 simp only[ho, Option.bind_some] at hst
 exact hst
end
end
end Go.Bv
end
section
namespace Go.Bv
open Go.RowKit
noncomputable section
section
variable {P:Program} {lim:Nat}
def zce (i:Nat):List VV -> Fr
 | []=>Oc.all .top
 | x :: xs=>(zce (i + 1) xs).set i x
theorem zf5:∀ (l:List VV) (i t:Nat) (x:VV), i + l.length < 512 -> (zce i l).get t = some x -> x = .top ∨ (i <= t /\ l[t - i]? = some x)
 | [], i, t, x, _, h=>.inl (Oc.all_get _ _ _ h)
 | y :: l, i, t, x, hl, h=>by
  simp only[List.length_cons] at hl
  rw [zce] at h
  have h:=Oc.get_set _ i t y x (by omega) h
  by_cases e:t = i
  ·subst e; rw [if_pos rfl] at h; right; exact ⟨Nat.le_refl _, by simp [h]⟩
  ·rw [if_neg e] at h
   rcases zf5 l (i + 1) t x (by omega) h with h1 | ⟨h1, h2⟩
   ·exact .inl h1
   ·exact .inr ⟨by omega, by rw [show t - i = (t - (i + 1)) + 1 from by omega]; simpa using h2⟩
theorem zgp {ρ:Rho} {vs:List VV} {us:List Value} {n:Nat} (h:VRelL ρ vs us) (hn:vs.length <= n) (hs:vs.length < 512):FrRel ρ n (zce 0 vs) (us.toArray ++ Array.replicate (n - us.toArray.size) undef):=by
 have hl:=h.length
 refine ⟨by simp; omega, fun t x hx=>?_⟩
 rcases zf5 vs 0 t x (by omega) hx with rfl | ⟨_, h2⟩
 ·simp [VRel]
 obtain ⟨u, h3, h4⟩:=h.get (by simpa using h2)
 have hlt:=(zLg h3).1
 rw [Array.getD_eq_getD_getElem?, Array.getElem?_append_left (by simpa using hlt)]
 simp only[List.getElem?_toArray, h3, Option.getD_some]
 exact h4
def zoQ (P:Program) (M:Mem) (T:TypeId):VV -> Option VV
 | .ptr l off=>match tyq P T, M.get l with
  | some (true, size), some (.cells cs)=>bif Nat.ble (off + size) cs.length then some (.agg ((cs.drop off).take size)) else none
  | some (false, _), some (.cells cs)=>cs[off]?
  | _, _=>none
 | _=>none
theorem zoc {B:Nat} {ρ:Rho} {M:Mem} {w:World} {T:TypeId} {p v:VV} {u:Value} (hm:MRel B ρ M w) (h:zoQ P M T p = some v) (hp:VRel ρ p u):∃ ad x, u = .pointer (some ad) /\ (loadVar T ad).run P w = .ok x w /\ VRel ρ v x:=by
 unfold zoQ at h
 split at h
 ·rename_i l off
  simp only[VRel] at hp
  obtain ⟨b, hb, rfl⟩:=hp
  split at h
  ·rename_i size cs ht hl
   cases hle:Nat.ble (off + size) cs.length with
   | false=>simp [hle] at h
   | true=>
    simp only[hle, cond_true, zLs] at h
    subst h
    obtain ⟨b', hb', _, arr, T', fz, h2, hz, h3, h4, h5⟩:=hm.obj l _ hl
    rw [hb] at hb'; injection hb' with hb'; subst hb'
    obtain ⟨us, h6, h7, h8, h9⟩:=cells_at h5 size off (zLb hle)
    have:=Av.run_load_agg (zaw ht) (w:=w) (b:=b.blk) (off:=b.base + off) us h6 (fun j v hj=>by
     rw [cell_of_row w b.blk _ arr _ _ h2]; exact h9 j v hj)
    exact ⟨_, _, rfl, this, by simp only[VRel]; exact ⟨us, rfl, h7, h8⟩⟩
  ·rename_i x cs ht hl
   obtain ⟨b', hb', _, arr, T', fz, h2, hz, h3, h4, h5⟩:=hm.obj l _ hl
   rw [hb] at hb'; injection hb' with hb'; subst hb'
   obtain ⟨u, h6, h7, h8⟩:=h5 off v h
   have hc:w.cell? ⟨b.blk, b.base + off, none⟩ = some u:=by rw [cell_of_row w b.blk _ arr _ _ h2]; exact h6
   exact ⟨_, u, rfl, by simp [loadVar, Av.isAgg_of (zaw ht), hc], h8⟩
  ·cases h
 ·cases h
def zkn (P:Program) (fr:Fr) (M:Mem):ResultVar -> Option VV
 | .tmp t=>fr.get t
 | .cell p T=>match fr.get p with
  | some q=>zoQ P M T q
  | none=>none
def zpl (P:Program) (fr:Fr) (M:Mem):List ResultVar -> Option (List VV)
 | []=>some []
 | r :: rs=>match zkn P fr M r, zpl P fr M rs with
  | some v, some vs=>some (v :: vs)
  | _, _=>none
def resV (P:Program) (fr:Fr) (M:Mem) (rs:List ResultVar):Option VV:=match zpl P fr M rs with
 | some [v]=>some v
 | some vs=>some (.tup vs)
 | none=>none
theorem zni {B n:Nat} {ρ:Rho} {M:Mem} {w:World} {fr:Fr} {tm:Array Value} (hm:MRel B ρ M w) (hf:FrRel ρ n fr tm) {r:ResultVar} {v:VV} (h:zkn P fr M r = some v):∃ u, (Av.resSem tm r).run P w = .ok u w /\ VRel ρ v u:=by
 cases r with
 | tmp t=>exact ⟨_, rfl, hf.2 t v h⟩
 | cell p T=>
  simp only[zkn] at h
  split at h
  ·rename_i q hq
   obtain ⟨ad, x, h1, h2, h3⟩:=zoc hm h (hf.2 p q hq)
   exact ⟨x, by simp only[Av.resSem, h1, asAddr, Sem.run_bind, Sem.run_pure, Result.andThen_ok, h2], h3⟩
  ·cases h
theorem zhI {B n:Nat} {ρ:Rho} {M:Mem} {w:World} {fr:Fr} {tm:Array Value} (hm:MRel B ρ M w) (hf:FrRel ρ n fr tm):∀ {rs:List ResultVar} {vs:List VV}, zpl P fr M rs = some vs -> ∃ us:List Value, (rs.mapM (Av.resSem tm)).run P w = .ok us w /\ VRelL ρ vs us
 | [], vs, h=>by simp only[zpl, zLs] at h; subst h; exact ⟨[], by simp, by simp [VRelL]⟩
 | r :: rs, vs, h=>by
  simp only[zpl] at h
  split at h
  ·rename_i v vs' h1 h2
   simp only[zLs] at h
   subst h
   obtain ⟨u, h3, h4⟩:=zni hm hf h1
   obtain ⟨us, h5, h6⟩:=zhI hm hf h2
   refine ⟨u :: us, ?_, by simp only[VRelL]; exact ⟨u, us, rfl, h4, h6⟩⟩
   rw [List.mapM_cons]
   simp only[Sem.run_bind, Sem.run_pure, h3, Result.andThen_ok, h5]
  ·cases h
theorem zlP {B n:Nat} {ρ:Rho} {M:Mem} {w:World} {fr:Fr} {tm:Array Value} {fn:Func} {v:VV} (hm:MRel B ρ M w) (hf:FrRel ρ n fr tm) (h:resV P fr M fn.results.toList = some v):∃ u, (results fn tm).run P w = .ok u w /\ VRel ρ v u:=by
 have e:∀ vs:List Value, (fn.results.toList.mapM (Av.resSem tm)).run P w = .ok vs w ->
   (results fn tm).run P w = .ok (if h:vs.toArray.size = 1 then vs.toArray[0] else .tuple vs.toArray) w:=by
  intro vs hv
  rw [Av.results_eq, Array.mapM_eq_mapM_toList]
  simp only[Sem.run_bind, Sem.run_map]
  rw [hv]
  simp
 unfold resV at h
 split at h
 ·rename_i v' hv
  simp only[zLs] at h
  subst h
  obtain ⟨us, h1, h2⟩:=zhI hm hf hv
  simp only[VRelL] at h2
  obtain ⟨u, us', rfl, h3, rfl⟩:=h2
  exact ⟨u, by simpa using e _ h1, h3⟩
 ·rename_i vs hne hv
  simp only[zLs] at h
  subst h
  obtain ⟨us, h1, h2⟩:=zhI hm hf hv
  refine ⟨.tuple us.toArray, ?_, by simp only[VRel]; exact ⟨us, rfl, h2⟩⟩
  have h3:=e us h1
  have hlen:us.length ≠ 1:=by
   intro h4
   rw [h2.length] at h4
   match vs, h4, hne with
   | [x], _, hne=>exact hne x rfl
  simpa [hlen] using h3
 ·cases h
def zlR (ρ:Rho) (pm:Option VV) (m:FrameMode):Prop:=match pm with
 | none=>m = .returning
 | some v=>∃ u, VRel ρ v u /\ m = .panicking [{ v:=u, recovered:=false }]
def zan (P:Program) (lim:Nat) (fn:Func) (s:St) (pm:Option VV) (out:OX) (M':Mem) (nx':Nat):Prop:=s.nx <= nx' /\
 ∀ (B n:Nat) (ρ:Rho) (w:World) (a:Act) (b:Frame) (todo:List Item) (m:FrameMode) (cs0 cs:List Frame), lim <= s.nx -> Fresh ρ s.nx nx' -> SR B n ρ s b cs0 cs a w -> P.funcs[b.fn]? = some fn -> b.kind = .normal -> b.roundOf = none -> zlR ρ pm m ->
  ∃ e w' ρ' fr', Goes lim B s.nx nx' ρ ρ' s.M M' w w' /\ MRel B ρ' M' w' /\ zqO ρ' out e /\ Comes P (lone { b.atR a todo with mode:=m } cs w) (lone fr' cs w') e /\ fr'.fn = b.fn /\ fr'.leaving P w' e
variable {s:St} {fn:Func} {out:OX} {M':Mem} {nx':Nat} {pm:Option VV}
theorem zmO {v:VV} (hd:s.dfs = []) (h:resV P s.fr s.M fn.results.toList = some v):zan P lim fn s none (.val v) s.M s.nx:=by
 refine ⟨Nat.le_refl _, fun B n ρ w a b todo m cs0 cs hl hf hs hfn hk hr hm=>?_⟩
 obtain ⟨u, h1, h2⟩:=zlP hs.mem hs.fr h
 have hds:=hs.dfs
 rw [hd] at hds
 exact ⟨.returned u, w, ρ, _, Goes.refl hs.fin, hs.mem, ⟨u, rfl, h2⟩, Steps.refl .., rfl, hm, hds, hk, fn, hfn, h1⟩
theorem zmo {v:VV} (hd:s.dfs = []):zan P lim fn s (some v) (.pan v) s.M s.nx:=by
 refine ⟨Nat.le_refl _, fun B n ρ w a b todo m cs0 cs hl hf hs hfn hk hr hm=>?_⟩
 obtain ⟨u, h1, h2⟩:=hm
 have hds:=hs.dfs
 rw [hd] at hds
 exact ⟨.panicked [{ v:=u, recovered:=false }], w, ρ, _, Goes.refl hs.fin, hs.mem, ⟨u, rfl, h1⟩, Steps.refl .., rfl, h2, hds, fn, hfn⟩
theorem zk2 {l:Nat} {ds:List VD} (hd:s.dfs = .coll l :: ds) (hl:s.M.get l = some (.dfd true)) (hll:Nat.ble lim l = true) (hnx:Nat.blt s.nx 16777215 = true) (h:zan P lim fn { s with dfs:=ds, M:=s.M.set l (some (.dfd false)) } pm out M' nx'):zan P lim fn s pm out M' nx':=by
 refine ⟨h.1, fun B n ρ w a b todo m cs0 cs hlim hf hs hfn hk hr hm=>?_⟩
 have hds:=hs.dfs
 rw [hd] at hds
 obtain ⟨d, ds', e1, ⟨bb, hb, rfl⟩, e2⟩:=hds
 obtain ⟨b', hb', hB', h2⟩:=hs.mem.obj l _ hl
 rw [hb] at hb'; injection hb' with hb'; subst hb'
 simp only[ORel, if_true] at h2
 have hlt:=(Array.getElem?_eq_some_iff.1 h2).1
 have hother:∀ g, g ≠ bb.blk -> (w.heap.setIfInBounds bb.blk (.deferred none))[g]? = w.heap[g]?:=fun g hg=>Array.getElem?_setIfInBounds_ne (Ne.symm hg)
 obtain ⟨ρ1, g1, m1, rfl⟩:Post lim B s.nx s.nx ρ s.M (s.M.set l (some (.dfd false))) w { w with heap:=w.heap.setIfInBounds bb.blk (.deferred none) } (fun ρ'=>ρ' = ρ):=
  kM hs.mem hs.fin (qo.1 hnx) (zLb hll) hl hb ⟨rfl, rfl, rfl, by simp, fun k hk=>hother k (by omega)⟩ (fun g _ hg=>hother g hg) (by simp [ORel, hlt]) rfl
 obtain ⟨e, w', ρ', fr', g2, r2, o2, c2, f2, l2⟩:=h.2 B n ρ1 { w with heap:=w.heap.setIfInBounds bb.blk (.deferred none) } { a with defers:=ds' } b todo m cs0 cs hlim hf ⟨by simpa using hs.base, g1.fin hs.fin, m1, hs.fr, e2, hs.up, hs.rnd, hs.nn, hs.fid⟩ hfn hk hr hm
 refine ⟨e, w', ρ', fr', g1.trans g2, r2, o2, Comes.of_steps (.one (step_lone_go ?_)) c2, f2, l2⟩
 have htake:(Instr.takeDeferred bb.blk).run P w = .ok [] { w with heap:=w.heap.setIfInBounds bb.blk (.deferred none) }:=by
  simp [Instr.takeDeferred, getObj, setObj, Sem.run, h2]
 have hne:m ≠ .run:=by
  cases pm with
  | none=>rw [show m = .returning from hm]; simp
  | some v=>obtain ⟨u, _, h3⟩:=hm; rw [h3]; simp
 cases m with
 | run=>exact absurd rfl hne
 | returning=>simp [stepG, unwind, Frame.atR, e1, Sem.runT_eq, htake]
 | panicking chain=>simp [stepG, unwind, Frame.atR, e1, Sem.runT_eq, htake]
def zsn (P:Program) (lim:Nat) (f:FuncId) (vs:List VV) (M:Mem) (nx:Nat) (pm pm':Option VV) (M':Mem) (nx':Nat):Prop:=nx <= nx' /\
 ∀ (B:Nat) (ρ:Rho) (w:World) (us:List Value) (c:Frame) (cs:List Frame), lim <= nx -> (∀ l, nx <= l -> M.get l = none) -> B <= w.heap.size -> Fresh ρ nx nx' -> MRel B ρ M w -> VRelL ρ vs us -> zlR ρ pm c.mode ->
  ∃ w' ρ' m', Goes lim B nx nx' ρ ρ' M M' w w' /\ MRel B ρ' M' w' /\ zlR ρ' pm' m' /\ Steps P (lone (Frame.enter P f us.toArray .deferred) (c :: cs) w) (lone { c with mode:=m' } cs w')
theorem zk8 {f:FuncId} {vs:List VV} {ds:List VD} {pm1:Option VV} {M1:Mem} {nx1:Nat} (hd:s.dfs = .call f vs :: ds) (he:Av.Enters P f) (hc:zsn P lim f vs s.M s.nx pm pm1 M1 nx1) (h:zan P lim fn { s with dfs:=ds, M:=M1, nx:=nx1 } pm1 out M' nx'):zan P lim fn s pm out M' nx':=by
 refine ⟨Nat.le_trans hc.1 h.1, fun B n ρ w a b todo m cs0 cs hlim hf hs hfn hk hr hm=>?_⟩
 have hds:=hs.dfs
 rw [hd] at hds
 obtain ⟨d, ds', e1, ⟨us, cap, rfl, hv⟩, e2⟩:=hds
 obtain ⟨w1, ρ1, m1, g1, r1, hm1, hst⟩:=hc.2 B ρ w (us ++ cap) { b.atR { a with defers:=ds' } todo with mode:=m } cs hlim hs.fin hs.base (hf.left h.1) hs.mem hv hm
 have hx:=g1.rext (hf.left h.1)
 obtain ⟨e, w', ρ', fr', g2, r2, o2, c2, f2, l2⟩:=h.2 B n ρ1 w1 { a with defers:=ds' } b todo m1 cs0 cs (Nat.le_trans hlim g1.le) (hf.right g1) ⟨Nat.le_trans hs.base g1.below.size, g1.fin hs.fin, r1, hs.fr.ext hx, e2.ext hx, hs.up.ext hx, hs.rnd, hs.nn, hs.fid⟩ hfn hk hr hm1
 refine ⟨e, w', ρ', fr', g1.trans g2, r2, o2, Comes.of_steps (Steps.trans (.one ?_) hst) c2, f2, l2⟩
 have hne:m ≠ .run:=by
  cases pm with
  | none=>rw [show m = .returning from hm]; simp
  | some v=>obtain ⟨u, _, h3⟩:=hm; rw [h3]; simp
 have hi:(invoke (.fn (.func f) cap.toArray) us.toArray).run P w = .ok (.enter f (us ++ cap).toArray) w:=by
  simp only[invoke]
  rw [show us.toArray ++ cap.toArray = (us ++ cap).toArray from by simp]
  exact Av.enter_run he _ w
 exact step_defer (P:=P) (fr:={ b.atR a todo with mode:=m }) hne e1 rfl hi
theorem za4 {f:FuncId} {c:Code} {vs:List VV} {M M1:Mem} {nx:Nat} {e:XE} {s1:St} (hfn:P.funcs[f]? = some fn) (hb:fn.body = some c) (hn:Nat.ble vs.length fn.ntmps = true) (hs:Nat.blt vs.length 512 = true)
  (hbody:TS P lim [.code c] { fr:=zce 0 vs, dfs:=[], up:=.no, M:=M, nx:=nx, rnd:=false, n:=fn.ntmps, fid:=f } e s1)
  (hrnd:s1.rnd = false)
  (hleave:(e = .normal ∨ e = .ret) /\ zan P lim fn s1 none out M' nx' ∨ (∃ v, e = .pan v /\ zan P lim fn s1 (some v) out M' nx')):zdx P lim f vs M nx out M' nx':=by
 have hle:s1.nx <= nx':=by rcases hleave with ⟨_, h⟩ | ⟨v, _, h⟩ <;> exact h.1
 refine ⟨Nat.le_trans hbody.1 hle, fun B ρ w us hlim hfin hB hf hm hv=>?_⟩
 intro cs
 let b:Frame:={ (default:Frame) with fn:=f, kind:=.normal, roundOf:=none }
 have hlen:=hv.length
 have henter:Frame.enter P f us.toArray .normal = b.atR { tmps:=us.toArray ++ Array.replicate (fn.ntmps - us.toArray.size) undef, defers:=[] } [.code c]:=by
  simp [Frame.enter, Frame.atR, hfn, hb, b]
 obtain ⟨a1, w1, cs1, ρ1, g1, r1, x1⟩:=hbody.2 B fn.ntmps ρ w { tmps:=us.toArray ++ Array.replicate (fn.ntmps - us.toArray.size) undef, defers:=[] } b [] cs cs hlim (hf.left hle)
  ⟨hB, hfin, hm, zgp hv (zLb hn) (qo.1 hs), rfl, rfl, rfl, rfl, rfl⟩
 rw [List.append_nil, ← henter] at x1
 have hcs:cs1 = cs:=by
  have hu:=r1.up
  cases hup:s1.up with
  | no=>rw [hup] at hu; exact hu
  | ret=>rw [hup] at hu; exact absurd hu.1 (by simp [b])
  | pan v=>rw [hup] at hu; exact absurd hu.1 (by simp [b])
  | got=>rw [hup] at hu; exact absurd hu.1 (by simp [b])
 subst hcs
 have fin:∀ (pm:Option VV) (todo:List Item) (m:FrameMode), zlR ρ1 pm m -> zan P lim fn s1 pm out M' nx' -> Steps P (lone (Frame.enter P f us.toArray .normal) cs1 w) (lone { b.atR a1 todo with mode:=m } cs1 w1) ->
   ∃ e w' fr, (∃ ρ', Goes lim B nx nx' ρ ρ' M M' w w' /\ MRel B ρ' M' w' /\ zqO ρ' out e) /\ Comes P (lone (Frame.enter P f us.toArray .normal) cs1 w) (lone fr cs1 w') e /\ fr.fn = f /\ fr.leaving P w' e:=by
  intro pm todo m hm1 hl1 hst
  obtain ⟨e, w', ρ', fr', g2, r2, o2, c2, f2, l2⟩:=hl1.2 B fn.ntmps ρ1 w1 a1 b todo m cs1 cs1 (Nat.le_trans hlim g1.le) (hf.right g1) r1 hfn rfl rfl hm1
  exact ⟨e, w', fr', ⟨ρ', g1.trans g2, r2, o2⟩, Comes.of_steps hst c2, f2, l2⟩
 rcases hleave with ⟨he, h⟩ | ⟨v, rfl, h⟩
 ·rcases he with rfl | rfl
  ·exact fin none [] .returning rfl h (Steps.trans x1 (.one (stepR_end rfl)))
  ·obtain ⟨k0, x1⟩:=x1
   exact fin none (.code .ret :: k0) .returning rfl h (Steps.trans x1 (.one (stepR_ret rfl)))
 ·obtain ⟨todo, u, hu, x1⟩:=x1
  exact fin (some v) todo _ ⟨u, hu, rfl⟩ h x1
def zrB:Option VV -> Up
 | none=>.ret
 | some v=>.pan v
def zsK:Up -> Option (Option VV)
 | .no=>none
 | .ret=>some none
 | .pan v=>some (some v)
 | .got=>some none
theorem zem {f:FuncId} {c:Code} {vs:List VV} {M:Mem} {nx:Nat} {e:XE} {s1:St} {v:VV} {pm pm':Option VV} (hfn:P.funcs[f]? = some fn) (hb:fn.body = some c) (hn:Nat.ble vs.length fn.ntmps = true) (hs:Nat.blt vs.length 512 = true)
  (hbody:TS P lim [.code c] { fr:=zce 0 vs, dfs:=[], up:=zrB pm, M:=M, nx:=nx, rnd:=false, n:=fn.ntmps, fid:=f } e s1)
  (he:e = .normal ∨ e = .ret) (hd:s1.dfs = []) (hr:resV P s1.fr s1.M fn.results.toList = some v) (hp:zsK s1.up = some pm'):zsn P lim f vs M nx pm pm' s1.M s1.nx:=by
 refine ⟨hbody.1, fun B ρ w us c0 cs hlim hfin hB hf hm hv hmode=>?_⟩
 let b:Frame:={ (default:Frame) with fn:=f, kind:=.deferred, roundOf:=none }
 have henter:Frame.enter P f us.toArray .deferred = b.atR { tmps:=us.toArray ++ Array.replicate (fn.ntmps - us.toArray.size) undef, defers:=[] } [.code c]:=by
  simp [Frame.enter, Frame.atR, hfn, hb, b]
 have hup:UR ρ (zrB pm) b (c0 :: cs) (c0 :: cs):=by
  cases pm with
  | none=>exact ⟨rfl, rfl, c0, cs, rfl, hmode, rfl⟩
  | some v=>obtain ⟨u, h1, h2⟩:=hmode; exact ⟨rfl, rfl, c0, cs, u, rfl, h2, h1, rfl⟩
 obtain ⟨a1, w1, cs1, ρ1, g1, r1, x1⟩:=hbody.2 B fn.ntmps ρ w { tmps:=us.toArray ++ Array.replicate (fn.ntmps - us.toArray.size) undef, defers:=[] } b [] (c0 :: cs) (c0 :: cs) hlim hf
  ⟨hB, hfin, hm, zgp hv (zLb hn) (qo.1 hs), rfl, hup, rfl, rfl, rfl⟩
 rw [List.append_nil, ← henter] at x1
 obtain ⟨u, h1, h2⟩:=zlP r1.mem r1.fr hr
 have hds:=r1.dfs
 rw [hd] at hds
 have hret:∃ todo, Steps P (lone (Frame.enter P f us.toArray .deferred) (c0 :: cs) w) (lone { b.atR a1 todo with mode:=.returning } cs1 w1):=by
  rcases he with rfl | rfl
  ·exact ⟨[], Steps.trans x1 (.one (stepR_end rfl))⟩
  ·obtain ⟨k0, x1⟩:=x1
   exact ⟨.code .ret :: k0, Steps.trans x1 (.one (stepR_ret rfl))⟩
 obtain ⟨todo, hret⟩:=hret
 have hgo:∀ (c1:Frame), cs1 = c1 :: cs -> Steps P (lone (Frame.enter P f us.toArray .deferred) (c0 :: cs) w) (lone { c1 with mode:=settle c1.mode } cs w1):=by
  intro c1 e1
  subst e1
  exact Steps.trans hret (.one (step_going_returned (v:=u) rfl ⟨rfl, hds, fn, hfn, h1⟩))
 have hu:=r1.up
 cases hup1:s1.up with
 | no=>rw [hup1] at hp; cases hp
 | ret=>
  rw [hup1] at hu hp
  obtain ⟨_, _, c1, tl, e1, e2, e3⟩:=hu
  injection e1 with e4 e5
  subst e4; subst e5
  injection hp with hp
  subst hp
  have:=hgo c0 e3
  rw [e2] at this
  exact ⟨w1, ρ1, .returning, g1, r1.mem, rfl, this⟩
 | pan x=>
  rw [hup1] at hu hp
  obtain ⟨_, _, c1, tl, u1, e1, e2, e3, e6⟩:=hu
  injection e1 with e4 e5
  subst e4; subst e5
  injection hp with hp
  subst hp
  have:=hgo c0 e6
  rw [e2] at this
  exact ⟨w1, ρ1, _, g1, r1.mem, ⟨u1, e3, rfl⟩, this⟩
 | got=>
  rw [hup1] at hu hp
  obtain ⟨_, _, c1, tl, u1, e1, e2, e3⟩:=hu
  injection e1 with e4 e5
  subst e4; subst e5
  injection hp with hp
  subst hp
  have:=hgo _ e3
  exact ⟨w1, ρ1, .returning, g1, r1.mem, rfl, this⟩
end
end
end Go.Bv
end
section
namespace Go.Bv
open Go.RowKit
noncomputable section
section
variable {P:Program} {lim:Nat} {o:Oper} {s s1:St}
def jD (L:Loop) (us:List Value):Array Value:=(L.params.zip us.toArray).foldl (fun t (p, a)=>t.setIfInBounds p a) L.tmps
def ziO (P:Program) (lim l:Nat) (vs:List VV) (M:Mem) (nx:Nat) (out:OX) (M':Mem) (nx':Nat):Prop:=nx <= nx' /\
 ∀ (B:Nat) (ρ:Rho) (w:World) (us:List Value) (bb:RB) (c:Frame) (cs:List Frame), lim <= nx -> (∀ l, nx <= l -> M.get l = none) -> B <= w.heap.size -> Fresh ρ nx nx' -> MRel B ρ M w -> VRelL ρ vs us -> ρ l = some bb ->
  ∃ L, w.heap[bb.blk]? = some (.loop L) /\ us.length = L.params.size /\ ∃ w' ρ', Goes lim B nx nx' ρ ρ' M M' w w' /\ MRel B ρ' M' w' /\ match out with
   | .val v=>∃ u, VRel ρ' v u /\ Steps P (lone (Frame.round bb.blk L.fn (jD L us) L.assign L.body .normal) (c :: cs) w) (lone (c.finish u) cs w')
   | .pan v=>∃ u, VRel ρ' v u /\ Steps P (lone (Frame.round bb.blk L.fn (jD L us) L.assign L.body .normal) (c :: cs) w) (lone (c.raise [{ v:=u, recovered:=false }]) cs w')
theorem zmG {fop:Operand} {args:Array Operand} {tys:Array TypeId} {l:Nat} {vs:List VV} {out:OX} {M':Mem} {nx':Nat} (ho:o.op = .call { callee:=.value fop, args:=args, argTypes:=tys })
  (hf:evV s.fr fop = some (.yld l)) (ha:evL s.fr args.toList = some vs) (h:ziO P lim l vs s.M s.nx out M' nx'):OpT P lim o s out { s with M:=M', nx:=nx' }:=by
 refine ⟨h.1, rfl, fun B n ρ w a b k cs0' cs ops i rest hl hfr hs hoi hw=>?_⟩
 have h1:=zY hs.fr hf
 simp only[VRel] at h1
 obtain ⟨bb, hb, e⟩:=h1
 have h4:=zcf hs.fr ha
 obtain ⟨L, hL, hlen, w', ρ', g, m, hout⟩:=h.2 B ρ w _ bb (b.atR a (.inRegion ops (i :: rest) :: k)) cs hl hs.fin hs.base hfr hs.mem h4 hb
 have hnd:∀ c, o.op ≠ .defer c:=fun c hc=>by rw [ho] at hc; cases hc
 have hex:(execOp a.eval o).run P w = .ok (.round bb.blk L.fn (jD L (args.toList.map a.eval)) L.assign L.body) w:=by
  have hsz:¬ (args.map a.eval).size ≠ L.params.size:=by
   have:=hlen
   simp at this
   simp [this]
  have hg:(Instr.getLoop bb.blk).run P w = .ok L w:=by simp [Instr.getLoop, getObj, Sem.run, hL]
  have hargs:args.map a.eval = (args.toList.map a.eval).toArray:=by rw [← Array.toList_map]
  simp only[execOp, ho, resolve, e, Deferred.ofValue, invoke, Sem.run_bind, Sem.run_pure, Result.andThen_ok, Instr.yield, hg]
  simp only[Array.empty_append] at *
  rw [if_neg (by simpa using hsz)]
  simp [jD, hargs]
 have hstep:step P (lone (b.atR a (.inRegion ops (i :: rest) :: k)) cs w) = .next (lone (Frame.round bb.blk L.fn (jD L (args.toList.map a.eval)) L.assign L.body .normal) (b.atR a (.inRegion ops (i :: rest) :: k) :: cs) w):=
  step_lone_go (by
   rw [stepGR_op hoi hw, Oper.semAt_eq _ _ _ hnd]
   simp [stepG.apply, hex, Frame.atR])
 cases out with
 | val v=>
  obtain ⟨u, hv, hst⟩:=hout
  refine ⟨u, a, w', cs, ρ', g, hs.next hfr g m, rfl, hv, ?_⟩
  rw [← zaP hoi]
  exact Steps.trans (.one hstep) hst
 | pan v=>
  obtain ⟨u, hv, hst⟩:=hout
  refine ⟨u, a, w', cs, ρ', g, hs.next hfr g m, rfl, hv, .inRegion ops (i :: rest) :: k, ?_⟩
  rw [Frame.raise_atR] at hst
  exact Steps.trans (.one hstep) hst
def vz (fr:Fr):List Tmp -> List VV -> Fr
 | t :: ts, v :: vs=>vz (fr.set t v) ts vs
 | _, _=>fr
def y8 (tm:Array Value):List Tmp -> List Value -> Array Value
 | t :: ts, u :: us=>y8 (tm.setIfInBounds t u) ts us
 | _, _=>tm
theorem zfp:∀ (ps:List Tmp) (us:List Value) (tm:Array Value), (ps.zip us).foldl (fun t (p, a)=>t.setIfInBounds p a) tm = y8 tm ps us
 | [], us, tm=>by simp [y8]
 | p :: ps, [], tm=>by simp [y8]
 | p :: ps, u :: us, tm=>by simp only[List.zip_cons_cons, List.foldl_cons, y8]; exact zfp ps us _
theorem zde (L:Loop) (us:List Value):jD L us = y8 L.tmps L.params.toList us:=by
 unfold jD
 rw [← zfp, ← Array.foldl_toList, Array.toList_zip]
theorem zar {ρ:Rho} {n:Nat}:∀ (ps:List Tmp) (vs:List VV) (us:List Value) (fr:Fr) (tm:Array Value), FrRel ρ n fr tm -> VRelL ρ vs us -> (ps.all fun t=>xM n (some t)) = true -> FrRel ρ n (vz fr ps vs) (y8 tm ps us)
 | [], vs, us, fr, tm, h, hv, hd=>by cases vs <;> cases us <;> simpa [vz, y8] using h
 | p :: ps, [], us, fr, tm, h, hv, hd=>by simp only[VRelL] at hv; subst hv; simpa [vz, y8] using h
 | p :: ps, v :: vs, us, fr, tm, h, hv, hd=>by
  simp only[VRelL] at hv
  obtain ⟨u, us', rfl, h1, h2⟩:=hv
  simp only[List.all_cons, zLa] at hd
  simp only[vz, y8]
  exact zar ps vs us' _ _ (zpv (a:=⟨tm, []⟩) (dst:=some p) h hd.1 h1) h2 hd.2
theorem zcn {B l nx:Nat} {ρ:Rho} {M:Mem} {w:World} {st st':LoopState} {pe pe':Option Code} {fn:FuncId} {n:Nat} {fr:Fr} {ps:Array Tmp} {as bo:Code} {df:Nat} {bb:RB} (hm:MRel B ρ M w) (hfin:∀ l, nx <= l -> M.get l = none) (hnx:nx < 16777215) (hll:lim <= l)
  (hl:M.get l = some (.loop st pe fn n fr ps as bo df)) (hb:ρ l = some bb):
  ∃ L, w.heap[bb.blk]? = some (.loop L) /\ L.state = st /\ L.pending = pe /\ Post lim B nx nx ρ M (M.set l (some (.loop st' pe' fn n fr ps as bo df))) w { w with heap:=w.heap.setIfInBounds bb.blk (.loop { L with state:=st', pending:=pe' }) } (fun ρ'=>ρ' = ρ):=by
 obtain ⟨b', hb', hB', L, h1, h2, h3, h4, h5, h6, h7, h8, bd, h9, h10⟩:=hm.obj l _ hl
 rw [hb] at hb'; injection hb' with hb'; subst hb'
 have hlt:=(Array.getElem?_eq_some_iff.1 h1).1
 have hother:∀ g, g ≠ bb.blk -> (w.heap.setIfInBounds bb.blk (.loop { L with state:=st', pending:=pe' }))[g]? = w.heap[g]?:=fun g hg=>Array.getElem?_setIfInBounds_ne (Ne.symm hg)
 refine ⟨L, h1, h2, h3, kM hm hfin hnx hll hl hb ⟨rfl, rfl, rfl, by simp, fun k hk=>hother k (by omega)⟩ (fun g _ hg=>hother g hg) ⟨{ L with state:=st', pending:=pe' }, by simp [hlt], rfl, rfl, h4, h5, h6, h7, h8, bd, h9, h10⟩ rfl⟩
end
end
end Go.Bv
end
section
namespace Go.Bv
open Go.RowKit
noncomputable section
section
variable {P:Program} {lim:Nat}
def roundEnd:XE -> Option (Bool × LoopState × Option Code)
 | .normal=>some (true, .ready, none)
 | .ret=>some (false, .done, some .ret)
 | .exit i=>some (false, .done, some (.exit i))
 | .goto i=>some (false, .done, some (.goto i))
 | .pan _=>none
theorem zgE {l nx:Nat} {vs:List VV} {M:Mem} {pe pe1 pe2:Option Code} {fn fn1 fn2 n n1 n2:Nat} {fr fr1 fr2:Fr} {ps ps1 ps2:Array Tmp} {as as1 as2 bo bo1 bo2:Code} {df df1 df2:Nat} {st1 st2:LoopState} {s1 s2:St} {e:XE} {q:Bool} {st':LoopState} {pe':Option Code}
  (hl:M.get l = some (.loop .ready pe fn n fr ps as bo df)) (hlen:vs.length = ps.size) (hps:(ps.toList.all fun t=>xM n (some t)) = true) (hll:lim <= l)
  (has:TS P lim [.code as] { fr:=vz fr ps.toList vs, dfs:=[], up:=.no, M:=M, nx:=nx, rnd:=true, n:=n, fid:=fn } .normal s1)
  (hl1:s1.M.get l = some (.loop .ready pe1 fn1 n1 fr1 ps1 as1 bo1 df1)) (hnx1:s1.nx < 16777215) (hu1:s1.up = .no)
  (hbo:TS P lim [.code bo] { s1 with M:=s1.M.set l (some (.loop .busy pe1 fn1 n1 fr1 ps1 as1 bo1 df1)) } e s2)
  (hl2:s2.M.get l = some (.loop st2 pe2 fn2 n2 fr2 ps2 as2 bo2 df2)) (hnx2:s2.nx < 16777215) (hu2:s2.up = .no) (hre:roundEnd e = some (q, st', pe')):
  ziO P lim l vs M nx (.val (.c (.bool q))) (s2.M.set l (some (.loop st' pe' fn2 n2 fr2 ps2 as2 bo2 df2))) s2.nx:=by
 refine ⟨Nat.le_trans has.1 hbo.1, fun B ρ w us bb c cs hlim hfin hB hf hm hv hb=>?_⟩
 obtain ⟨bb', hb', hB', L, h1, h2, h3, h4, h5, h6, h7, h8, bd, h9, h10⟩:=hm.obj l _ hl
 rw [hb] at hb'; injection hb' with hb'; subst hb'
 refine ⟨L, h1, by rw [hv.length, hlen, h6], ?_⟩
 let b:Frame:={ (default:Frame) with fn:=L.fn, kind:=.normal, roundOf:=some bb.blk }
 have hround:Frame.round bb.blk L.fn (jD L us) L.assign L.body .normal = b.atR { tmps:=jD L us, defers:=[] } [.code as, .beginRound, .code bo]:=by
  simp [Frame.round, Frame.atR, b, h7, h8]
 rw [hround]
 have hfr:FrRel ρ n (vz fr ps.toList vs) (jD L us):=by
  rw [zde, h6]
  exact zar _ _ _ _ _ h5 hv hps
 obtain ⟨a1, w1, cs1, ρ1, g1, r1, x1⟩:=has.2 B n ρ w { tmps:=jD L us, defers:=[] } b [.beginRound, .code bo] (c :: cs) (c :: cs) hlim (hf.left hbo.1) ⟨hB, hfin, hm, hfr, rfl, rfl, rfl, rfl, h4⟩
 have hx1:=g1.rext (hf.left hbo.1)
 have hcs1:cs1 = c :: cs:=by have:=r1.up; rw [hu1] at this; exact this
 subst hcs1
 obtain ⟨L1, k1, k2, k3, ρ1', g1', m1', rfl⟩:=zcn (st':=.busy) (pe':=pe1) (B:=B) r1.mem r1.fin hnx1 hll hl1 (hx1 _ _ hb)
 have hbegin:(Instr.beginRound bb.blk).run P w1 = .ok () { w1 with heap:=w1.heap.setIfInBounds bb.blk (.loop { L1 with state:=.busy, pending:=pe1 }) }:=by
  have hg:(Instr.getLoop bb.blk).run P w1 = .ok L1 w1:=by simp [Instr.getLoop, getObj, Sem.run, k1]
  subst k3
  simp [Instr.beginRound, hg, setObj, Sem.run, k1, k2]
 obtain ⟨a2, w2, cs2, ρ2, g2, r2, x2⟩:=hbo.2 B n ρ1' _ a1 b [] (c :: cs) (c :: cs) (Nat.le_trans hlim g1.le) (hf.right g1) ⟨Nat.le_trans r1.base g1'.below.size, g1'.fin r1.fin, m1', r1.fr, r1.dfs, r1.up, r1.rnd, r1.nn, r1.fid⟩
 have hx2:=g2.rext (hf.right g1)
 have hcs2:cs2 = c :: cs:=by have:=r2.up; rw [hu2] at this; exact this
 subst hcs2
 obtain ⟨L2, j1, j2, j3, ρ2', g2', m2', rfl⟩:=zcn (st':=st') (pe':=pe') (B:=B) r2.mem r2.fin hnx2 hll hl2 (hx2 _ _ (hx1 _ _ hb))
 have hend:(Instr.endRound bb.blk pe').run P w2 = .ok (.bool q) { w2 with heap:=w2.heap.setIfInBounds bb.blk (.loop { L2 with state:=st', pending:=pe' }) }:=by
  have hg:(Instr.getLoop bb.blk).run P w2 = .ok L2 w2:=by simp [Instr.getLoop, getObj, Sem.run, j1]
  cases e <;> simp only[roundEnd, zLs, zLp, reduceCtorEq] at hre <;> obtain ⟨rfl, rfl, rfl⟩:=hre <;> simp [Instr.endRound, hg, setObj, Sem.run, j1]
 refine ⟨_, ρ2', ((g1.trans g1').trans g2).trans g2', m2', .bool q, by simp [VRel, Value.oneCell'], ?_⟩
 refine Steps.trans x1 (Steps.trans (.one (stepR_beginRound rfl hbegin)) ?_)
 cases e with
 | normal=>simp only[roundEnd, zLs, zLp] at hre; obtain ⟨rfl, rfl, rfl⟩:=hre; exact Steps.trans x2 (.one (stepR_round_end rfl rfl hend))
 | ret=>
  simp only[roundEnd, zLs, zLp] at hre; obtain ⟨rfl, rfl, rfl⟩:=hre
  obtain ⟨k0, x2⟩:=x2
  exact Steps.trans x2 (.one (stepR_round_ret rfl rfl hend))
 | exit id=>
  simp only[roundEnd, zLs, zLp] at hre; obtain ⟨rfl, rfl, rfl⟩:=hre
  obtain ⟨k0, y, x2⟩:=x2
  exact Steps.trans x2 (.one (stepR_round_exit rfl rfl (by rw [y]; rfl) hend))
 | goto id=>
  simp only[roundEnd, zLs, zLp] at hre; obtain ⟨rfl, rfl, rfl⟩:=hre
  obtain ⟨k0, y, x2⟩:=x2
  exact Steps.trans x2 (.one (stepR_round_goto rfl rfl (by rw [y]; rfl) hend))
 | pan v=>simp [roundEnd] at hre
theorem zmx {l nx:Nat} {vs:List VV} {M:Mem} {pe pe1:Option Code} {fn fn1 n n1:Nat} {fr fr1:Fr} {ps ps1:Array Tmp} {as as1 bo bo1:Code} {df df1:Nat} {s1 s2:St} {e:XE} {v:VV} {f:Func}
  (hl:M.get l = some (.loop .ready pe fn n fr ps as bo df)) (hlen:vs.length = ps.size) (hps:(ps.toList.all fun t=>xM n (some t)) = true) (hll:lim <= l)
  (has:TS P lim [.code as] { fr:=vz fr ps.toList vs, dfs:=[], up:=.no, M:=M, nx:=nx, rnd:=true, n:=n, fid:=fn } .normal s1)
  (hl1:s1.M.get l = some (.loop .ready pe1 fn1 n1 fr1 ps1 as1 bo1 df1)) (hnx1:s1.nx < 16777215) (hu1:s1.up = .no)
  (hbo:TS P lim [.code bo] { s1 with M:=s1.M.set l (some (.loop .busy pe1 fn1 n1 fr1 ps1 as1 bo1 df1)) } e s2)
  (hu2:s2.up = .no) (hd2:s2.dfs = []) (hfn:P.funcs[fn]? = some f) (he:e = .pan v):
  ziO P lim l vs M nx (.pan v) s2.M s2.nx:=by
 refine ⟨Nat.le_trans has.1 hbo.1, fun B ρ w us bb c cs hlim hfin hB hf hm hv hb=>?_⟩
 obtain ⟨bb', hb', hB', L, h1, h2, h3, h4, h5, h6, h7, h8, bd, h9, h10⟩:=hm.obj l _ hl
 rw [hb] at hb'; injection hb' with hb'; subst hb'
 refine ⟨L, h1, by rw [hv.length, hlen, h6], ?_⟩
 let b:Frame:={ (default:Frame) with fn:=L.fn, kind:=.normal, roundOf:=some bb.blk }
 have hround:Frame.round bb.blk L.fn (jD L us) L.assign L.body .normal = b.atR { tmps:=jD L us, defers:=[] } [.code as, .beginRound, .code bo]:=by
  simp [Frame.round, Frame.atR, b, h7, h8]
 rw [hround]
 have hfr:FrRel ρ n (vz fr ps.toList vs) (jD L us):=by
  rw [zde, h6]
  exact zar _ _ _ _ _ h5 hv hps
 obtain ⟨a1, w1, cs1, ρ1, g1, r1, x1⟩:=has.2 B n ρ w { tmps:=jD L us, defers:=[] } b [.beginRound, .code bo] (c :: cs) (c :: cs) hlim (hf.left hbo.1) ⟨hB, hfin, hm, hfr, rfl, rfl, rfl, rfl, h4⟩
 have hx1:=g1.rext (hf.left hbo.1)
 have hcs1:cs1 = c :: cs:=by have:=r1.up; rw [hu1] at this; exact this
 subst hcs1
 obtain ⟨L1, k1, k2, k3, ρ1', g1', m1', rfl⟩:=zcn (st':=.busy) (pe':=pe1) (B:=B) r1.mem r1.fin hnx1 hll hl1 (hx1 _ _ hb)
 have hbegin:(Instr.beginRound bb.blk).run P w1 = .ok () { w1 with heap:=w1.heap.setIfInBounds bb.blk (.loop { L1 with state:=.busy, pending:=pe1 }) }:=by
  have hg:(Instr.getLoop bb.blk).run P w1 = .ok L1 w1:=by simp [Instr.getLoop, getObj, Sem.run, k1]
  subst k3
  simp [Instr.beginRound, hg, setObj, Sem.run, k1, k2]
 obtain ⟨a2, w2, cs2, ρ2, g2, r2, x2⟩:=hbo.2 B n ρ1' _ a1 b [] (c :: cs) (c :: cs) (Nat.le_trans hlim g1.le) (hf.right g1) ⟨Nat.le_trans r1.base g1'.below.size, g1'.fin r1.fin, m1', r1.fr, r1.dfs, r1.up, r1.rnd, r1.nn, r1.fid⟩
 have hx2:=g2.rext (hf.right g1)
 have hcs2:cs2 = c :: cs:=by have:=r2.up; rw [hu2] at this; exact this
 subst hcs2
 subst he
 obtain ⟨todo, u, hu, x2⟩:=x2
 have hds:=r2.dfs
 rw [hd2] at hds
 refine ⟨_, ρ2, (g1.trans g1').trans g2, r2.mem, u, hu, ?_⟩
 refine Steps.trans x1 (Steps.trans (.one (stepR_beginRound rfl hbegin)) (Steps.trans x2 (.one (step_leave_panicked ⟨rfl, hds, f, ?_⟩))))
 show P.funcs[L.fn]? = some f
 rw [h4]; exact hfn
end
end
end Go.Bv
end
section
namespace Go.Bv
open Go.RowKit
noncomputable section
section
variable {P:Program} {lim:Nat}
def rfM (s:St) (ps:Array Tmp) (as bo:Code):Mem:=(s.M.set s.nx (some (.dfd true))).set (s.nx + 1) (some (.loop .ready none s.fid s.n s.fr ps as bo s.nx))
def znZ:Option Code -> Option XE
 | none=>some .normal
 | some .ret=>some .ret
 | some (.exit i)=>some (.exit i)
 | some (.goto i)=>some (.goto i)
 | _=>none
theorem zoJ {B n:Nat} {ρ:Rho} {w:World} {a:Act} {b:Frame} {cs0 cs:List Frame} {s:St} {ps:Array Tmp} {as bo:Code} (hlim:lim <= s.nx) (hf:Fresh ρ s.nx (s.nx + 2)) (hnx:s.nx + 2 < 16777215) (hs:SR B n ρ s b cs0 cs a w):
  ∃ ρ' b1 b2, ρ' s.nx = some b1 /\ b1.blk = w.heap.size /\ ρ' (s.nx + 1) = some b2 /\ b2.blk = w.heap.size + 1 /\
   Goes lim B s.nx (s.nx + 2) ρ ρ' s.M (rfM s ps as bo) w ((w.alloc (.deferred (some []))).alloc (.loop { state:=.ready, pending:=none, fn:=b.fn, tmps:=a.tmps, params:=ps, assign:=as, body:=bo, defers:=w.heap.size })) /\
   MRel B ρ' (rfM s ps as bo) ((w.alloc (.deferred (some []))).alloc (.loop { state:=.ready, pending:=none, fn:=b.fn, tmps:=a.tmps, params:=ps, assign:=as, body:=bo, defers:=w.heap.size })):=by
 let b1:RB:=⟨w.heap.size, 0, 0⟩
 let b2:RB:=⟨w.heap.size + 1, 0, 0⟩
 obtain ⟨ρ1, g1, m1, e1⟩:Post lim B s.nx (s.nx + 1) ρ s.M (s.M.set s.nx (some (.dfd true))) w (w.alloc (.deferred (some []))) (fun ρ'=>ρ' = upd ρ s.nx b1):=
  zzS (b:=b1) hs.mem hs.fin hs.base hlim (by omega) (hf.left (by omega)) rfl (by simp only[ORel, if_true]; exact heap_alloc_new w _) rfl
 have f1:Fresh ρ1 (s.nx + 1) (s.nx + 1 + 1):=hf.right g1
 have h1:ρ1 s.nx = some b1:=by rw [e1]; simp [upd]
 obtain ⟨ρ2, g2, m2, e2⟩:Post lim B (s.nx + 1) (s.nx + 1 + 1) ρ1 (s.M.set s.nx (some (.dfd true))) (rfM s ps as bo) (w.alloc (.deferred (some []))) ((w.alloc (.deferred (some []))).alloc (.loop { state:=.ready, pending:=none, fn:=b.fn, tmps:=a.tmps, params:=ps, assign:=as, body:=bo, defers:=w.heap.size })) (fun ρ'=>ρ' = upd ρ1 (s.nx + 1) b2):=by
  have hb:b2.blk = (w.alloc (.deferred (some []))).heap.size:=by rw [World.size_alloc]
  refine zzS (b:=b2) m1 (g1.fin hs.fin) (Nat.le_trans hs.base g1.below.size) (by omega) (by omega) f1 hb ?_ rfl
  have hfr:FrRel (upd ρ1 (s.nx + 1) b2) n s.fr a.tmps:=(hs.fr.ext (g1.rext (hf.left (by omega)))).ext (jc (f1 _ (by omega) (by omega)))
  have hh:=heap_alloc_new (w.alloc (.deferred (some []))) (.loop { state:=.ready, pending:=none, fn:=b.fn, tmps:=a.tmps, params:=ps, assign:=as, body:=bo, defers:=w.heap.size })
  rw [← hb] at hh
  refine ⟨_, hh, rfl, rfl, hs.fid, by rw [hs.nn]; exact hfr, rfl, rfl, rfl, b1, ?_, rfl⟩
  exact jc (f1 _ (by omega) (by omega)) _ _ h1
 refine ⟨ρ2, b1, b2, ?_, rfl, by rw [e2]; simp [upd], rfl, g1.trans g2, m2⟩
 rw [e2]; exact jc (f1 _ (by omega) (by omega)) _ _ h1
section
variable {f:Operand} {ps:Array Tmp} {as bo:Code} {g:FuncId} {fs cs1:List VV} {M2:Mem} {nx2:Nat} {s:St}
theorem zlq {out:OX} {B n:Nat} {ρ:Rho} {w:World} {a:Act} {b:Frame} {k:List Item} {cs0 cs:List Frame} (hr:s.rnd = false) (hf:evV s.fr f = some (.fn g fs cs1)) (he:Av.Enters P g) (hnx:s.nx + 2 < 16777215)
  (hcall:zdx P lim g (fs ++ [.yld (s.nx + 1)] ++ cs1) (rfM s ps as bo) (s.nx + 2) out M2 nx2) (hlim:lim <= s.nx) (hfr:Fresh ρ s.nx nx2) (hs:SR B n ρ s b cs0 cs a w):
  ∃ ρ' b1 b2 en w' fr', zak ρ ρ' /\ ρ' s.nx = some b1 /\ ρ' (s.nx + 1) = some b2 /\ Goes lim B s.nx nx2 ρ ρ' s.M M2 w w' /\ MRel B ρ' M2 w' /\ zqO ρ' out en /\
   Comes P (lone (b.atR a (.code (.rangeFunc f ps as bo) :: k)) cs w) (lone fr' (b.atR { a with defers:=[{ target:=.collected b1.blk, args:=#[] }] ++ a.defers } (.inRangeFunc b2.blk :: k) :: cs) w') en /\ fr'.fn = g /\ fr'.leaving P w' en:=by
 have hro:b.roundOf = none:=by have:=hs.rnd; rw [hr] at this; simpa using this
 have hle:=hcall.1
 obtain ⟨ρ1, b1, b2, e1, e2, e3, e4, g1, m1⟩:=zoJ (ps:=ps) (as:=as) (bo:=bo) hlim (hfr.left hle) hnx hs
 have hx1:=g1.rext (hfr.left hle)
 have h1:=(zY hs.fr hf)
 simp only[VRel] at h1
 obtain ⟨us1, us2, ea, h2, h3⟩:=h1
 have hy:VRelL ρ1 [.yld (s.nx + 1)] [.func (.yield b2.blk) #[] #[]]:=by simp only[VRelL, VRel]; exact ⟨_, _, rfl, ⟨b2, e3, rfl⟩, rfl⟩
 obtain ⟨en, w2, fr', ⟨ρ2, g2, m2, ho⟩, hc, hfn, hl⟩:=hcall.2 B ρ1 _ _ (Nat.le_trans hlim g1.le) (g1.fin hs.fin) (Nat.le_trans hs.base g1.below.size) (hfr.right g1) m1 (((h2.ext hx1).append hy).append (h3.ext hx1)) (b.atR { a with defers:=[{ target:=.collected b1.blk, args:=#[] }] ++ a.defers } (.inRangeFunc b2.blk :: k) :: cs)
 have hx2:=g2.rext (hfr.right g1)
 refine ⟨ρ2, b1, b2, en, w2, fr', fun l x h=>hx2 _ _ (hx1 _ _ h), hx2 _ _ e1, hx2 _ _ e3, g1.trans g2, m2, ho, ?_, hfn, hl⟩
 refine Comes.of_steps (.one ?_) hc
 have hent:=run_enterLoop_outer (P:=P) (w:=w) b.fn a.tmps ps as bo
 rw [← hro, ← e2] at hent
 have hb2:b1.blk + 1 = b2.blk:=by omega
 rw [hb2] at hent
 refine stepR_rangeFunc (w₁':=(w.alloc (.deferred (some []))).alloc (.loop { state:=.ready, pending:=none, fn:=b.fn, tmps:=a.tmps, params:=ps, assign:=as, body:=bo, defers:=w.heap.size })) (d:={ target:=.fn (.func g) us2.toArray, args:=(us1 ++ [Value.func (.yield b2.blk) #[] #[]]).toArray }) (by rw [e2] at hent ⊢; exact hent) ?_ ?_
 ·show (resolve a.eval { callee:=.value f, args:=#[.const (.func (.yield b2.blk) #[] #[])], argTypes:=#[] } 0).run P _ = _
  simp only[resolve, ea, Deferred.ofValue, Sem.run_bind, Sem.run_pure, Result.andThen_ok]
  congr 3
  apply Array.toList_inj.1
  simp [Act.eval]
 ·simp only[invoke]
  rw [show (us1 ++ [Value.func (.yield b2.blk) #[] #[]]).toArray ++ us2.toArray = (us1 ++ [Value.func (.yield b2.blk) #[] #[]] ++ us2).toArray from by simp]
  exact Av.enter_run he _ _
theorem TS.rangeFunc {v:VV} {st:LoopState} {pe:Option Code} {fn n:Nat} {fr:Fr} {ps':Array Tmp} {as' bo':Code} {df:Nat} {e:XE} (hr:s.rnd = false) (hf:evV s.fr f = some (.fn g fs cs1)) (he:Av.Enters P g) (hnx:s.nx + 2 < 16777215) (hnx2:nx2 < 16777215)
  (hcall:zdx P lim g (fs ++ [.yld (s.nx + 1)] ++ cs1) (rfM s ps as bo) (s.nx + 2) (.val v) M2 nx2) (hl:M2.get (s.nx + 1) = some (.loop st pe fn n fr ps' as' bo' df)) (hst:st ≠ .busy) (hpe:znZ pe = some e):
  TS P lim [.code (.rangeFunc f ps as bo)] s e { s with M:=M2.set (s.nx + 1) (some (.loop .exhausted pe fn n fr ps' as' bo' df)), nx:=nx2, dfs:=.coll s.nx :: s.dfs }:=by
 refine ⟨by have:=hcall.1; simp only; omega, fun B n' ρ w a b k cs0 cs hlim hfr hs=>?_⟩
 obtain ⟨ρ1, b1, b2, en, w1, fr', hx, e1, e3, g1, m1, ho, hsteps, hfn, hleave⟩:=zlq (k:=k) hr hf he hnx hcall hlim hfr hs
 obtain ⟨u, rfl, hu⟩:=ho
 obtain ⟨L, k1, k2, k3, ρ2, g2, m2, rfl⟩:=zcn (st':=.exhausted) (pe':=pe) (lim:=lim) (B:=B) m1 (g1.fin hs.fin) hnx2 (by omega) hl e3
 have hend:=run_endLoop (P:=P) k1 (by rw [k2]; exact hst)
 have hw:w1.putObj b2.blk (.loop { L with state:=.exhausted }) = { w1 with heap:=w1.heap.setIfInBounds b2.blk (.loop { L with state:=.exhausted, pending:=pe }) }:=by
  subst k3; rfl
 rw [hw, k3] at hend
 refine ⟨{ a with defers:=[{ target:=.collected b1.blk, args:=#[] }] ++ a.defers }, _, cs, ρ2, g1.trans g2, ⟨Nat.le_trans hs.base (Nat.le_trans g1.below.size g2.below.size), (g1.trans g2).fin hs.fin, m2, hs.fr.ext hx, ⟨_, _, rfl, ⟨b1, e1, rfl⟩, hs.dfs.ext hx⟩, hs.up.ext hx, hs.rnd, hs.nn, hs.fid⟩, ?_⟩
 have hst2:Steps P (lone (b.atR a ([.code (.rangeFunc f ps as bo)] ++ k)) cs w) (lone (b.atR { a with defers:=[{ target:=.collected b1.blk, args:=#[] }] ++ a.defers } ((pe.map Item.code).toList ++ k)) cs { w1 with heap:=w1.heap.setIfInBounds b2.blk (.loop { L with state:=.exhausted, pending:=pe }) }):=by
  refine Steps.trans hsteps (Steps.trans (.one ?_) (.one (stepR_endRangeFunc hend)))
  rw [← finish_atR_inRangeFunc b2.blk u]
  exact step_leave_returned hleave
 unfold znZ at hpe
 split at hpe <;> simp only[zLs, reduceCtorEq] at hpe
 ·subst hpe; exact hst2
 ·subst hpe; exact ⟨k, hst2⟩
 ·subst hpe; exact ⟨k, rfl, hst2⟩
 ·subst hpe; exact ⟨k, rfl, hst2⟩
theorem TS.rangeFuncP {v:VV} (hr:s.rnd = false) (hf:evV s.fr f = some (.fn g fs cs1)) (he:Av.Enters P g) (hnx:s.nx + 2 < 16777215)
  (hcall:zdx P lim g (fs ++ [.yld (s.nx + 1)] ++ cs1) (rfM s ps as bo) (s.nx + 2) (.pan v) M2 nx2):
  TS P lim [.code (.rangeFunc f ps as bo)] s (.pan v) { s with M:=M2, nx:=nx2, dfs:=.coll s.nx :: s.dfs }:=by
 refine ⟨by have:=hcall.1; simp only; omega, fun B n' ρ w a b k cs0 cs hlim hfr hs=>?_⟩
 obtain ⟨ρ1, b1, b2, en, w1, fr', hx, e1, e3, g1, m1, ho, hsteps, hfn, hleave⟩:=zlq (k:=k) hr hf he hnx hcall hlim hfr hs
 obtain ⟨u, rfl, hu⟩:=ho
 refine ⟨{ a with defers:=[{ target:=.collected b1.blk, args:=#[] }] ++ a.defers }, _, cs, ρ1, g1, ⟨Nat.le_trans hs.base g1.below.size, g1.fin hs.fin, m1, hs.fr.ext hx, ⟨_, _, rfl, ⟨b1, e1, rfl⟩, hs.dfs.ext hx⟩, hs.up.ext hx, hs.rnd, hs.nn, hs.fid⟩, .inRangeFunc b2.blk :: k, u, hu, ?_⟩
 refine Steps.trans hsteps (.one ?_)
 rw [← Frame.raise_atR]
 exact step_leave_panicked hleave
end
end
end
end Go.Bv
end
