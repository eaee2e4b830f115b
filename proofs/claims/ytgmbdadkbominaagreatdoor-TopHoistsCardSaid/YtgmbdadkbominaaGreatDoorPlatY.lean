import Derived.Test.YtgmbdadkbominaaGreatDoorPlatX
import Derived.Test.YtgmbdadkbominaaGreatDoorPlatH
import Derived.Test.YtgmbdadkbominaaGreatDoorPlatF
import Derived.Laws.Shifts
import Derived.Laws.Entries
import Derived.Laws.Bits128
import Derived.Test.YtgmbdadkbominaaGreatDoorPlatQ
set_option linter.unusedVariables false
set_option linter.unusedSimpArgs false
section
namespace Go.Av
open Go.RowKit
section
variable {α:Type} {enc:α -> Value}
def zFb (enc:α -> Value) (es:List (α × AV)):AV:=.mp (es.map fun p=>enc p.1) (es.map (·.2))
theorem zED {n:NS} {fr:Nat -> EV} {mem:List PO} {k:Nat} {es:List (α × AV)} (ds:List Tmp) (hm:mem[k]? = some (zkO enc (es.map fun p=>(p.1, EV.pub p.2)))) (hd:∀ d ∈ ds, fr d = .mpv k):
  Weak ⟨n, fr, mem⟩ ⟨n, fun t=>bif ds.contains t then .pub (zFb enc es) else fr t, mem.set k .dead⟩:=by
 intro w0 ok0 a w ⟨h0, h1, h2, ok, bs, h3, h4, h5, h6⟩
 have hkm:k < mem.length:=(zLg hm).1
 have hlen:=h5.len
 simp only at hlen h5 h6
 have hkb:k < bs.length:=by omega
 have hb:bs[k]? = some bs[k]:=List.getElem?_eq_getElem hkb
 have ht:Turn bs bs mem (mem.set k .dead):=by
  refine ⟨fun l b0 hb0=>⟨b0, hb0, fun rows' hr=>⟨rows', ?_, Nat.le_refl _, fun _=>rfl⟩⟩, fun l b0 b0' es h0 h0' hr=>?_⟩
  ·by_cases hl:k = l
   ·subst hl; rw [List.getElem?_set_self hkm] at hr; cases hr
   ·rwa [List.getElem?_set_ne hl] at hr
  ·rw [h0] at h0'; injection h0' with h0'
   by_cases hl:k = l
   ·subst hl; rw [List.getElem?_set_self hkm] at hr; cases hr
   ·rw [List.getElem?_set_ne hl] at hr; exact ⟨⟨es, hr⟩, h0'.symm⟩
 have get:∀ (l:Nat) (r:PO), r.live = true -> (mem.set k .dead)[l]? = some r -> l ≠ k /\ mem[l]? = some r:=fun l r hlv hr=>by
  by_cases hl:k = l
  ·subst hl; rw [List.getElem?_set_self hkm] at hr; injection hr with hr; subst hr; cases hlv
  ·rw [List.getElem?_set_ne hl] at hr; exact ⟨fun e=>hl e.symm, hr⟩
 -- what is let now
 let ok':Nat -> Prop:=fun b=>ok b ∨ bs[k].blk = some b
 have hk:∀ b, ok b -> ok' b:=fun b hb=>.inl hb
 refine ⟨h0, h1, h2, ok', bs, fun b hb=>.inl (h3 b hb), fun b hb'=>?_, ⟨by simpa using hlen, fun b hb'=>?_, fun l b rows' hb' hr=>?_, fun l b es hb' hr=>?_, fun l b rows' g hb' hr ho hg=>?_, fun l l' b b' r r' g hb1 hr1 ho1 hb2 hr2 ho2 hg1 hg2=>?_⟩, fun t=>?_, fun p hp=>(h6.2 p hp).mono hk (fun _ _=>rfl) ht⟩
 ·rcases hb' with h | h
  ·exact h4 b h
  ·exact .inr (h5.own' k _ _ b hb hm rfl h).1
 ·rcases hb' with h | h
  ·exact h5.lt b h
  ·exact h5.live_lt hb hm rfl h
 ·obtain ⟨hne, hr⟩:=get l _ rfl hr
  have hrow:=h5.row l b rows' hb' hr
  refine ⟨hrow.size, hrow.nil, hrow.pos, fun g hg=>?_⟩
  obtain ⟨cur, c1, c2, c3, c4, c5⟩:=hrow.blk g hg
  refine ⟨cur, c1, c2, c3, c4, fun i j r x hri hx=>?_⟩
  obtain ⟨u, d1, d2, d3⟩:=c5 i j r x hri hx
  exact ⟨u, d1, d2, d3.mono hk (fun _ _=>rfl) ht⟩
 ·obtain ⟨hne, hr⟩:=get l _ rfl hr
  obtain ⟨g, arr, c1, c2, c3, c4⟩:=h5.mp l b es hb' hr
  refine ⟨g, arr, c1, c2, c3, fun i q x hx=>?_⟩
  obtain ⟨v, d1, d2⟩:=c4 i q x hx
  exact ⟨v, d1, d2.mono hk (fun _ _=>rfl) ht⟩
 ·obtain ⟨hne, hr⟩:=get l rows' ho hr
  obtain ⟨e1, e2⟩:=h5.own' l b rows' g hb' hr ho hg
  refine ⟨e1, fun h=>?_⟩
  rcases h with h | h
  ·exact e2 h
  ·exact hne (h5.dist' l k b _ rows' _ g hb' hr ho hb hm rfl hg h)
 ·obtain ⟨_, hr1⟩:=get l r ho1 hr1
  obtain ⟨_, hr2⟩:=get l' r' ho2 hr2
  exact h5.dist' l l' b b' r r' g hb1 hr1 ho1 hb2 hr2 ho2 hg1 hg2
 ·cases hc:ds.contains t with
  | false=>
   simp only[hc, cond_false]
   exact (h6.1 t).mono hk (fun _ _=>rfl) ht
  | true=>
   simp only[hc, cond_true]
   have hf:FitsE ok w bs mem (fr t) (a.tmps.getD t undef):=h6.1 t
   rw [hd t (by simpa using hc)] at hf
   obtain ⟨b, g, arr, e1, e2, e3, e4, e5, e6, e7⟩:=zn5 h5 hf hm
   rw [hb] at e1
   injection e1 with e1
   subst e1
   simp only[FitsE, zFb, Fits]
   refine ⟨g, arr, _, e3, .inr e2, e4, by rw [e5]; simp, FitsL.of_get (by simpa using e6) fun i x u hx hu=>?_⟩
   rw [List.getElem?_map] at hx
   cases hes:es[i]? with
   | none=>rw [hes] at hx; cases hx
   | some p=>
    rw [hes] at hx
    injection hx with hx
    subst hx
    obtain ⟨v, f1, f2⟩:=e7 i p.1 (EV.pub p.2) (by rw [List.getElem?_map, hes]; rfl)
    rw [List.getElem?_map, Array.getElem?_toList, f1] at hu
    injection hu with hu
    subst hu
    simp only[FitsE] at f2
    exact f2.mono hk (fun _ _=>rfl)
variable [DecidableEq α] {P:Program} {G:Glob} {fr:Nat -> EV} {mem:List PO} {o:Oper}
theorem zE8 {T kt et:TypeId} {x i:Operand} {es:List (α × AV)} {a:α} {kx:AV} {z:Value} (ho:o.op = .lookup T x i false) (hx:evO fr x = .pub (zFb enc es)) (hi:evO fr i = .pub kx) (hk:zrF kx (enc a))
  (hT:P.underlying T = some (.map kt et)) (hK:KeyT P kt enc) (hz:(P.info? et).bind (·.zero) = some z):OpY P G fr mem o (.pub (ziF a (ofV z) es)):=
 jb fun ok bs w act _ hmo hf=>by
  have h1:=hf x (by simp [ho, Op.operands])
  rw [hx] at h1
  simp only[FitsE, zFb, Fits] at h1
  obtain ⟨g, arr, c, hu, _, hg, hkeys, hent⟩:=h1
  have h2:=hf i (by simp [ho, Op.operands])
  rw [hi] at h2
  simp only[FitsE] at h2
  have hkv:=hk _ _ _ h2
  have hobj:(getObj g).run P w = .ok (.map arr c) w:=by simp [getObj, Sem.run, hg]
  have hfind:=hK.find a arr.toList (es.map (·.1)) w (by rw [hkeys, List.map_map]; rfl)
  obtain ⟨g1, g2⟩:=zlI a (ofV z) es
  cases hix:zbd a (es.map (·.1)) with
  | none=>
   rw [hix] at hfind
   have hzv:(zeroValue et).run P w = .ok z w:=by
    rw [Option.bind_eq_some_iff] at hz
    obtain ⟨inf, hi1, hi2⟩:=hz
    simp [zeroValue, typeInfo, hi1, hi2]
   refine ⟨z, ?_, by rw [(g1 hix).1]; simp only[FitsE]; exact ziT z⟩
   simp only[execOp, ho, Instr.lookup, Sem.run_bind, run_underlying hT, Result.andThen_ok, hu, hobj, hkv, hK.check, hfind, Option.bind_none, hzv, Sem.run_pure]
   simp
  | some j=>
   rw [hix] at hfind
   obtain ⟨y, hy, hget, _⟩:=g2 j hix
   obtain ⟨v, hv, hfv⟩:=hent.get (i:=j) (x:=y) (by rw [List.getElem?_map, hy]; rfl)
   rw [List.getElem?_map] at hv
   cases hae:arr.toList[j]? with
   | none=>rw [hae] at hv; cases hv
   | some e=>
    rw [hae] at hv
    injection hv with hv
    subst hv
    simp only[Option.bind_some] at hfind
    rw [hae] at hfind
    refine ⟨e.val, ?_, by rw [hget]; simpa only [FitsE] using hfv⟩
    simp only[execOp, ho, Instr.lookup, Sem.run_bind, run_underlying hT, Result.andThen_ok, hu, hobj, hkv, hK.check, hfind, Option.bind_some, Option.map_some, Sem.run_pure]
    simp
end
end Go.Av
end
section
namespace Go.Av
open Go.RowKit
section
variable {P:Program} {G:Glob} {fr:Nat -> EV} {mem:List PO} {o:Oper}
theorem qi {x:Operand} {l n i j:Nat} {rows:List (List EV)} (ho:o.op = .nilCheck x) (hx:evO fr x = .pp l n i j) (hm:mem[l]? = some (.row rows)) (hn:rows.length = n):OpY P G fr mem o (.pp l n i j):=
 jb fun ok bs w a _ _ hfit=>by
  have h:=hfit x (by simp [ho, Op.operands])
  rw [hx] at h
  simp only[FitsE] at h
  obtain ⟨b, hb, h⟩:=h
  obtain ⟨h1, h2⟩:=h rows hm
  obtain ⟨g, hg, e⟩:=h2 hn
  refine ⟨.pointer (some ⟨g, i * b.size + j, none⟩), by simp [execOp, ho, e], ?_⟩
  simp only[FitsE]
  refine ⟨b, hb, fun rows' hm'=>?_⟩
  rw [hm] at hm'
  injection hm' with hm'
  injection hm' with hm'
  subst hm'
  exact ⟨h1, fun _=>⟨g, hg, rfl⟩⟩
end
end Go.Av
end
section
namespace Go.Av
open Go.RowKit
section
variable {P:Program} {G:Glob} {st:ASt} {o:Oper}
theorem zAZ {ok ok':Nat -> Prop} {w w':World} {bs bs':List PB} {mem mem':List PO} {e:EV} (hl:bs'.length = mem'.length) (hbl:bs.length = mem.length) (hle:mem.length <= mem'.length) (hk:∀ l, l < mem.length -> mem'[l]? = mem[l]?) (h:FitsE ok w bs mem e undef):FitsE ok' w' bs' mem' e undef:=by
 have get:∀ {l:Nat} {b:PB}, bs[l]? = some b -> l < mem.length /\ ∃ b', bs'[l]? = some b':=fun {l b} hb=>by
  have h1:l < bs.length:=(zLg hb).1
  exact ⟨by omega, bs'[l], List.getElem?_eq_getElem (by omega)⟩
 cases e with
 | pub y=>
  have:=zfY (ok':=ok') (w':=w') h
  simpa only [FitsE, xg] using this
 | psl l n=>
  simp only[FitsE] at h ⊢
  obtain ⟨b, hb, h⟩:=h
  obtain ⟨h1, b', hb'⟩:=get hb
  refine ⟨b', hb', fun rows hr=>?_⟩
  rw [hk l h1] at hr
  refine ⟨(h rows hr).1, fun hn=>?_⟩
  have:=(h rows hr).2 hn
  unfold PB.sl at this
  split at this <;> exact absurd this (by simp [undef])
 | pp l n i j=>
  simp only[FitsE] at h ⊢
  obtain ⟨b, hb, h⟩:=h
  obtain ⟨h1, b', hb'⟩:=get hb
  refine ⟨b', hb', fun rows hr=>?_⟩
  rw [hk l h1] at hr
  refine ⟨(h rows hr).1, fun hn=>?_⟩
  obtain ⟨g, _, e⟩:=(h rows hr).2 hn
  exact absurd e (by simp [undef])
 | mpv l=>
  simp only[FitsE] at h ⊢
  obtain ⟨b, hb, h⟩:=h
  obtain ⟨h1, b', hb'⟩:=get hb
  refine ⟨b', hb', fun es hr=>?_⟩
  rw [hk l h1] at hr
  obtain ⟨g, _, e⟩:=h es hr
  exact absurd e (by simp [undef])
 | mix cs=>
  simp only[FitsE] at h
  obtain ⟨vs, e, _⟩:=h
  exact absurd e (by simp [undef])
 | fnm f fs cs=>
  simp only[FitsE] at h
  obtain ⟨us, vs, e, _⟩:=h
  exact absurd e (by simp [undef])
 | tpl cs=>
  simp only[FitsE] at h ⊢
  obtain ⟨vs, e, h⟩:=h
  have hv:vs = []:=by
   cases vs with
   | nil=>rfl
   | cons a l=>exact absurd e (by simp [undef])
  subst hv
  cases cs with
  | nil=>exact ⟨[], e, by simp [FitsEL]⟩
  | cons c cs=>simp [FitsEL] at h
theorem zCf {f:FuncId} {fs cs av:List EV} {r:EV} {mem':List PO} {fop:Operand} {args:Array Operand} {tys:Array TypeId} (ho:o.op = .call { callee:=.value fop, args:=args, argTypes:=tys }) (hd:jO o st.n = true) (hf:zqs (evO st.fr fop) f fs cs) (ha:zjR st.fr args.toList av)
  (hc:zeq P G f (fs ++ av ++ cs) st.mem (.ret r mem')) (hle:st.mem.length <= mem'.length) (hk:∀ l, l < st.mem.length -> mem'[l]? = st.mem[l]?):OpM P G st o ⟨st.n, qX st.fr o.dst r, mem'⟩:=by
 intro w0 ok0 a w hG hok hs K Q hK
 have hsz:=hs.size
 obtain ⟨args', hex, hcall⟩:=zev ho hf ha hc hG hok hs
 obtain ⟨g0, _, _, ok, bs, _, _, g5, g6⟩:=hs
 unfold Oper.wp
 rw [hex]
 simp only[Oper.upon]
 refine hcall.mono fun en w' ⟨ok', bs', q2, q3, q1, q4, q5, q6, u, he, hu⟩=>?_
 subst he
 have q7:Slots ok' w' bs' mem' st.n st.fr a:=by
  refine ⟨fun t=>?_, q5.2⟩
  have h:=q5.1 t
  unfold zeo at h
  cases hb:Nat.blt t st.n.n with
  | true=>rw [hb] at h; exact h
  | false=>
   have hge:¬ t < st.n.n:=fun ht=>by rw [show Nat.blt t st.n.n = true by simpa [Nat.blt_eq] using ht] at hb; cases hb
   have hud:a.tmps.getD t undef = undef:=by simp [Array.getD_eq_getD_getElem?, Array.getElem?_eq_none (by omega:a.tmps.size <= t)]
   have h7:=g6.1 t
   rw [hud] at h7 ⊢
   exact zAZ q4.len g5.len hle hk h7
 refine hK _ _ ⟨(size_put ..).trans hsz, ?_, q1, ok', bs', q2, q3, q4, wo q7 hu (fun d e=>by rw [hsz]; exact (qC hd d e).1)⟩
 have hn:=q6 (a.put o.dst u).tmps (fun t ht=>by
  cases hdd:o.dst with
  | none=>rfl
  | some d=>
   have hne:t ≠ d:=fun e=>(qC hd d hdd).2 (e ▸ ht)
   simp only[Act.put, getD_put, hne, false_and, if_false])
 have e:({ a with tmps:=(a.put o.dst u).tmps }:Act) = a.put o.dst u:=by
  unfold Act.put; split <;> rfl
 rw [e] at hn
 exact hn
theorem zAu {fr fr2:Nat -> EV}:∀ {l:List Operand} {av:List EV}, (∀ y ∈ l, evO fr2 y = evO fr y) -> zjR fr l av -> zjR fr2 l av
 | [], [], _, _=>trivial
 | x :: xs, c :: cs, h, ha=>⟨(h x (List.mem_cons_self ..)).trans ha.1, zAu (fun y hy=>h y (List.mem_cons_of_mem _ hy)) ha.2⟩
 | [], _ :: _, _, ha=>ha.elim
 | _ :: _, [], _, ha=>ha.elim
theorem zBu {fr:Nat -> EV} {mem mem':List PO} {f:FuncId} {av:List EV} {r:EV} {args:Array Operand} {tys:Array TypeId} (ho:o.op = .call { callee:=.value (.func f), args:=args, argTypes:=tys }) (ha:zjR fr args.toList av)
  (hc:zeq P G f av mem (.ret r mem')) (hle:mem.length <= mem'.length) (hk:∀ l, l < mem.length -> mem'[l]? = mem[l]?):OpB P G fr mem o r mem':=fun n fr2 he hd=>
 zCf (st:=⟨n, fr2, mem⟩) (fs:=[]) (cs:=[]) ho hd ⟨rfl, rfl, rfl⟩ (zAu (fun y hy=>he y (by simp only[ho, Op.operands, Call.operands]; first | exact List.mem_cons_of_mem _ hy | (simp; exact .inr (by simpa using hy)) | (simp; simpa using hy))) ha) (by simpa using hc) hle hk
end
end Go.Av
end
section
namespace Go.Av
open Go.RowKit
theorem PO.okL_mono {k k':Nat} (h:k <= k'):∀ {o:PO}, o.okL k -> o.okL k'
 | .dead, _=>by simp [PO.okL]
 | .row rows, hl=>fun r hr x hx=>EV.lt_mono h (hl r hr x hx)
 | .map es, hl=>fun p hp=>EV.lt_mono h (hl p hp)
theorem zBa {n:Nat} {ok:Nat -> Prop} {w:World} {bs:List PB} {mem:List PO} (h:MemOK n ok w bs mem):zbM mem.length mem:=zAC fun o ho=>by
 obtain ⟨l, hl, e⟩:=List.mem_iff_getElem.1 ho
 have hm:mem[l]? = some o:=by rw [List.getElem?_eq_getElem hl, e]
 have hlb:l < bs.length:=by rw [h.len]; exact hl
 have hb:bs[l]? = some bs[l]:=List.getElem?_eq_getElem hlb
 cases o with
 | dead=>simp [PO.okL]
 | row rows=>
  intro r hr x hx
  have hrow:=h.row l _ rows hb hm
  cases hg:bs[l].blk with
  | none=>rw [hrow.nil hg] at hr; cases hr
  | some g=>
   obtain ⟨cur, _, _, _, _, c5⟩:=hrow.blk g hg
   obtain ⟨i, hi, ei⟩:=List.mem_iff_getElem.1 hr
   obtain ⟨j, hj, ej⟩:=List.mem_iff_getElem.1 hx
   obtain ⟨u, _, _, hu⟩:=c5 i j r x (by rw [List.getElem?_eq_getElem hi, ei]) (by rw [List.getElem?_eq_getElem hj, ej])
   rw [← h.len]; exact zcZ hu
 | map es=>
  intro p hp
  obtain ⟨g, arr, _, _, _, c4⟩:=h.mp l _ es hb hm
  obtain ⟨i, hi, ei⟩:=List.mem_iff_getElem.1 hp
  obtain ⟨v, _, hv⟩:=c4 i p.1 p.2 (by rw [List.getElem?_eq_getElem hi, ei])
  rw [← h.len]; exact zcZ hv
section
variable {P:Program} {G:Glob} {f:FuncId} {args:List EV} {mem:List PO} {out:MOut}
theorem zAT (he:Enters P f) (h:zbM mem.length mem -> zeq P G f args mem out):zeq P G f args mem out:=
 ⟨he, fun w0 ok0 ok bs w vs gh hold hG hok ho hf=>(h (zBa ho.mok)).2 w0 ok0 ok bs w vs gh hold hG hok ho hf⟩
theorem qj {fn:Func} {c:Code} (hf:P.funcs[f]? = some fn) (hb:fn.body = some c) (hnm:(fn.name == "runtime.NumGoroutine") = false) (hlen':Nat.ble args.length fn.ntmps = true)
  (h:∀ gh hold, zbM mem.length mem -> jl (r:=none) P G c ⟨⟨fn.ntmps, [], gh, false, hold⟩, frE args, mem⟩ (zp5 P fn gh hold mem.length out)):zeq P G f args mem out:=
 zAT ⟨fn, hf, hnm, by simp [hb]⟩ fun hk=>zo5 hf hb hnm hlen' fun gh hold=>h gh hold hk
theorem zBd {fn:Func} {c:Code} (hf:P.funcs[f]? = some fn) (hb:fn.body = some c) (hnm:(fn.name == "runtime.NumGoroutine") = false) (hlen':Nat.ble args.length fn.ntmps = true)
  (h:∀ gh hold, zbM mem.length mem -> jl (r:=none) P G c ⟨⟨fn.ntmps, [], gh, false, hold⟩, frE args, mem⟩ (zyz P fn gh hold mem.length out)):zeq P G f args mem out:=
 zAT ⟨fn, hf, hnm, by simp [hb]⟩ fun hk=>zwW hf hb hnm hlen' fun gh hold=>h gh hold hk
end
section
variable {P:Program} {G:Glob} {fr:Nat -> EV} {mem:List PO} {o:Oper}
theorem zAP {T U E:TypeId} {x:Operand} {l n i j:Nat} {rows:List (List EV)} (ho:o.op = .binOp .eql T x (.const (.pointer none)) U) (hx:evO fr x = .pp l n i j) (hm:mem[l]? = some (.row rows)) (hn:rows.length = n) (ht:P.underlying T = some (.pointer E)):OpY P G fr mem o (B false):=
 jb fun ok bs w a _ _ hf=>by
  have h:=hf x (by simp [ho, Op.operands])
  rw [hx] at h
  simp only[FitsE] at h
  obtain ⟨b, hb, h⟩:=h
  obtain ⟨g, hg, e⟩:=(h rows hm).2 hn
  refine ⟨.bool false, ?_, wW rfl⟩
  have e2:a.eval (.const (.pointer none)) = .pointer none:=rfl
  have hgd:(eqGuard .eql T x (.const (.pointer none)) (.pointer (some ⟨g, i * b.size + j, none⟩)) (.pointer none)).run P w = .ok () w:=by simp [eqGuard]
  have hd:∀ d:Nat, (Op.equalIn (d + 1) T (.pointer (some ⟨g, i * b.size + j, none⟩)) (.pointer none)).run P w = .ok false w:=fun d=>by simp [Op.equalIn, run_underlying ht]
  have hb:(binOp .eql T (.pointer (some ⟨g, i * b.size + j, none⟩)) (.pointer none)).run P w = .ok (.bool false) w:=by
   simp only[binOp]
   simp [Op.equal, Op.maxDepth, hd 9999]
  simp only[execOp, ho, e, e2, Sem.run_bind, hgd, hb, Result.andThen_ok]; rfl
theorem zBb {T:TypeId} (ho:o.op = .makeMap T none):OpY P G fr mem o (.pub (.mp [] [])):=by
 intro n ok bs w a hG hn hm hf K Q hK
 have hrun:(execOp a.eval o).run P w = .ok (.value (.map (some w.heap.size))) (w.alloc (.map #[] 0)):=by simp [execOp, ho, Instr.makeMap, newObj, Sem.run]
 refine jR hrun (hK _ _ (below_alloc ..) ?_)
 simp only[FitsE, Fits]
 exact ⟨w.heap.size, #[], 0, rfl, zoZ .., heap_alloc_new w _, rfl, by simp [FitsL]⟩
theorem zAl {T:TypeId} {parts:Array (Nat × Operand)} {size:Nat} {zs:List Value} {qs:List (Nat × List EV)} {cs:List EV} (ho:o.op = .build T parts) (hs:ze3 P T size zs)
  (hz:zs.all Value.oneCell' = true) (hq:zbn mem fr parts.toList qs) (hf:zdG (fun i=>some (i * size, size)) (zs.map fun v=>.pub (.v v)) qs = some cs) (hn:∀ x ∈ cs, x ≠ .pub .top):OpY P G fr mem o (.mix cs):=
 jb fun ok bs w a _ _ hfit=>by
  obtain ⟨us, h1, h2, h3⟩:=zhx ho (array_built hs) hz hq hf hn hfit
  exact ⟨_, h1, by simp only[FitsE]; exact ⟨us, rfl, h2, h3⟩⟩
theorem zzQ {T:TypeId} {x y:Operand} {cs:List EV} {c:EV} {n:Nat} {p:Int} (ho:o.op = .index T x y) (hx:evO fr x = .mix cs) (hy:evO fr y = I p) (ht:zeE P T n 1 = true)
  (hel:∀ e, P.underlying T = some (.array n e) -> tyIs P e false 1 = true) (hp:0 <= p) (hlt:p < n) (hc:cs[p.toNat]? = some c):OpY P G fr mem o c:=
 jb fun ok bs w a _ _ hfit=>by
  have h:=hfit x (by simp [ho, Op.operands])
  have h2:=xY (hfit y (by simp [ho, Op.operands])) hy
  rw [hx] at h
  simp only[FitsE] at h
  obtain ⟨vs, e, _, h3⟩:=h
  obtain ⟨el, he, hs⟩:=zkU ht
  obtain ⟨u, h4, h5⟩:=h3.get hc
  have hin:0 <= p /\ p < (n:Int):=⟨hp, hlt⟩
  have hlt':p.toNat < vs.length:=(zLg h4).1
  have h4':vs[p.toNat] = u:=(zLg h4).2
  refine ⟨u, ?_, h5⟩
  simp [execOp, ho, e, h2, Instr.index, asIntOf, run_underlying he, hin, hs, part, isAgg_of (hel el he), hlt', h4']
end
end Go.Av
end
