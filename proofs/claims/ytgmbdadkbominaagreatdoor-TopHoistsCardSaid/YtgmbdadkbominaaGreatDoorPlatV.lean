import Derived.Test.YtgmbdadkbominaaGreatDoorPlatU
import Derived.Test.YtgmbdadkbominaaGreatDoorPlatT
import Derived.Test.YtgmbdadkbominaaGreatDoorPlatQ
import Derived.Test.YtgmbdadkbominaaGreatDoorPlatJ
set_option linter.unusedVariables false
set_option linter.unusedSimpArgs false
section
namespace Go.Av
open Go.RowKit
section
variable {F:Fence} {n:Nat} {P:Program} {md:Region.Mode}
end
section
variable {P:Program} {G:Glob} {C:Cx P G} {ph:Ph} {st:ASt} {Q:Exit -> Ph -> ASt -> Prop}
end
end Go.Av
end
section
namespace Go.Av
open Go.RowKit
section
variable {P:Program} {G:Glob} {fr:Nat -> EV} {mem:List PO} {o:Oper} {st:ASt}
theorem zfu {ok:Nat -> Prop} {w:World} {bs:List PB}:∀ {cs:List EV} {us:List Value}, FitsEL ok w bs mem cs us -> FitsL ok w (cs.map xg) us
 | [], us, h=>by simpa only [List.map_nil, FitsEL, FitsL] using h
 | x :: xs, us, h=>by
  simp only[FitsEL] at h
  obtain ⟨u, us', rfl, h1, h2⟩:=h
  simp only[List.map_cons, FitsL]
  refine ⟨u, us', rfl, ?_, zfu h2⟩
  cases x with
  | pub y=>simpa only [xg, FitsE] using h1
  | _=>simp only[xg, Fits]
end
end Go.Av
end
section
namespace Go.Av
open Go.RowKit
section
variable {P:Program} {G:Glob} {fr:Nat -> EV} {mem:List PO} {o:Oper}
end
section
variable {P:Program} {G:Glob} {fr:Nat -> EV} {mem:List PO} {o:Oper}
def zq4:EV -> AV -> Prop
 | .pub y, x=>AVle y x
 | .mix cs, x=>AVle (.agg (cs.map xg)) x
 | _, x=>x = .top
def zod (fr:Nat -> EV):List Operand -> List AV -> Prop
 | [], xs=>xs = []
 | y :: ys, xs=>∃ x xs', xs = x :: xs' /\ zq4 (evO fr y) x /\ zod fr ys xs'
theorem zmi {ok:Nat -> Prop} {w:World} {bs:List PB} {e:EV} {x:AV} {u:Value} (h:zq4 e x) (hf:FitsE ok w bs mem e u):Fits ok w x u:=by
  cases e with
  | pub y=>simp only[FitsE] at hf; exact h _ _ _ hf
  | mix cs=>
    simp only[FitsE] at hf
    obtain ⟨vs, e, e1, e2⟩:=hf
    refine h ok w u ?_
    simp only[Fits]
    exact ⟨vs, e, e1, zfu e2⟩
  | _ => have : x = .top := h
         subst this; simp only[Fits]
theorem zeO {args:Array Operand} {tys:Array TypeId} {f:FuncId} {av:List AV} {r:AV} (ho:o.op = .call { callee:=.value (.func f), args:=args, argTypes:=tys }) (ha:zod fr args.toList av) (hc:ACall P G f av r):OpY P G fr mem o (.pub r):=by
  intro n ok bs w a hG hn hm hfit K Q hK
  have h4:FitsL ok w av (args.toList.map a.eval):=by
    have key:∀ (l:List Operand) (xs:List AV), (∀ y ∈ l, y ∈ o.op.operands) -> zod fr l xs -> FitsL ok w xs (l.map a.eval):=by
      intro l
      induction l with
      | nil => intro xs _ h; have : xs = [] := h
               subst this; simp [FitsL]
      | cons y l ih=>
        intro xs hm h
        obtain ⟨x, xs', rfl, h1, h2⟩:=h
        simp only[List.map_cons, FitsL]
        exact ⟨_, _, rfl, zmi h1 (hfit y (hm y (by simp))), ih xs' (fun z hz=>hm z (by simp [hz])) h2⟩
    exact key _ _ (fun y hy=>by simp only[ho, Op.operands, Call.operands, Array.mem_append]; exact .inr (by simpa using hy)) ha
  unfold Oper.wp
  rw [call_exec (us:=[]) (vs:=[]) ho hc.1 rfl]
  simp only[Oper.upon]
  refine (hc.2 ok w _ hG hm.lt (by simpa using h4)).mono fun en w' ⟨u, h5, h6, h7⟩=>?_
  subst h5
  exact hK u w' h6 (by simpa only [FitsE] using h7)
end
theorem zAC {k:Nat}:∀ {l:List PO}, (∀ o ∈ l, o.okL k) -> zbM k l
 | [], _=>trivial
 | o :: l, h=>⟨h o (by simp), zAC fun x hx=>h x (by simp [hx])⟩
end Go.Av
end
section
namespace Go.Av
open Go.RowKit
theorem zmJ {n:NS} {fr:Nat -> EV} {mem:List PO} {k:Nat} {cs:List AV} (d:Tmp) (hm:mem[k]? = some (.row [cs.map .pub])) (hd:fr d = .pp k 1 0 0):
  Weak ⟨n, fr, mem⟩ ⟨n, qX fr (some d) (.pub (.ptr cs)), mem.set k .dead⟩:=by
 intro w0 ok0 a w ⟨h0, h1, h2, ok, bs, h3, h4, h5, h6⟩
 have hkm:k < mem.length:=(zLg hm).1
 have hlen:=h5.len
 simp only at hlen h5 h6
 have hkb:k < bs.length:=by omega
 have hb:bs[k]? = some bs[k]:=List.getElem?_eq_getElem hkb
 have ht:Turn bs bs mem (mem.set k .dead):=by
  refine ⟨fun l b0 hb0=>⟨b0, hb0, fun rows' hr=>⟨rows', ?_, Nat.le_refl _, fun _=>rfl⟩⟩, fun l b0 b0' es h0 h0' hr=>?_⟩
  ·by_cases hl:k = l
   ·subst hl; rw [List.getElem?_set_self hkm] at hr; cases hr
   ·rwa [List.getElem?_set_ne hl] at hr
  ·rw [h0] at h0'; injection h0' with h0'
   by_cases hl:k = l
   ·subst hl; rw [List.getElem?_set_self hkm] at hr; cases hr
   ·rw [List.getElem?_set_ne hl] at hr; exact ⟨⟨es, hr⟩, h0'.symm⟩
 have get:∀ (l:Nat) (r:PO), r.live = true -> (mem.set k .dead)[l]? = some r -> l ≠ k /\ mem[l]? = some r:=fun l r hlv hr=>by
  by_cases hl:k = l
  ·subst hl; rw [List.getElem?_set_self hkm] at hr; injection hr with hr; subst hr; cases hlv
  ·rw [List.getElem?_set_ne hl] at hr; exact ⟨fun e=>hl e.symm, hr⟩
 -- what is let now
 let ok':Nat -> Prop:=fun b=>ok b ∨ bs[k].blk = some b
 have hk:∀ b, ok b -> ok' b:=fun b hb=>.inl hb
 refine ⟨h0, h1, h2, ok', bs, fun b hb=>.inl (h3 b hb), fun b hb'=>?_, ⟨by simpa using hlen, fun b hb'=>?_, fun l b rows' hb' hr=>?_, fun l b es hb' hr=>?_, fun l b rows' g hb' hr ho hg=>?_, fun l l' b b' r r' g hb1 hr1 ho1 hb2 hr2 ho2 hg1 hg2=>?_⟩, fun t=>?_, fun p hp=>(h6.2 p hp).mono hk (fun _ _=>rfl) ht⟩
 ·rcases hb' with h | h
  ·exact h4 b h
  ·exact .inr (h5.own k _ _ b hb hm h).1
 ·rcases hb' with h | h
  ·exact h5.lt b h
  ·exact h5.own_lt hb hm h
 ·obtain ⟨hne, hr⟩:=get l _ rfl hr
  have hrow:=h5.row l b rows' hb' hr
  refine ⟨hrow.size, hrow.nil, hrow.pos, fun g hg=>?_⟩
  obtain ⟨cur, c1, c2, c3, c4, c5⟩:=hrow.blk g hg
  refine ⟨cur, c1, c2, c3, c4, fun i j r x hri hx=>?_⟩
  obtain ⟨u, d1, d2, d3⟩:=c5 i j r x hri hx
  exact ⟨u, d1, d2, d3.mono hk (fun _ _=>rfl) ht⟩
 ·obtain ⟨hne, hr⟩:=get l _ rfl hr
  obtain ⟨g, arr, c1, c2, c3, c4⟩:=h5.mp l b es hb' hr
  refine ⟨g, arr, c1, c2, c3, fun i q x hx=>?_⟩
  obtain ⟨v, d1, d2⟩:=c4 i q x hx
  exact ⟨v, d1, d2.mono hk (fun _ _=>rfl) ht⟩
 ·obtain ⟨hne, hr⟩:=get l rows' ho hr
  obtain ⟨e1, e2⟩:=h5.own' l b rows' g hb' hr ho hg
  refine ⟨e1, fun h=>?_⟩
  rcases h with h | h
  ·exact e2 h
  ·exact hne (h5.dist' l k b _ rows' _ g hb' hr ho hb hm rfl hg h)
 ·obtain ⟨_, hr1⟩:=get l r ho1 hr1
  obtain ⟨_, hr2⟩:=get l' r' ho2 hr2
  exact h5.dist' l l' b b' r r' g hb1 hr1 ho1 hb2 hr2 ho2 hg1 hg2
 ·simp only[zai]
  by_cases htd:t = d
  ·subst htd
   simp only[if_true]
   have hf:FitsE ok w bs mem (fr t) (a.tmps.getD t undef):=h6.1 t
   rw [hd] at hf
   simp only[FitsE] at hf ⊢
   obtain ⟨b, hb', hf⟩:=hf
   rw [hb] at hb'
   injection hb' with hb'
   subst hb'
   obtain ⟨g, hg, e⟩:=(hf _ hm).2 rfl
   have hr:=h5.row k _ _ hb hm
   obtain ⟨cur, c1, c2, c3, c4, c5⟩:=hr.blk g hg
   simp only[Fits]
   refine ⟨g, 0, by rw [e]; simp, .inr hg, FitsC.of_get fun i x hx=>?_⟩
   obtain ⟨u, d1, d2, d3⟩:=c5 0 i _ (.pub x) rfl (by rw [List.getElem?_map, hx]; rfl)
   refine ⟨u, ?_, d2, ?_⟩
   ·simp only[World.cell?, c1, Nat.zero_add]
    simpa using d1
   ·simp only[FitsE] at d3
    exact d3.mono hk (fun _ _=>rfl)
  ·simp only[htd, if_false]
   exact (h6.1 t).mono hk (fun _ _=>rfl) ht
end Go.Av
end
