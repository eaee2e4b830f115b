import Derived.Test.YtgmbdadkbominaaGreatDoorPlatB
import Derived.Lib.ItoaNum
import Derived.Deep.AppendSrc
import Derived.Lib.ConvBytes
import Derived.Laws.MakeOwn
import Derived.Laws.BytesArg
import GoSem.Core.Utf8
import Derived.Lib.UnsafeStr
set_option linter.unusedVariables false
set_option linter.unusedSimpArgs false
section
namespace Go.Bv
open Go.RowKit
inductive VV where
 | top
 | c (x:Value)
 | ptr (l off:Nat)
 | sl (l off n:Nat) (cap:Option Nat) (e:Nat)
 | agg (cs:List VV)
 | tup (cs:List VV)
 | fn (f:FuncId) (first caps:List VV)
 | yld (l:Nat)
 | ifc (t:TypeId) (x:VV)
 | mp (l:Nat)
 deriving Inhabited
structure RB where
 blk:Nat
 base:Nat
 cap:Nat
abbrev Rho:=Nat -> Option RB
mutual
def VRel (ρ:Rho):VV -> Value -> Prop
 | .top, _=>True
 | .c x, u=>u = x /\ x.oneCell' = true
 | .ptr l off, u=>∃ b, ρ l = some b /\ u = .pointer (some ⟨b.blk, b.base + off, none⟩)
 | .sl l off n cap e, u=>∃ b, ρ l = some b /\ ∃ c, u = .slice (some ⟨b.blk, b.base + off, none⟩) n c /\ n <= c /\ c <= maxLen /\ match cap with
  | some c'=>c = c'
  | none=>0 < e /\ off + c * e = b.cap
 | .agg cs, u=>∃ vs:List Value, u = .agg vs.toArray /\ (∀ v ∈ vs, v.oneCell' = true) /\ VRelL ρ cs vs
 | .tup cs, u=>∃ vs:List Value, u = .tuple vs.toArray /\ VRelL ρ cs vs
 | .fn f a b, u=>∃ us vs:List Value, u = .func (.func f) us.toArray vs.toArray /\ VRelL ρ a us /\ VRelL ρ b vs
 | .yld l, u=>∃ b, ρ l = some b /\ u = .func (.yield b.blk) #[] #[]
 | .ifc t x, u=>∃ v, u = .iface t v /\ VRel ρ x v
 | .mp l, u=>∃ b, ρ l = some b /\ u = .map (some b.blk)
def VRelL (ρ:Rho):List VV -> List Value -> Prop
 | [], vs=>vs = []
 | x :: xs, vs=>∃ u us, vs = u :: us /\ VRel ρ x u /\ VRelL ρ xs us
end
def zak (ρ ρ':Rho):Prop:=∀ l b, ρ l = some b -> ρ' l = some b
mutual
theorem VRel.ext {ρ ρ':Rho} (h:zak ρ ρ'):∀ (x:VV) (u:Value), VRel ρ x u -> VRel ρ' x u
 | .top, _, _=>by simp only[VRel]
 | .c x, u, hx=>by simpa only [VRel] using hx
 | .ptr l off, u, hx=>by simp only[VRel] at hx ⊢; obtain ⟨b, h1, h2⟩:=hx; exact ⟨b, h l b h1, h2⟩
 | .sl l off n cap e, u, hx=>by simp only[VRel] at hx ⊢; obtain ⟨b, h1, h2⟩:=hx; exact ⟨b, h l b h1, h2⟩
 | .agg cs, u, hx=>by simp only[VRel] at hx ⊢; obtain ⟨vs, h1, h2, h3⟩:=hx; exact ⟨vs, h1, h2, VRelL.ext h cs vs h3⟩
 | .tup cs, u, hx=>by simp only[VRel] at hx ⊢; obtain ⟨vs, h1, h3⟩:=hx; exact ⟨vs, h1, VRelL.ext h cs vs h3⟩
 | .fn f a b, u, hx=>by simp only[VRel] at hx ⊢; obtain ⟨us, vs, h1, h2, h3⟩:=hx; exact ⟨us, vs, h1, VRelL.ext h a us h2, VRelL.ext h b vs h3⟩
 | .yld l, u, hx=>by simp only[VRel] at hx ⊢; obtain ⟨b, h1, h2⟩:=hx; exact ⟨b, h l b h1, h2⟩
 | .ifc t x, u, hx=>by simp only[VRel] at hx ⊢; obtain ⟨v, h1, h2⟩:=hx; exact ⟨v, h1, VRel.ext h x v h2⟩
 | .mp l, u, hx=>by simp only[VRel] at hx ⊢; obtain ⟨b, h1, h2⟩:=hx; exact ⟨b, h l b h1, h2⟩
theorem VRelL.ext {ρ ρ':Rho} (h:zak ρ ρ'):∀ (l:List VV) (us:List Value), VRelL ρ l us -> VRelL ρ' l us
 | [], us, hx=>by simpa only [VRelL] using hx
 | x :: xs, us, hx=>by
  simp only[VRelL] at hx ⊢
  obtain ⟨u, us', e, h1, h2⟩:=hx
  exact ⟨u, us', e, VRel.ext h x u h1, VRelL.ext h xs us' h2⟩
end
theorem VRelL.length {ρ:Rho}:∀ {l:List VV} {us:List Value}, VRelL ρ l us -> us.length = l.length
 | [], us, h=>by simp only[VRelL] at h; simp [h]
 | x :: xs, us, h=>by
  simp only[VRelL] at h
  obtain ⟨u, us', rfl, _, h2⟩:=h
  simp [VRelL.length h2]
theorem VRelL.get {ρ:Rho}:∀ {l:List VV} {us:List Value} {i:Nat} {x:VV}, VRelL ρ l us -> l[i]? = some x -> ∃ u, us[i]? = some u /\ VRel ρ x u
 | [], us, i, x, h, hx=>by simp at hx
 | y :: ys, us, i, x, h, hx=>by
  simp only[VRelL] at h
  obtain ⟨u, us', rfl, h1, h2⟩:=h
  cases i with
  | zero=>simp at hx; subst hx; exact ⟨u, by simp, h1⟩
  | succ i=>simp at hx; simpa using VRelL.get h2 hx
theorem VRelL.of_get {ρ:Rho}:∀ {l:List VV} {us:List Value}, us.length = l.length -> (∀ (i:Nat) (x:VV) (u:Value), l[i]? = some x -> us[i]? = some u -> VRel ρ x u) -> VRelL ρ l us
 | [], us, h, _=>by simp only[VRelL]; exact List.eq_nil_of_length_eq_zero (by simpa using h)
 | y :: ys, us, h, hx=>by
  cases us with
  | nil=>simp at h
  | cons u us=>
   simp only[VRelL]
   exact ⟨u, us, rfl, hx 0 y u (by simp) (by simp), VRelL.of_get (by simpa using h) (fun i x u' h1 h2=>hx (i + 1) x u' (by simpa using h1) (by simpa using h2))⟩
theorem VRelL.append {ρ:Rho}:∀ {l l':List VV} {us us':List Value}, VRelL ρ l us -> VRelL ρ l' us' -> VRelL ρ (l ++ l') (us ++ us')
 | [], l', us, us', h, h'=>by simp only[VRelL] at h; subst h; simpa using h'
 | x :: xs, l', us, us', h, h'=>by
  simp only[VRelL] at h
  obtain ⟨u, us2, rfl, h1, h2⟩:=h
  simp only[List.cons_append, VRelL]
  exact ⟨u, us2 ++ us', rfl, h1, VRelL.append h2 h'⟩
structure VE where
 key:VV
 val:VV
 born:Nat
inductive Tr (α:Type) where
 | lf
 | nd (l:Tr α) (x:Option α) (r:Tr α)
noncomputable def Tr.get {α:Type} (t:Tr α):Nat -> Option α:=
 @Tr.rec α (fun _=>Nat -> Option α) (fun _=>none) (fun _ x _ ihl ihr i=>@Nat.rec (fun _=>Option α) x (fun _ _=>@Nat.rec (fun _=>Option α) (ihr (Nat.sub (Nat.div i 2) 1)) (fun _ _=>ihl (Nat.div i 2)) (Nat.mod i 2)) i) t
noncomputable def Tr.outL {α:Type} (x:Option α) (r t:Tr α):Tr α:=@Tr.rec α (fun _=>Tr α) (.nd .lf x r) (fun a b c _ _=>.nd (.nd a b c) x r) t
noncomputable def Tr.outR {α:Type} (x:Option α) (l t:Tr α):Tr α:=@Tr.rec α (fun _=>Tr α) (.nd l x .lf) (fun a b c _ _=>.nd l x (.nd a b c)) t
noncomputable def Tr.mk {α:Type} (v:Option α) (k:Nat):Nat -> Tr α:=
 @Nat.rec (fun _=>Nat -> Tr α) (fun _=>.lf) (fun _ ih i=>@Nat.rec (fun _=>Tr α) (.nd .lf v .lf) (fun _ _=>@Nat.rec (fun _=>Tr α) (Tr.outR none .lf (ih (Nat.sub (Nat.div i 2) 1))) (fun _ _=>Tr.outL none .lf (ih (Nat.div i 2))) (Nat.mod i 2)) i) k
noncomputable def Tr.set {α:Type} (t:Tr α) (i:Nat) (v:Option α):Tr α:=
 @Tr.rec α (fun _=>Nat -> Tr α) (fun i=>Tr.mk v 24 i) (fun l x r ihl ihr i=>@Nat.rec (fun _=>Tr α) (.nd l v r) (fun _ _=>@Nat.rec (fun _=>Tr α) (Tr.outR x l (ihr (Nat.sub (Nat.div i 2) 1))) (fun _ _=>Tr.outL x r (ihl (Nat.div i 2))) (Nat.mod i 2)) i) t i
theorem Tr.outL_eq {α:Type} (x:Option α) (r t:Tr α):Tr.outL x r t = .nd t x r:=by cases t <;> rfl
theorem Tr.outR_eq {α:Type} (x:Option α) (l t:Tr α):Tr.outR x l t = .nd l x t:=by cases t <;> rfl
theorem Tr.get_lf {α:Type} (i:Nat):(Tr.lf:Tr α).get i = none:=rfl
theorem Tr.get_nd {α:Type} (l r:Tr α) (x:Option α) (i:Nat):(Tr.nd l x r).get i = if i = 0 then x else if i % 2 = 1 then l.get (i / 2) else r.get (i / 2 - 1):=by
 cases i with
 | zero=>rfl
 | succ i=>
  rw [if_neg (by omega)]
  have e:(Tr.nd l x r).get (i + 1) = @Nat.rec (fun _=>Option α) (r.get ((i + 1) / 2 - 1)) (fun _ _=>l.get ((i + 1) / 2)) ((i + 1) % 2):=rfl
  rw [e]
  rcases Nat.mod_two_eq_zero_or_one (i + 1) with h | h
  ·rw [h]; rfl
  ·rw [h]; rfl
theorem Tr.mk_succ {α:Type} (v:Option α) (k i:Nat):Tr.mk v (k + 1) i = if i = 0 then .nd .lf v .lf else if i % 2 = 1 then .nd (Tr.mk v k (i / 2)) none .lf else .nd .lf none (Tr.mk v k (i / 2 - 1)):=by
 cases i with
 | zero=>rfl
 | succ i=>
  rw [if_neg (by omega)]
  have e:Tr.mk v (k + 1) (i + 1) = @Nat.rec (fun _=>Tr α) (Tr.outR none .lf (Tr.mk v k ((i + 1) / 2 - 1))) (fun _ _=>Tr.outL none .lf (Tr.mk v k ((i + 1) / 2))) ((i + 1) % 2):=rfl
  rw [e, Tr.outL_eq, Tr.outR_eq]
  rcases Nat.mod_two_eq_zero_or_one (i + 1) with h | h
  ·rw [h]; rfl
  ·rw [h]; rfl
theorem Tr.set_nd {α:Type} (l r:Tr α) (x v:Option α) (i:Nat):(Tr.nd l x r).set i v = if i = 0 then .nd l v r else if i % 2 = 1 then .nd (l.set (i / 2) v) x r else .nd l x (r.set (i / 2 - 1) v):=by
 cases i with
 | zero=>rfl
 | succ i=>
  rw [if_neg (by omega)]
  have e:(Tr.nd l x r).set (i + 1) v = @Nat.rec (fun _=>Tr α) (Tr.outR x l (r.set ((i + 1) / 2 - 1) v)) (fun _ _=>Tr.outL x r (l.set ((i + 1) / 2) v)) ((i + 1) % 2):=rfl
  rw [e, Tr.outL_eq, Tr.outR_eq]
  rcases Nat.mod_two_eq_zero_or_one (i + 1) with h | h
  ·rw [h]; rfl
  ·rw [h]; rfl
theorem Tr.get_mk {α:Type} (v:Option α):∀ (k i j:Nat), i < 2 ^ k - 1 -> (Tr.mk v k i).get j = if j = i then v else none:=by
 intro k
 induction k with
 | zero=>intro i j hi; simp at hi
 | succ k ih=>
  intro i j hi
  have hp:2 ^ (k + 1) = 2 * 2 ^ k:=by rw [Nat.pow_succ, Nat.mul_comm]
  rw [Tr.mk_succ]
  by_cases hi0:i = 0
  ·rw [if_pos hi0, Tr.get_nd, Tr.get_lf, Tr.get_lf]
   subst hi0
   by_cases hj:j = 0 <;> simp [hj]
  ·rw [if_neg hi0]
   by_cases hi1:i % 2 = 1
   ·rw [if_pos hi1, Tr.get_nd, Tr.get_lf]
    by_cases hj0:j = 0
    ·rw [if_pos hj0, if_neg (by omega)]
    ·rw [if_neg hj0]
     by_cases hj1:j % 2 = 1
     ·rw [if_pos hj1, ih _ _ (by omega)]
      by_cases e:j = i
      ·rw [if_pos (by omega), if_pos e]
      ·rw [if_neg (by omega), if_neg e]
     ·rw [if_neg hj1, if_neg (by omega)]
   ·rw [if_neg hi1, Tr.get_nd, Tr.get_lf]
    by_cases hj0:j = 0
    ·rw [if_pos hj0, if_neg (by omega)]
    ·rw [if_neg hj0]
     by_cases hj1:j % 2 = 1
     ·rw [if_pos hj1, if_neg (by omega)]
     ·rw [if_neg hj1, ih _ _ (by omega)]
      by_cases e:j = i
      ·rw [if_pos (by omega), if_pos e]
      ·rw [if_neg (by omega), if_neg e]
theorem Tr.get_set {α:Type} (t:Tr α) (i j:Nat) (v:Option α) (hi:i < 16777215):(t.set i v).get j = if j = i then v else t.get j:=by
 induction t generalizing i j with
 | lf=>exact Tr.get_mk v 24 i j (by omega)
 | nd l x r ihl ihr=>
  rw [Tr.set_nd, Tr.get_nd l r x j]
  by_cases hi0:i = 0
  ·rw [if_pos hi0, Tr.get_nd]
   subst hi0
   by_cases hj:j = 0 <;> simp [hj]
  ·rw [if_neg hi0]
   by_cases hi1:i % 2 = 1
   ·rw [if_pos hi1, Tr.get_nd]
    by_cases hj0:j = 0
    ·rw [if_pos hj0, if_neg (by omega), if_pos hj0]
    ·rw [if_neg hj0]
     by_cases hj1:j % 2 = 1
     ·rw [if_pos hj1, ihl _ _ (by omega), if_neg hj0, if_pos hj1]
      by_cases e:j = i
      ·rw [if_pos (by omega), if_pos e]
      ·rw [if_neg (by omega), if_neg e]
     ·rw [if_neg hj1, if_neg (by omega), if_neg hj0, if_neg hj1]
   ·rw [if_neg hi1, Tr.get_nd]
    by_cases hj0:j = 0
    ·rw [if_pos hj0, if_neg (by omega), if_pos hj0]
    ·rw [if_neg hj0]
     by_cases hj1:j % 2 = 1
     ·rw [if_pos hj1, if_neg (by omega), if_neg hj0, if_pos hj1]
     ·rw [if_neg hj1, ihr _ _ (by omega), if_neg hj0, if_neg hj1]
      by_cases e:j = i
      ·rw [if_pos (by omega), if_pos e]
      ·rw [if_neg (by omega), if_neg e]
theorem qI {a b:Nat}:Nat.beq a b = true ↔ a = b:=⟨Nat.eq_of_beq_eq_true, fun h=>by subst h; exact Nat.beq_refl a⟩
theorem zaq {a b:Nat}:Nat.beq a b = false ↔ a ≠ b:=by rw [← Bool.not_eq_true, qI]
theorem qo {a b:Nat}:Nat.blt a b = true ↔ a < b:=by simp [Nat.blt_eq]
structure V8 (α:Type) where
 x0:α
 x1:α
 x2:α
 x3:α
 x4:α
 x5:α
 x6:α
 x7:α
abbrev Oc (α:Type):=V8 (V8 (V8 α))
inductive Sel (α:Type) where
 | mk (f:V8 α -> α)
inductive Upd (α:Type) where
 | mk (f:α -> V8 α -> V8 α)
def sel (α:Type) (k:Nat):Sel α:=match k with
 | 0=>.mk fun t=>t.x0
 | 1=>.mk fun t=>t.x1
 | 2=>.mk fun t=>t.x2
 | 3=>.mk fun t=>t.x3
 | 4=>.mk fun t=>t.x4
 | 5=>.mk fun t=>t.x5
 | 6=>.mk fun t=>t.x6
 | 7=>.mk fun t=>t.x7
 | _=>.mk fun t=>t.x0
def zkY (α:Type) (k:Nat):Upd α:=match k with
 | 0=>.mk fun c t=>match t with | ⟨a0, a1, a2, a3, a4, a5, a6, a7⟩=>⟨c, a1, a2, a3, a4, a5, a6, a7⟩
 | 1=>.mk fun c t=>match t with | ⟨a0, a1, a2, a3, a4, a5, a6, a7⟩=>⟨a0, c, a2, a3, a4, a5, a6, a7⟩
 | 2=>.mk fun c t=>match t with | ⟨a0, a1, a2, a3, a4, a5, a6, a7⟩=>⟨a0, a1, c, a3, a4, a5, a6, a7⟩
 | 3=>.mk fun c t=>match t with | ⟨a0, a1, a2, a3, a4, a5, a6, a7⟩=>⟨a0, a1, a2, c, a4, a5, a6, a7⟩
 | 4=>.mk fun c t=>match t with | ⟨a0, a1, a2, a3, a4, a5, a6, a7⟩=>⟨a0, a1, a2, a3, c, a5, a6, a7⟩
 | 5=>.mk fun c t=>match t with | ⟨a0, a1, a2, a3, a4, a5, a6, a7⟩=>⟨a0, a1, a2, a3, a4, c, a6, a7⟩
 | 6=>.mk fun c t=>match t with | ⟨a0, a1, a2, a3, a4, a5, a6, a7⟩=>⟨a0, a1, a2, a3, a4, a5, c, a7⟩
 | 7=>.mk fun c t=>match t with | ⟨a0, a1, a2, a3, a4, a5, a6, a7⟩=>⟨a0, a1, a2, a3, a4, a5, a6, c⟩
 | _=>.mk fun _ t=>t
def znD (α:Type) (k:Nat):Upd (V8 α):=match k with
 | 0=>.mk fun c t=>match t, c with | ⟨a0, a1, a2, a3, a4, a5, a6, a7⟩, ⟨b0, b1, b2, b3, b4, b5, b6, b7⟩=>⟨⟨b0, b1, b2, b3, b4, b5, b6, b7⟩, a1, a2, a3, a4, a5, a6, a7⟩
 | 1=>.mk fun c t=>match t, c with | ⟨a0, a1, a2, a3, a4, a5, a6, a7⟩, ⟨b0, b1, b2, b3, b4, b5, b6, b7⟩=>⟨a0, ⟨b0, b1, b2, b3, b4, b5, b6, b7⟩, a2, a3, a4, a5, a6, a7⟩
 | 2=>.mk fun c t=>match t, c with | ⟨a0, a1, a2, a3, a4, a5, a6, a7⟩, ⟨b0, b1, b2, b3, b4, b5, b6, b7⟩=>⟨a0, a1, ⟨b0, b1, b2, b3, b4, b5, b6, b7⟩, a3, a4, a5, a6, a7⟩
 | 3=>.mk fun c t=>match t, c with | ⟨a0, a1, a2, a3, a4, a5, a6, a7⟩, ⟨b0, b1, b2, b3, b4, b5, b6, b7⟩=>⟨a0, a1, a2, ⟨b0, b1, b2, b3, b4, b5, b6, b7⟩, a4, a5, a6, a7⟩
 | 4=>.mk fun c t=>match t, c with | ⟨a0, a1, a2, a3, a4, a5, a6, a7⟩, ⟨b0, b1, b2, b3, b4, b5, b6, b7⟩=>⟨a0, a1, a2, a3, ⟨b0, b1, b2, b3, b4, b5, b6, b7⟩, a5, a6, a7⟩
 | 5=>.mk fun c t=>match t, c with | ⟨a0, a1, a2, a3, a4, a5, a6, a7⟩, ⟨b0, b1, b2, b3, b4, b5, b6, b7⟩=>⟨a0, a1, a2, a3, a4, ⟨b0, b1, b2, b3, b4, b5, b6, b7⟩, a6, a7⟩
 | 6=>.mk fun c t=>match t, c with | ⟨a0, a1, a2, a3, a4, a5, a6, a7⟩, ⟨b0, b1, b2, b3, b4, b5, b6, b7⟩=>⟨a0, a1, a2, a3, a4, a5, ⟨b0, b1, b2, b3, b4, b5, b6, b7⟩, a7⟩
 | 7=>.mk fun c t=>match t, c with | ⟨a0, a1, a2, a3, a4, a5, a6, a7⟩, ⟨b0, b1, b2, b3, b4, b5, b6, b7⟩=>⟨a0, a1, a2, a3, a4, a5, a6, ⟨b0, b1, b2, b3, b4, b5, b6, b7⟩⟩
 | _=>.mk fun _ t=>t
inductive SelO (α:Type) where
 | mk (f:Oc α -> Option α)
inductive UpdO (α:Type) where
 | mk (f:α -> Oc α -> Oc α)
def Sel.run {α:Type}:Sel α -> V8 α -> α | .mk f, t=>f t
def Upd.run {α:Type}:Upd α -> α -> V8 α -> V8 α | .mk f, c, t=>f c t
def SelO.run {α:Type}:SelO α -> Oc α -> Option α | .mk f, t=>f t
def UpdO.run {α:Type}:UpdO α -> α -> Oc α -> Oc α | .mk f, c, t=>f c t
def zor (α:Type) (i:Nat):SelO α:=match Nat.blt i 512 with
 | true=>match sel (V8 (V8 α)) (i / 64), sel (V8 α) (i / 8 % 8), sel α (i % 8) with
  | .mk f, .mk g, .mk h=>.mk fun t=>some (h (g (f t)))
 | false=>.mk fun _=>none
def zrb (α:Type) (i:Nat):UpdO α:=match Nat.blt i 512 with
 | true=>match sel (V8 (V8 α)) (i / 64), sel (V8 α) (i / 8 % 8), zkY α (i % 8), znD α (i / 8 % 8), znD (V8 α) (i / 64) with
  | .mk f, .mk g, .mk h, .mk p, .mk q=>.mk fun v t=>q (p (h v (g (f t))) (f t)) t
 | false=>.mk fun _ t=>t
def Oc.get {α:Type} (t:Oc α) (i:Nat):Option α:=(zor α i).run t
def Oc.set {α:Type} (t:Oc α) (i:Nat) (v:α):Oc α:=(zrb α i).run v t
def oc8 {α:Type} (x:α):V8 α:=⟨x, x, x, x, x, x, x, x⟩
def Oc.all {α:Type} (x:α):Oc α:=oc8 (oc8 (oc8 x))
theorem zfb {α:Type} (a b:Nat) (ha:a < 8) (hb:b < 8) (c:α) (t:V8 α):(sel α a).run ((zkY α b).run c t) = if a = b then c else (sel α a).run t:=by
 have hA:a = 0 ∨ a = 1 ∨ a = 2 ∨ a = 3 ∨ a = 4 ∨ a = 5 ∨ a = 6 ∨ a = 7:=by omega
 have hB:b = 0 ∨ b = 1 ∨ b = 2 ∨ b = 3 ∨ b = 4 ∨ b = 5 ∨ b = 6 ∨ b = 7:=by omega
 rcases hA with rfl | rfl | rfl | rfl | rfl | rfl | rfl | rfl <;> rcases hB with rfl | rfl | rfl | rfl | rfl | rfl | rfl | rfl <;> rfl
theorem zlt {α:Type} (b:Nat) (hb:b < 8) (c:V8 α) (t:V8 (V8 α)):(znD α b).run c t = (zkY (V8 α) b).run c t:=by
 have hB:b = 0 ∨ b = 1 ∨ b = 2 ∨ b = 3 ∨ b = 4 ∨ b = 5 ∨ b = 6 ∨ b = 7:=by omega
 rcases hB with rfl | rfl | rfl | rfl | rfl | rfl | rfl | rfl <;> rfl
theorem Oc.get_eq {α:Type} (t:Oc α) (i:Nat) (h:i < 512):t.get i = some ((sel α (i % 8)).run ((sel (V8 α) (i / 8 % 8)).run ((sel (V8 (V8 α)) (i / 64)).run t))):=by
 unfold Oc.get zor
 rw [show Nat.blt i 512 = true from by rw [Nat.blt_eq]; exact h]
 cases sel (V8 (V8 α)) (i / 64); cases sel (V8 α) (i / 8 % 8); cases sel α (i % 8); rfl
theorem Oc.get_big {α:Type} (t:Oc α) (i:Nat) (h:¬ i < 512):t.get i = none:=by
 unfold Oc.get zor
 rw [show Nat.blt i 512 = false from by rw [← Bool.not_eq_true, Nat.blt_eq]; exact h]
 rfl
theorem Oc.set_eq {α:Type} (t:Oc α) (i:Nat) (v:α) (h:i < 512):t.set i v = (zkY (V8 (V8 α)) (i / 64)).run ((zkY (V8 α) (i / 8 % 8)).run ((zkY α (i % 8)).run v ((sel (V8 α) (i / 8 % 8)).run ((sel (V8 (V8 α)) (i / 64)).run t))) ((sel (V8 (V8 α)) (i / 64)).run t)) t:=by
 rw [← zlt _ (by omega), ← zlt _ (by omega)]
 unfold Oc.set zrb
 rw [show Nat.blt i 512 = true from by rw [Nat.blt_eq]; exact h]
 cases sel (V8 (V8 α)) (i / 64); cases sel (V8 α) (i / 8 % 8); cases zkY α (i % 8); cases znD α (i / 8 % 8); cases znD (V8 α) (i / 64); rfl
theorem Oc.get_set {α:Type} (t:Oc α) (i j:Nat) (v x:α) (hi:i < 512) (h:(t.set i v).get j = some x):if j = i then x = v else t.get j = some x:=by
 by_cases hj:j < 512
 ·rw [Oc.set_eq _ _ _ hi, Oc.get_eq _ _ hj, zfb _ _ (by omega) (by omega)] at h
  rw [Oc.get_eq _ _ hj]
  by_cases h1:j / 64 = i / 64
  ·rw [if_pos h1, zfb _ _ (by omega) (by omega)] at h
   by_cases h2:j / 8 % 8 = i / 8 % 8
   ·rw [if_pos h2, zfb _ _ (by omega) (by omega)] at h
    by_cases h3:j % 8 = i % 8
    ·rw [if_pos h3] at h
     rw [if_pos (by omega)]
     injection h with h; exact h.symm
    ·rw [if_neg h3] at h
     rw [if_neg (by intro e; exact h3 (by rw [e])), h1, h2]; exact h
   ·rw [if_neg h2] at h
    rw [if_neg (by intro e; exact h2 (by rw [e])), h1]; exact h
  ·rw [if_neg h1] at h
   rw [if_neg (by intro e; exact h1 (by rw [e]))]; exact h
 ·rw [Oc.get_big _ _ hj] at h; cases h
theorem Oc.all_get {α:Type} (x y:α) (i:Nat) (h:(Oc.all x).get i = some y):y = x:=by
 by_cases hi:i < 512
 ·rw [Oc.get_eq _ _ hi] at h
  have s1:∀ (β:Type) (z:β) (k:Nat), (sel β k).run (oc8 z) = z:=fun β z k=>by
   unfold sel
   split <;> rfl
  unfold Oc.all at h
  rw [s1, s1, s1] at h
  injection h with h; exact h.symm
 ·rw [Oc.get_big _ _ hi] at h; cases h
end Go.Bv
end
section
namespace Go.Bv
open Go.RowKit
noncomputable section
def zlL:Nat -> List Value
 | 0=>Lib.pow10Tab.map fun z=>Value.int .u64 z
 | _=>[]
inductive VO where
 | cells (cs:List VV)
 | map (es:List VE) (clock:Nat)
 | loop (state:LoopState) (pending:Option Code) (fn:FuncId) (n:Nat) (fr:Oc VV) (params:Array Tmp) (assign body:Code) (dfr:Nat)
 | dfd (full:Bool)
 | iter (s:ByteArray) (pos:Nat)
 | glob (g k:Nat)
 | ro (cs:List VV)
 | tc (T:TypeId) (k:Option Nat) (cs:List VV)
def VO.still:VO -> Bool
 | .ro _=>true
 | .glob _ _=>true
 | _=>false
abbrev Mem:=Tr VO
abbrev Fr:=Oc VV
def FrRel (ρ:Rho) (n:Nat) (fr:Fr) (tm:Array Value):Prop:=tm.size = n /\ ∀ t x, fr.get t = some x -> VRel ρ x (tm.getD t undef)
def CRel (ρ:Rho) (arr:Array Value) (base:Nat) (cs:List VV):Prop:=∀ (i:Nat) (v:VV), cs[i]? = some v -> ∃ u, arr[base + i]? = some u /\ u.oneCell' = true /\ VRel ρ v u
def ERel (ρ:Rho) (es:List VE) (l:List MapEntry):Prop:=l.length = es.length /\ ∀ (i:Nat) (e:VE) (m:MapEntry), es[i]? = some e -> l[i]? = some m -> VRel ρ e.key m.key /\ VRel ρ e.val m.val /\ m.born = e.born
def ORel (ρ:Rho) (o:VO) (b:RB) (w:World):Prop:=match o with
 | .cells cs=>∃ arr T fz, w.heap[b.blk]? = some (.cells arr T fz) /\ (fz = (0, 0) ∨ arr.size <= fz.1) /\ arr.size = b.base + b.cap /\ cs.length <= b.cap /\ CRel ρ arr b.base cs
 | .map es clock=>∃ arr, w.heap[b.blk]? = some (.map arr clock) /\ ERel ρ es arr.toList
 | .loop state pending fn n fr params assign body dfr=>∃ L:Loop, w.heap[b.blk]? = some (.loop L) /\ L.state = state /\ L.pending = pending /\ L.fn = fn /\ FrRel ρ n fr L.tmps /\ L.params = params /\ L.assign = assign /\ L.body = body /\
   ∃ bd, ρ dfr = some bd /\ L.defers = bd.blk
 | .dfd full=>w.heap[b.blk]? = some (.deferred (if full then some [] else none))
 | .iter s pos=>b.base = 0 /\ w.heap[b.blk]? = some (.stringIter s pos)
 | .glob g k=>b.blk = g /\ ∃ T fz, w.heap[b.blk]? = some (.cells (zlL k).toArray T fz)
 | .ro cs=>b.blk < w.heap.size /\ ∀ (i:Nat) (v:VV), cs[i]? = some v -> ∃ u, w.cell? ⟨b.blk, b.base + i, none⟩ = some u /\ u.oneCell' = true /\ VRel ρ v u
 | .tc T k cs=>b.base = 0 /\ ∃ arr, w.heap[b.blk]? = some (.cells arr T (0, 0)) /\ arr.size = b.cap /\ cs.length <= b.cap /\ CRel ρ arr 0 cs /\ ∀ n, k = some n -> b.cap = n
structure MRel (B:Nat) (ρ:Rho) (M:Mem) (w:World):Prop where
 obj:∀ l o, M.get l = some o -> ∃ b, ρ l = some b /\ B <= b.blk /\ ORel ρ o b w
 dist:∀ l l' o o' b b', M.get l = some o -> M.get l' = some o' -> ρ l = some b -> ρ l' = some b' -> b.blk = b'.blk -> (o.still && o'.still) = false -> l = l'
structure Goes (lim B nx nx':Nat) (ρ ρ':Rho) (M M':Mem) (w w':World):Prop where
 ext:∀ l, (l < nx ∨ nx' <= l) -> ρ' l = ρ l
 le:nx <= nx'
 below:Below B w w'
 unch:∀ g, g < w.heap.size -> (∀ l b o, lim <= l -> l < nx -> M.get l = some o -> ρ l = some b -> b.blk ≠ g) -> w'.heap[g]? = w.heap[g]?
 old:∀ l, l < lim -> M'.get l = M.get l
 dead:∀ l, l < nx -> M.get l = none -> M'.get l = none
 new:∀ l b o, nx <= l -> M'.get l = some o -> ρ' l = some b -> w.heap.size <= b.blk ∨ ∃ l0 b0 o0, lim <= l0 /\ l0 < nx /\ M.get l0 = some o0 /\ ρ l0 = some b0 /\ b0.blk = b.blk
 fin:(∀ l, nx <= l -> M.get l = none) -> ∀ l, nx' <= l -> M'.get l = none
def Fresh (ρ:Rho) (nx nx':Nat):Prop:=∀ l, nx <= l -> l < nx' -> ρ l = none
section
variable {lim B nx nx' nx'':Nat} {ρ ρ' ρ'':Rho} {M M' M'':Mem} {w w' w'':World}
theorem Goes.rext (h:Goes lim B nx nx' ρ ρ' M M' w w') (hf:Fresh ρ nx nx'):zak ρ ρ':=fun l b hb=>by
 rcases Nat.lt_or_ge l nx with h1 | h1
 ·rw [h.ext l (.inl h1)]; exact hb
 ·rcases Nat.lt_or_ge l nx' with h2 | h2
  ·rw [hf l h1 h2] at hb; cases hb
  ·rw [h.ext l (.inr h2)]; exact hb
theorem Fresh.left (h:Fresh ρ nx nx'') (h2:nx' <= nx''):Fresh ρ nx nx':=fun l h1 h3=>h l h1 (by omega)
theorem Fresh.right (h:Fresh ρ nx nx'') (hg:Goes lim B nx nx' ρ ρ' M M' w w'):Fresh ρ' nx' nx'':=fun l h1 h3=>by
 rw [hg.ext l (.inr h1)]; exact h l (by have:=hg.le; omega) h3
theorem Goes.refl (hfin:∀ l, nx <= l -> M.get l = none):Goes lim B nx nx ρ ρ M M w w:=
 ⟨fun _ _=>rfl, Nat.le_refl _, Below.refl _ _, fun _ _ _=>rfl, fun _ _=>rfl, fun _ _ h=>h, fun l b o h1 h2 _=>(by rw [hfin l h1] at h2; cases h2), fun h=>h⟩
theorem Goes.trans (h:Goes lim B nx nx' ρ ρ' M M' w w') (k:Goes lim B nx' nx'' ρ' ρ'' M' M'' w' w''):Goes lim B nx nx'' ρ ρ'' M M'' w w'':=by
 have hle:=h.le
 have kle:=k.le
 refine ⟨fun l hl'=>?_, by omega, h.below.trans k.below, fun g hg hno=>?_, fun l hl'=>?_, fun l h1 h2=>?_, fun l b o h1 h2 h3=>?_, fun hfin=>k.fin (h.fin hfin)⟩
 ·rw [k.ext l (by omega), h.ext l (by omega)]
 ·rw [k.unch g (Nat.lt_of_lt_of_le hg h.below.size) fun l b o h1 h2 h3 h4=>?_, h.unch g hg hno]
  rcases Nat.lt_or_ge l nx with h5 | h5
  ·rw [h.ext l (.inl h5)] at h4
   cases hm:M.get l with
   | none=>rw [h.dead l h5 hm] at h3; cases h3
   | some o0=>exact hno l b o0 h1 h5 hm h4
  ·rcases h.new l b o h5 h3 h4 with h6 | ⟨l0, b0, o0, a1, a2, a3, a4, a5⟩
   ·omega
   ·rw [← a5]; exact hno l0 b0 o0 a1 a2 a3 a4
 ·rw [k.old l hl', h.old l hl']
 ·exact k.dead l (by omega) (h.dead l h1 h2)
 ·rcases Nat.lt_or_ge l nx' with h5 | h5
  ·have h6:ρ'' l = ρ' l:=k.ext l (.inl h5)
   cases hm:M'.get l with
   | none=>rw [k.dead l h5 hm] at h2; cases h2
   | some o0=>exact h.new l b o0 h1 hm (by rw [← h6]; exact h3)
  ·rcases k.new l b o h5 h2 h3 with h6 | ⟨l0, b0, o0, a1, a2, a3, a4, a5⟩
   ·exact .inl (Nat.le_trans h.below.size h6)
   ·rcases Nat.lt_or_ge l0 nx with h7 | h7
    ·cases hm:M.get l0 with
     | none=>rw [h.dead l0 h7 hm] at a3; cases a3
     | some o1=>exact .inr ⟨l0, b0, o1, a1, h7, hm, by rw [← h.ext l0 (.inl h7)]; exact a4, a5⟩
    ·rcases h.new l0 b0 o0 h7 a3 a4 with h8 | h8
     ·exact .inl (by omega)
     ·obtain ⟨l1, b1, o1, c1, c2, c3, c4, c5⟩:=h8
      exact .inr ⟨l1, b1, o1, c1, c2, c3, c4, by omega⟩
theorem FrRel.ext {n:Nat} {fr:Fr} {tm:Array Value} (hr:zak ρ ρ') (h:FrRel ρ n fr tm):FrRel ρ' n fr tm:=⟨h.1, fun t x hx=>(h.2 t x hx).ext hr⟩
theorem CRel.ext {arr:Array Value} {base:Nat} {cs:List VV} (hr:zak ρ ρ') (h:CRel ρ arr base cs):CRel ρ' arr base cs:=fun i v hv=>by
 obtain ⟨u, h1, h2, h3⟩:=h i v hv; exact ⟨u, h1, h2, h3.ext hr⟩
theorem ERel.ext {es:List VE} {l:List MapEntry} (hr:zak ρ ρ') (h:ERel ρ es l):ERel ρ' es l:=⟨h.1, fun i e m h1 h2=>by
 obtain ⟨a, b, c⟩:=h.2 i e m h1 h2; exact ⟨a.ext hr, b.ext hr, c⟩⟩
theorem ORel.keep {o:VO} {b:RB} (hr:zak ρ ρ') (hw:w'.heap[b.blk]? = w.heap[b.blk]?) (h:ORel ρ o b w):ORel ρ' o b w':=by
 cases o with
 | cells cs=>obtain ⟨arr, T, fz, h1, hz, h2, h3, h4⟩:=h; exact ⟨arr, T, fz, by rw [hw]; exact h1, hz, h2, h3, h4.ext hr⟩
 | map es clock=>obtain ⟨arr, h1, h2⟩:=h; exact ⟨arr, by rw [hw]; exact h1, h2.ext hr⟩
 | loop st pe fn n fr ps as bo df=>
  obtain ⟨L, h1, h2, h3, h4, h5, h6, h7, h8, bd, h9, h10⟩:=h
  exact ⟨L, by rw [hw]; exact h1, h2, h3, h4, h5.ext hr, h6, h7, h8, bd, hr _ _ h9, h10⟩
 | dfd full=>simp only[ORel] at h ⊢; rw [hw]; exact h
 | iter s pos=>simp only[ORel] at h ⊢; rw [hw]; exact h
 | glob g k=>obtain ⟨e, T, fz, h1⟩:=h; exact ⟨e, T, fz, by rw [hw]; exact h1⟩
 | ro cs=>
  obtain ⟨h1, h2⟩:=h
  refine ⟨?_, fun i v hv=>?_⟩
  ·have:w.heap[b.blk]? = some w.heap[b.blk]:=by simp [h1]
   rw [this] at hw
   exact (Array.getElem?_eq_some_iff.1 hw).1
  ·obtain ⟨u, h3, h4, h5⟩:=h2 i v hv
   exact ⟨u, by rw [World.cell?_of_block (w:=w) hw]; exact h3, h4, h5.ext hr⟩
 | tc T k cs=>obtain ⟨e, arr, h1, h2, h3, h4, h5⟩:=h; exact ⟨e, arr, by rw [hw]; exact h1, h2, h3, h4.ext hr, h5⟩
theorem ORel.lt {o:VO} {b:RB} (h:ORel ρ o b w):b.blk < w.heap.size:=by
 cases o with
 | cells cs=>obtain ⟨arr, T, fz, h1, _⟩:=h; exact (Array.getElem?_eq_some_iff.1 h1).1
 | map es clock=>obtain ⟨arr, h1, _⟩:=h; exact (Array.getElem?_eq_some_iff.1 h1).1
 | loop st pe fn n fr ps as bo df=>obtain ⟨L, h1, _⟩:=h; exact (Array.getElem?_eq_some_iff.1 h1).1
 | dfd full=>exact (Array.getElem?_eq_some_iff.1 h).1
 | iter s pos=>exact (Array.getElem?_eq_some_iff.1 h.2).1
 | glob g k=>obtain ⟨_, T, fz, h1⟩:=h; exact (Array.getElem?_eq_some_iff.1 h1).1
 | ro cs=>exact h.1
 | tc T k cs=>obtain ⟨_, arr, h1, _⟩:=h; exact (Array.getElem?_eq_some_iff.1 h1).1
def Post (lim B nx nx':Nat) (ρ:Rho) (M M':Mem) (w w':World) (K:Rho -> Prop):Prop:=∃ ρ', Goes lim B nx nx' ρ ρ' M M' w w' /\ MRel B ρ' M' w' /\ K ρ'
theorem xP {K:Rho -> Prop} (hm:MRel B ρ M w) (hfin:∀ l, nx <= l -> M.get l = none) (hb:Below w.heap.size w w') (hB:B <= w.heap.size) (hK:K ρ):Post lim B nx nx ρ M M w w' K:=by
 refine ⟨ρ, ⟨fun _ _=>rfl, Nat.le_refl _, hb.mono hB, fun g hg _=>hb.block g hg, fun _ _=>rfl, fun _ _ h=>h, fun l b o h1 h2 _=>(by rw [hfin l h1] at h2; cases h2), fun h=>h⟩, ⟨fun l o h1=>?_, hm.dist⟩, hK⟩
 obtain ⟨b, h2, h3, h4⟩:=hm.obj l o h1
 exact ⟨b, h2, h3, h4.keep (fun _ _ h=>h) (hb.block _ h4.lt)⟩
def upd (ρ:Rho) (l:Nat) (b:RB):Rho:=fun k=>if k = l then some b else ρ k
theorem jc {l:Nat} {b:RB} (h:ρ l = none):zak ρ (upd ρ l b):=fun k c hk=>by
 unfold upd
 by_cases e:k = l
 ·subst e; rw [h] at hk; cases hk
 ·rw [if_neg e]; exact hk
theorem zzS {K:Rho -> Prop} {o:VO} {x:Obj} {b:RB} (hm:MRel B ρ M w) (hfin:∀ l, nx <= l -> M.get l = none) (hB:B <= w.heap.size) (hlim:lim <= nx) (hnx:nx < 16777215) (hf:Fresh ρ nx (nx + 1)) (hb:b.blk = w.heap.size)
  (ho:ORel (upd ρ nx b) o b (w.alloc x)) (hK:K (upd ρ nx b)):Post lim B nx (nx + 1) ρ M (M.set nx (some o)) w (w.alloc x) K:=by
 have hfr:=hf nx (Nat.le_refl _) (by omega)
 have hget:∀ l, (M.set nx (some o)).get l = if l = nx then some o else M.get l:=fun l=>Tr.get_set M nx l _ hnx
 refine ⟨upd ρ nx b, ⟨fun l hl=>?_, by omega, (Av.below_alloc w x).mono hB, fun g hg _=>(Av.below_alloc w x).block g hg, fun l hl=>?_, fun l h1 h2=>?_, fun l b' o' h1 h2 h3=>?_, fun hfin l hl=>?_⟩, ⟨fun l o' h1=>?_, fun l l' o1 o2 b1 b2 h1 h2 h3 h4 h5 hs=>?_⟩, hK⟩
 ·unfold upd; rw [if_neg (by omega)]
 ·rw [hget, if_neg (by omega)]
 ·rw [hget, if_neg (by omega)]; exact h2
 ·rw [hget] at h2
  by_cases e:l = nx
  ·subst e; simp [upd] at h3; subst h3; exact .inl (by omega)
  ·rw [if_neg e, hfin l h1] at h2; cases h2
 ·rw [hget, if_neg (by omega)]; exact hfin l (by omega)
 ·rw [hget] at h1
  by_cases e:l = nx
  ·subst e; simp at h1; subst h1; exact ⟨b, by simp [upd], by omega, ho⟩
  ·rw [if_neg e] at h1
   obtain ⟨b1, h2, h3, h4⟩:=hm.obj l o' h1
   exact ⟨b1, jc hfr _ _ h2, h3, h4.keep (jc hfr) ((Av.below_alloc w x).block _ h4.lt)⟩
 ·rw [hget] at h1 h2
  by_cases e:l = nx <;> by_cases e':l' = nx
  ·omega
  ·subst e
   rw [if_neg e'] at h2
   simp [upd] at h3; subst h3
   obtain ⟨b3, c2, c3, c4⟩:=hm.obj l' o2 h2
   have:=jc (b:=b) hfr _ _ c2
   rw [this] at h4; injection h4 with h4; subst h4
   have:=c4.lt; omega
  ·subst e'
   rw [if_neg e] at h1
   simp [upd] at h4; subst h4
   obtain ⟨b3, c2, c3, c4⟩:=hm.obj l o1 h1
   have:=jc (b:=b) hfr _ _ c2
   rw [this] at h3; injection h3 with h3; subst h3
   have:=c4.lt; omega
  ·rw [if_neg e] at h1
   rw [if_neg e'] at h2
   simp only[upd, if_neg e, if_neg e'] at h3 h4
   exact hm.dist l l' o1 o2 b1 b2 h1 h2 h3 h4 h5 hs
theorem kM {K:Rho -> Prop} {l:Nat} {o o':VO} {b:RB} (hm:MRel B ρ M w) (hfin:∀ l, nx <= l -> M.get l = none) (hnx:nx < 16777215) (hl1:lim <= l) (hl:M.get l = some o) (hb:ρ l = some b)
  (hbelow:Below B w w') (hother:∀ g, g < w.heap.size -> g ≠ b.blk -> w'.heap[g]? = w.heap[g]?) (ho:ORel ρ o' b w') (hK:K ρ) (hno:o.still = false:=by rfl) (hno':o'.still = false:=by rfl):Post lim B nx nx ρ M (M.set l (some o')) w w' K:=by
 have hln:l < nx:=by
  rcases Nat.lt_or_ge l nx with h | h
  ·exact h
  ·rw [hfin l h] at hl; cases hl
 have hget:∀ k, (M.set l (some o')).get k = if k = l then some o' else M.get k:=fun k=>Tr.get_set M l k _ (by omega)
 refine ⟨ρ, ⟨fun _ _=>rfl, Nat.le_refl _, hbelow, fun g hg hno=>hother g hg (fun e=>hno l b o hl1 hln hl hb e.symm), fun k hk=>?_, fun k h1 h2=>?_, fun k b' o1 h1 h2 h3=>?_, fun hfin k hk=>?_⟩, ⟨fun k o1 h1=>?_, fun k k' o1 o2 b1 b2 h1 h2 h3 h4 h5 hs=>?_⟩, hK⟩
 ·rw [hget, if_neg (by omega)]
 ·rw [hget]
  by_cases e:k = l
  ·subst e; rw [hl] at h2; cases h2
  ·rw [if_neg e]; exact h2
 ·rw [hget, if_neg (by omega), hfin k h1] at h2; cases h2
 ·rw [hget, if_neg (by omega)]; exact hfin k hk
 ·rw [hget] at h1
  by_cases e:k = l
  ·subst e; simp at h1; subst h1
   obtain ⟨b', c1, c2, _⟩:=hm.obj k o hl
   rw [hb] at c1; injection c1 with c1; subst c1
   exact ⟨b, hb, c2, ho⟩
  ·rw [if_neg e] at h1
   obtain ⟨b1, h2, h3, h4⟩:=hm.obj k o1 h1
   exact ⟨b1, h2, h3, h4.keep (fun _ _ h=>h) (hother _ h4.lt (fun e2=>e (hm.dist k l o1 o b1 b h1 hl h2 hb e2 (by rw [hno, Bool.and_false]))))⟩
 ·rw [hget] at h1 h2
  have key:∀ k o1, (if k = l then some o' else M.get k) = some o1 -> ∃ o0, M.get k = some o0 /\ o0.still = o1.still:=fun k o1 h=>by
   by_cases e:k = l
   ·subst e
    simp at h
    subst h
    exact ⟨o, hl, by rw [hno, hno']⟩
   ·rw [if_neg e] at h; exact ⟨o1, h, rfl⟩
  obtain ⟨p1, q1, s1⟩:=key k o1 h1
  obtain ⟨p2, q2, s2⟩:=key k' o2 h2
  exact hm.dist k k' p1 p2 b1 b2 q1 q2 h3 h4 h5 (by rw [s1, s2]; exact hs)
end
end
end Go.Bv
end
section
namespace Go.Bv
open Go.RowKit
noncomputable section
def zjs:Value -> VV
 | .agg cs=>if cs.toList.all Value.oneCell' then .agg (cs.toList.map .c) else .top
 | .tuple vs=>if vs.toList.all Value.oneCell' then .tup (vs.toList.map .c) else .top
 | x=>.c x
theorem zcV {ρ:Rho}:∀ (l:List Value), l.all Value.oneCell' = true -> VRelL ρ (l.map .c) l
 | [], _=>by simp [VRelL]
 | x :: xs, h=>by
  simp only[List.all_cons, zLa] at h
  simp only[List.map_cons, VRelL]
  exact ⟨x, xs, rfl, by simp [VRel, h.1], zcV xs h.2⟩
theorem zee {ρ:Rho} (x:Value):VRel ρ (zjs x) x:=by
 cases x with
 | agg cs=>
  show VRel ρ (if cs.toList.all Value.oneCell' = true then .agg (cs.toList.map .c) else .top) _
  by_cases h:cs.toList.all Value.oneCell' = true
  ·rw [if_pos h]
   simp only[VRel]
   exact ⟨cs.toList, by simp, fun u hu=>by rw [List.all_eq_true] at h; exact h u hu, zcV _ h⟩
  ·rw [if_neg h]; simp [VRel]
 | tuple cs=>
  show VRel ρ (if cs.toList.all Value.oneCell' = true then .tup (cs.toList.map .c) else .top) _
  by_cases h:cs.toList.all Value.oneCell' = true
  ·rw [if_pos h]
   simp only[VRel]
   exact ⟨cs.toList, by simp, zcV _ h⟩
  ·rw [if_neg h]; simp [VRel]
 | _=>simp [zjs, VRel, Value.oneCell']
def cst:VV -> Option Value
 | .c x=>some x
 | .agg cs=>(go cs).map fun l=>.agg l.toArray
 | .tup cs=>(go cs).map fun l=>.tuple l.toArray
 | .ifc t x=>(cst x).map fun v=>.iface t v
 | .fn f a b=>match go a, go b with
  | some x, some y=>some (.func (.func f) x.toArray y.toArray)
  | _, _=>none
 | _=>none
 where go:List VV -> Option (List Value)
 | []=>some []
 | x :: xs=>match cst x, go xs with
  | some v, some vs=>some (v :: vs)
  | _, _=>none
mutual
theorem zdk {ρ:Rho}:∀ (x:VV) (v u:Value), cst x = some v -> VRel ρ x u -> u = v
 | .c x, v, u, h, hr=>by
  simp only[cst, zLs] at h; simp only[VRel] at hr; rw [hr.1, h]
 | .agg cs, v, u, h, hr=>by
  simp only[cst, Option.map_eq_some_iff] at h
  obtain ⟨l, h1, rfl⟩:=h
  simp only[VRel] at hr
  obtain ⟨vs, rfl, _, h2⟩:=hr
  rw [zb5 cs l vs h1 h2]
 | .tup cs, v, u, h, hr=>by
  simp only[cst, Option.map_eq_some_iff] at h
  obtain ⟨l, h1, rfl⟩:=h
  simp only[VRel] at hr
  obtain ⟨vs, rfl, h2⟩:=hr
  rw [zb5 cs l vs h1 h2]
 | .ifc t x, v, u, h, hr=>by
  simp only[cst, Option.map_eq_some_iff] at h
  obtain ⟨l, h1, rfl⟩:=h
  simp only[VRel] at hr
  obtain ⟨w, rfl, h2⟩:=hr
  rw [zdk x l w h1 h2]
 | .fn f a b, v, u, h, hr=>by
  simp only[cst] at h
  split at h
  ·rename_i x y h1 h2
   simp only[zLs] at h
   subst h
   simp only[VRel] at hr
   obtain ⟨us, vs, rfl, h3, h4⟩:=hr
   rw [zb5 a x us h1 h3, zb5 b y vs h2 h4]
  ·cases h
 | .top, v, u, h, _=>by simp [cst] at h
 | .ptr _ _, v, u, h, _=>by simp [cst] at h
 | .sl _ _ _ _ _, v, u, h, _=>by simp [cst] at h
 | .yld _, v, u, h, _=>by simp [cst] at h
 | .mp _, v, u, h, _=>by simp [cst] at h
theorem zb5 {ρ:Rho}:∀ (x:List VV) (v u:List Value), cst.go x = some v -> VRelL ρ x u -> u = v
 | [], v, u, h, hr=>by
  simp only[cst.go, zLs] at h; simp only[VRelL] at hr; rw [hr, h]
 | x :: xs, v, u, h, hr=>by
  simp only[cst.go] at h
  split at h
  ·rename_i a l h1 h2
   simp only[zLs] at h
   subst h
   simp only[VRelL] at hr
   obtain ⟨b, us, rfl, h3, h4⟩:=hr
   rw [zdk x a b h1 h3, zb5 xs l us h2 h4]
  ·cases h
end
def wJ (P:Program) {α:Type}:Nat -> Sem α -> Option α
 | 0, _=>none
 | _ + 1, .pure a=>some a
 | n + 1, .program k=>wJ P n (k P)
 | n + 1, .mark _ k=>wJ P n k
 | _ + 1, _=>none
theorem zbI {P:Program} {α:Type}:∀ (n:Nat) (s:Sem α) (x:α), wJ P n s = some x -> ∀ w:World, s.run P w = .ok x w
 | 0, _, _, h, _=>by simp [wJ] at h
 | n + 1, .pure a, x, h, w=>by simp only[wJ, zLs] at h; subst h; rfl
 | n + 1, .program k, x, h, w=>by simp only[wJ] at h; simpa [Sem.run] using zbI n _ x h w
 | n + 1, .mark m k, x, h, w=>by simp only[wJ] at h; simpa [Sem.run] using zbI n _ x h w
 | n + 1, .load .., x, h, w=>by simp [wJ] at h
 | n + 1, .store .., x, h, w=>by simp [wJ] at h
 | n + 1, .new .., x, h, w=>by simp [wJ] at h
 | n + 1, .shape .., x, h, w=>by simp [wJ] at h
 | n + 1, .freeze .., x, h, w=>by simp [wJ] at h
 | n + 1, .frozen .., x, h, w=>by simp [wJ] at h
 | n + 1, .getObj .., x, h, w=>by simp [wJ] at h
 | n + 1, .setObj .., x, h, w=>by simp [wJ] at h
 | n + 1, .choose .., x, h, w=>by simp [wJ] at h
 | n + 1, .sys .., x, h, w=>by simp [wJ] at h
 | n + 1, .halt .., x, h, w=>by simp [wJ] at h
def evV (fr:Fr):Operand -> Option VV
 | .tmp t=>fr.get t
 | .const v=>some (zjs v)
 | .global g=>some (.c (.pointer (some ⟨g, 0, none⟩)))
 | .func f=>some (.fn f [] [])
theorem zY {ρ:Rho} {n:Nat} {fr:Fr} {a:Act} (h:FrRel ρ n fr a.tmps) {x:Operand} {v:VV} (he:evV fr x = some v):VRel ρ v (a.eval x):=by
 cases x with
 | tmp t=>exact h.2 t v he
 | const c=>simp only[evV, zLs] at he; subst he; exact zee c
 | global g=>simp only[evV, zLs] at he; subst he; simp [VRel, Act.eval, Value.oneCell']
 | func f=>simp only[evV, zLs] at he; subst he; simp [VRel, Act.eval, VRelL]
def OpS (P:Program) (lim:Nat) (fr:Fr) (M:Mem) (nx:Nat) (o:Oper) (v:VV) (M':Mem) (nx':Nat):Prop:=
 ∀ (B n:Nat) (ρ:Rho) (w:World) (a:Act), lim <= nx -> (∀ l, nx <= l -> M.get l = none) -> B <= w.heap.size -> Fresh ρ nx nx' -> MRel B ρ M w -> FrRel ρ n fr a.tmps ->
  ∃ u w', ((execOp a.eval o).run P w = .ok (.value u) w' ∨ ((execOp a.eval o).run P w = .ok .skip w' /\ u = undef)) /\ Post lim B nx nx' ρ M M' w w' (fun ρ'=>VRel ρ' v u)
theorem qM {P:Program} {lim:Nat} {fr:Fr} {M:Mem} {nx:Nat} {o:Oper} {v:VV}
  (h:∀ (B n:Nat) (ρ:Rho) (w:World) (a:Act), MRel B ρ M w -> FrRel ρ n fr a.tmps -> ∃ u, (execOp a.eval o).run P w = .ok (.value u) w /\ VRel ρ v u):OpS P lim fr M nx o v M nx:=by
 intro B n ρ w a _ hfin hB _ hm hf
 obtain ⟨u, h1, h2⟩:=h B n ρ w a hm hf
 exact ⟨u, w, .inl h1, xP hm hfin (Below.refl _ _) hB h2⟩
abbrev jE:=Option (VV × Mem × Nat)
def xH (fr:Fr) (x:Operand):Option Value:=match evV fr x with | some v=>cst v | none=>none
def vY (P:Program) (fr:Fr) (M:Mem) (nx:Nat) (o:Oper):jE:=
 match o.op with
 | .select _ _=>none
 | _=>if o.op.operands.toList.all (fun x=>(xH fr x).isSome) then
   match wJ P 100000 (execOp (fun x=>(xH fr x).getD undef) o) with
   | some (.value v)=>some (zjs v, M, nx)
   | _=>none
  else none
theorem jX {P:Program} {lim:Nat} {fr:Fr} {M:Mem} {nx:Nat} {o:Oper} {v:VV} {M':Mem} {nx':Nat} (h:vY P fr M nx o = some (v, M', nx')):OpS P lim fr M nx o v M' nx':=by
 unfold vY at h
 split at h
 ·cases h
 ·rename_i hsel
  split at h
  ·rename_i hall
   split at h
   ·rename_i u hu
    simp only[zLs, zLp] at h
    obtain ⟨rfl, rfl, rfl⟩:=h
    refine qM fun B n ρ w a hm hf=>⟨u, ?_, zee u⟩
    rw [execOp_congr (ρ':=fun x=>(xH fr x).getD undef) o (fun cs b e=>hsel cs b e) (fun x hx=>?_)]
    ·exact zbI _ _ _ hu w
    ·rw [List.all_eq_true] at hall
     have h1:=hall x (by simpa using hx)
     obtain ⟨c, hc⟩:=Option.isSome_iff_exists.1 h1
     simp only[hc, Option.getD_some]
     unfold xH at hc
     split at hc
     ·rename_i y hy
      exact zdk y c _ hc (zY hf hy)
     ·cases hc
   ·cases h
  ·cases h
def zef (fr:Fr) (M:Mem) (nx:Nat) (x:Operand):jE:=match evV fr x with | some v=>some (v, M, nx) | none=>none
theorem zct {P:Program} {lim:Nat} {fr:Fr} {M:Mem} {nx:Nat} {o:Oper} {x:Operand} {v:VV} {M':Mem} {nx':Nat} (ho:o.op = .move x ∨ o.op = .assign x) (h:zef fr M nx x = some (v, M', nx')):OpS P lim fr M nx o v M' nx':=by
 unfold zef at h
 split at h
 ·rename_i y hy
  simp only[zLs, zLp] at h
  obtain ⟨rfl, rfl, rfl⟩:=h
  refine qM fun B n ρ w a hm hf=>⟨a.eval x, ?_, zY hf hy⟩
  rcases ho with ho | ho <;> simp [execOp, ho]
 ·cases h
def zjj (fr:Fr) (x:Operand):Option Bool:=match evV fr x with | some (.c (.bool b))=>some b | _=>none
theorem zkd {ρ:Rho} {n:Nat} {fr:Fr} {a:Act} (h:FrRel ρ n fr a.tmps) {x:Operand} {b:Bool} (he:zjj fr x = some b):a.eval x = .bool b:=by
 unfold zjj at he
 split at he
 ·rename_i b' hb
  simp only[zLs] at he
  subst he
  have:=zY h hb
  simp only[VRel] at this
  exact this.1
 ·cases he
def ziI (fr:Fr) (x:Operand):Option (IntKind × Int):=match evV fr x with | some (.c (.int k p))=>some (k, p) | _=>none
theorem zae {ρ:Rho} {n:Nat} {fr:Fr} {a:Act} (h:FrRel ρ n fr a.tmps) {x:Operand} {k:IntKind} {p:Int} (he:ziI fr x = some (k, p)):a.eval x = .int k p:=by
 unfold ziI at he
 split at he
 ·rename_i k' p' hb
  simp only[zLs, zLp] at he
  obtain ⟨rfl, rfl⟩:=he
  have:=zY h hb
  simp only[VRel] at this
  exact this.1
 ·cases he
def zib (fr:Fr) (M:Mem) (nx:Nat) (c x y:Operand):jE:=match zjj fr c with
 | some b=>match evV fr (bif b then x else y) with
  | some v=>some (v, M, nx)
  | none=>none
 | none=>none
theorem zgS {P:Program} {lim:Nat} {fr:Fr} {M:Mem} {nx:Nat} {o:Oper} {c x y:Operand} {v:VV} {M':Mem} {nx':Nat} (ho:o.op = .pick c x y) (h:zib fr M nx c x y = some (v, M', nx')):OpS P lim fr M nx o v M' nx':=by
 unfold zib at h
 split at h
 ·rename_i b hb
  split at h
  ·rename_i z hz
   simp only[zLs, zLp] at h
   obtain ⟨rfl, rfl, rfl⟩:=h
   refine qM fun B n ρ w a hm hf=>⟨a.eval (bif b then x else y), ?_, zY hf hz⟩
   have:=zkd hf hb
   cases b <;> simp [execOp, ho, this, asBool]
  ·cases h
 ·cases h
def tyq (P:Program) (T:TypeId):Option (Bool × Nat):=match P.underlying T, P.info? T with
 | some d, some i=>some (match d with | .struct _ | .array _ _=>true | _=>false, i.size)
 | _, _=>none
theorem zaw {P:Program} {T:TypeId} {agg:Bool} {size:Nat} (h:tyq P T = some (agg, size)):Av.tyIs P T agg size = true:=by
 unfold tyq at h
 unfold Av.tyIs
 split at h
 ·rename_i d i h1 h2
  simp only[zLs, zLp] at h
  obtain ⟨h3, h4⟩:=h
  subst h4
  rw [← h3, h1, h2]
  cases d <;> simp
 ·cases h
theorem cells_at {ρ:Rho} {arr:Array Value} {base:Nat} {cs:List VV} (h:CRel ρ arr base cs) (size:Nat):∀ (off:Nat), off + size <= cs.length ->
  ∃ us:List Value, us.length = size /\ (∀ u ∈ us, u.oneCell' = true) /\ VRelL ρ ((cs.drop off).take size) us /\ ∀ (j:Nat) (v:Value), us[j]? = some v -> arr[base + off + j]? = some v:=by
 induction size with
 | zero=>exact fun off _=>⟨[], rfl, by simp, by simp [VRelL], by simp⟩
 | succ size ih=>
  intro off hle
  have hlt:off < cs.length:=by omega
  obtain ⟨u, h1, h2, h3⟩:=h off cs[off] (List.getElem?_eq_getElem hlt)
  obtain ⟨us, h4, h5, h6, h7⟩:=ih (off + 1) (by omega)
  refine ⟨u :: us, by simp [h4], ?_, ?_, ?_⟩
  ·intro v hv
   rcases List.mem_cons.1 hv with rfl | hv
   ·exact h2
   ·exact h5 v hv
  ·rw [List.drop_eq_getElem_cons hlt, List.take_succ_cons]
   simp only[VRelL]
   exact ⟨u, us, rfl, h3, h6⟩
  ·intro j v hv
   cases j with
   | zero=>simp at hv; subst hv; simpa using h1
   | succ j=>
    simp at hv
    have:=h7 j v hv
    rwa [show base + (off + 1) + j = base + off + (j + 1) from by omega] at this
def rdO:VO -> Option (List VV)
 | .cells cs=>some cs
 | .ro cs=>some cs
 | .tc _ _ cs=>some cs
 | _=>none
theorem zfw {ρ:Rho} {w:World} {o:VO} {b:RB} {cs:List VV} (h:ORel ρ o b w) (hr:rdO o = some cs) (i:Nat) (v:VV) (hv:cs[i]? = some v):∃ u, w.cell? ⟨b.blk, b.base + i, none⟩ = some u /\ u.oneCell' = true /\ VRel ρ v u:=by
 unfold rdO at hr
 split at hr
 ·injection hr with hr
  subst hr
  obtain ⟨arr, T, fz, h2, hz, h3, h4, h5⟩:=h
  obtain ⟨u, h6, h7, h8⟩:=h5 i v hv
  exact ⟨u, by rw [cell_of_row w b.blk _ arr _ _ h2]; exact h6, h7, h8⟩
 ·injection hr with hr
  subst hr
  exact h.2 i v hv
 ·injection hr with hr
  subst hr
  obtain ⟨e, arr, h2, h3, h4, h5, _⟩:=h
  obtain ⟨u, h6, h7, h8⟩:=h5 i v hv
  exact ⟨u, by rw [cell_of_row w b.blk _ arr _ _ h2, e]; exact h6, h7, h8⟩
 ·cases hr
theorem zlZ {ρ:Rho} {w:World} {b:RB} {cs:List VV} (h:∀ (i:Nat) (v:VV), cs[i]? = some v -> ∃ u, w.cell? ⟨b.blk, b.base + i, none⟩ = some u /\ u.oneCell' = true /\ VRel ρ v u):
  ∀ (size off:Nat), off + size <= cs.length -> ∃ us:List Value, us.length = size /\ (∀ v ∈ us, v.oneCell' = true) /\ VRelL ρ ((cs.drop off).take size) us /\ ∀ (j:Nat) (v:Value), us[j]? = some v -> w.cell? ⟨b.blk, b.base + off + j, none⟩ = some v
 | 0, off, _=>⟨[], rfl, by simp, by simp [VRelL], by simp⟩
 | n + 1, off, hle=>by
  have hlt:off < cs.length:=by omega
  obtain ⟨u, h1, h2, h3⟩:=h off cs[off] (by simp [hlt])
  obtain ⟨us, h4, h5, h6, h7⟩:=zlZ h n (off + 1) (by omega)
  refine ⟨u :: us, by simp [h4], fun v hv=>?_, ?_, fun j v hj=>?_⟩
  ·rcases List.mem_cons.1 hv with rfl | hv
   ·exact h2
   ·exact h5 v hv
  ·rw [List.drop_eq_getElem_cons hlt]
   simp only[List.take_succ_cons, VRelL]
   exact ⟨u, us, rfl, h3, h6⟩
  ·cases j with
   | zero=>simp at hj; subst hj; simpa using h1
   | succ j=>
    simp at hj
    have:=h7 j v hj
    rw [show b.base + off + (j + 1) = b.base + (off + 1) + j from by omega]; exact this
def ziv (P:Program) (fr:Fr) (M:Mem) (nx:Nat) (T:TypeId) (p:Operand):jE:=
 match evV fr p with
 | some (.ptr l off)=>match tyq P T, M.get l with
  | some (true, size), some ob=>match rdO ob with
   | some cs=>bif Nat.ble (off + size) cs.length then some (.agg ((cs.drop off).take size), M, nx) else none
   | none=>none
  | some (false, _), some ob=>match rdO ob with
   | some cs=>match cs[off]? with
    | some v=>some (v, M, nx)
    | none=>none
   | none=>none
  | _, _=>none
 | _=>none
theorem zgR {P:Program} {lim:Nat} {fr:Fr} {M:Mem} {nx:Nat} {o:Oper} {T:TypeId} {p:Operand} {v:VV} {M':Mem} {nx':Nat} (ho:o.op = .load T p) (h:ziv P fr M nx T p = some (v, M', nx')):OpS P lim fr M nx o v M' nx':=by
 unfold ziv at h
 split at h
 ·rename_i l off hp
  split at h
  ·rename_i size ob ht hm
   split at h
   ·rename_i cs hrd
    cases hle:Nat.ble (off + size) cs.length with
    | false=>simp [hle] at h
    | true=>
     simp only[hle, cond_true, zLs, zLp] at h
     obtain ⟨rfl, rfl, rfl⟩:=h
     refine qM fun B n ρ w a hmr hf=>?_
     have h1:=zY hf hp
     simp only[VRel] at h1
     obtain ⟨b, hb, e⟩:=h1
     obtain ⟨b', hb', _, hob⟩:=hmr.obj l _ hm
     rw [hb] at hb'; injection hb' with hb'; subst hb'
     obtain ⟨us, h6, h7, h8, h9⟩:=zlZ (zfw hob hrd) size off (zLb hle)
     refine ⟨.agg us.toArray, ?_, by simp only[VRel]; exact ⟨us, rfl, h7, h8⟩⟩
     have:=Av.run_load_agg (zaw ht) (w:=w) (b:=b.blk) (off:=b.base + off) us h6 h9
     simp [execOp, ho, e, Instr.loadAt, Instr.sureAddr, this]
   ·cases h
  ·rename_i x ob ht hm
   split at h
   ·rename_i cs hrd
    split at h
    ·rename_i v' hv
     simp only[zLs, zLp] at h
     obtain ⟨rfl, rfl, rfl⟩:=h
     refine qM fun B n ρ w a hmr hf=>?_
     have h1:=zY hf hp
     simp only[VRel] at h1
     obtain ⟨b, hb, e⟩:=h1
     obtain ⟨b', hb', _, hob⟩:=hmr.obj l _ hm
     rw [hb] at hb'; injection hb' with hb'; subst hb'
     obtain ⟨u, hc, h7, h8⟩:=zfw hob hrd off v' hv
     refine ⟨u, ?_, h8⟩
     simp [execOp, ho, e, Instr.loadAt, Instr.sureAddr, loadVar, Av.isAgg_of (zaw ht), hc]
    ·cases h
   ·cases h
  ·cases h
 ·cases h
def yG:VV -> Option (List VV)
 | .top=>none
 | .tup _=>none
 | .agg cs=>some cs
 | x=>some [x]
theorem zch {ρ:Rho} {x:VV} {cs:List VV} {u:Value} (h:yG x = some cs) (hr:VRel ρ x u):∃ us:List Value, u.cells = us.toArray /\ (∀ v ∈ us, v.oneCell' = true) /\ VRelL ρ cs us:=by
 cases x with
 | top=>simp [yG] at h
 | tup l=>simp [yG] at h
 | agg l=>
  simp only[yG, zLs] at h; subst h
  simp only[VRel] at hr
  obtain ⟨vs, rfl, h1, h2⟩:=hr
  exact ⟨vs, rfl, h1, h2⟩
 | c y=>
  simp only[yG, zLs] at h; subst h
  have hr':=hr
  simp only[VRel] at hr'
  obtain ⟨rfl, h1⟩:=hr'
  refine ⟨[u], ?_, by simpa using h1, by simp only[VRelL]; exact ⟨u, [], rfl, hr, rfl⟩⟩
  cases u <;> first | rfl | (simp [Value.oneCell'] at h1)
 | ptr l off=>
  simp only[yG, zLs] at h; subst h
  have hr':=hr
  simp only[VRel] at hr'
  obtain ⟨b, _, rfl⟩:=hr'
  exact ⟨[_], rfl, by simp [Value.oneCell'], by simp only[VRelL]; exact ⟨_, [], rfl, hr, rfl⟩⟩
 | sl l off n c e=>
  simp only[yG, zLs] at h; subst h
  have hr':=hr
  simp only[VRel] at hr'
  obtain ⟨b, _, c, rfl, _⟩:=hr'
  exact ⟨[_], rfl, by simp [Value.oneCell'], by simp only[VRelL]; exact ⟨_, [], rfl, hr, rfl⟩⟩
 | fn f a b=>
  simp only[yG, zLs] at h; subst h
  have hr':=hr
  simp only[VRel] at hr'
  obtain ⟨us, vs, rfl, _⟩:=hr'
  exact ⟨[_], rfl, by simp [Value.oneCell'], by simp only[VRelL]; exact ⟨_, [], rfl, hr, rfl⟩⟩
 | yld l=>
  simp only[yG, zLs] at h; subst h
  have hr':=hr
  simp only[VRel] at hr'
  obtain ⟨b, _, rfl⟩:=hr'
  exact ⟨[_], rfl, by simp [Value.oneCell'], by simp only[VRelL]; exact ⟨_, [], rfl, hr, rfl⟩⟩
 | ifc t x=>
  simp only[yG, zLs] at h; subst h
  have hr':=hr
  simp only[VRel] at hr'
  obtain ⟨b, rfl, _⟩:=hr'
  exact ⟨[_], rfl, by simp [Value.oneCell'], by simp only[VRelL]; exact ⟨_, [], rfl, hr, rfl⟩⟩
 | mp l=>
  simp only[yG, zLs] at h; subst h
  have hr':=hr
  simp only[VRel] at hr'
  obtain ⟨b, _, rfl⟩:=hr'
  exact ⟨[_], rfl, by simp [Value.oneCell'], by simp only[VRelL]; exact ⟨_, [], rfl, hr, rfl⟩⟩
theorem zj0 {ρ:Rho} {cs:List VV} {us:List Value} (h:VRelL ρ cs us) (h1:∀ v ∈ us, v.oneCell' = true):CRel ρ us.toArray 0 cs:=fun i v hv=>by
 obtain ⟨u, h2, h3⟩:=h.get hv
 exact ⟨u, by simpa using h2, h1 u (List.mem_of_getElem? h2), h3⟩
theorem za8 {lim B nx:Nat} {ρ:Rho} {M:Mem} {w:World} {cs:List VV} {us:List Value} {T:TypeId} {K:Rho -> Prop} (hm:MRel B ρ M w) (hfin:∀ l, nx <= l -> M.get l = none) (hB:B <= w.heap.size) (hlim:lim <= nx) (hnx:nx < 16777215)
  (hf:Fresh ρ nx (nx + 1)) (h:VRelL ρ cs us) (h1:∀ v ∈ us, v.oneCell' = true) (hK:K (upd ρ nx ⟨w.heap.size, 0, us.length⟩)):
  Post lim B nx (nx + 1) ρ M (M.set nx (some (.cells cs))) w (w.alloc (.cells us.toArray T)) K:=by
 have hfr:=hf nx (Nat.le_refl _) (by omega)
 refine zzS hm hfin hB hlim hnx hf rfl ⟨us.toArray, T, (0, 0), heap_alloc_new w _, .inl rfl, by simp, by simp [h.length], (zj0 h h1).ext (jc hfr)⟩ hK
def zlx (fr:Fr) (M:Mem) (nx:Nat) (x:Operand):jE:=match evV fr x with
 | some v=>match yG v with
  | some cs=>bif Nat.blt nx 16777215 then some (.ptr nx 0, M.set nx (some (.cells cs)), nx + 1) else none
  | none=>none
 | none=>none
theorem zjN {P:Program} {lim:Nat} {fr:Fr} {M:Mem} {nx:Nat} {o:Oper} {T:TypeId} {x:Operand} {v:VV} {M':Mem} {nx':Nat} (ho:o.op = .box T x) (h:zlx fr M nx x = some (v, M', nx')):OpS P lim fr M nx o v M' nx':=by
 unfold zlx at h
 split at h
 ·rename_i y hy
  split at h
  ·rename_i cs hcs
   cases hnx:Nat.blt nx 16777215 with
   | false=>simp [hnx] at h
   | true=>
    simp only[hnx, cond_true, zLs, zLp] at h
    obtain ⟨rfl, rfl, rfl⟩:=h
    intro B n ρ w a hlim hfin hB hf hm hfr
    obtain ⟨us, h1, h2, h3⟩:=zch hcs (zY hfr hy)
    refine ⟨.pointer (some ⟨w.heap.size, 0, none⟩), w.alloc (.cells us.toArray T), .inl ?_, za8 hm hfin hB hlim (qo.1 hnx) hf h3 h2 ?_⟩
    ·simp [execOp, ho, Instr.box, newVar, newRow, h1]
    ·simp only[VRel]; exact ⟨⟨w.heap.size, 0, us.length⟩, by simp [upd], rfl⟩
  ·cases h
 ·cases h
def zlb (P:Program) (T:TypeId):Option (List Value):=match P.info? T with
 | some i=>match i.zero with
  | some z=>bif z.cells.toList.all Value.oneCell' then some z.cells.toList else none
  | none=>none
 | none=>none
theorem zi7 {P:Program} {T:TypeId} {zs:List Value} (h:zlb P T = some zs):(∃ i z, P.info? T = some i /\ i.zero = some z /\ z.cells = zs.toArray) /\ zs.all Value.oneCell' = true:=by
 unfold zlb at h
 split at h
 ·rename_i i hi
  split at h
  ·rename_i z hz
   cases hb:z.cells.toList.all Value.oneCell' with
   | false=>simp [hb] at h
   | true=>simp only[hb, cond_true, zLs] at h; subst h; exact ⟨⟨i, z, hi, hz, by simp⟩, hb⟩
  ·cases h
 ·cases h
def zte:List Value -> Bool
 | [.pointer none, .slice none 0 0]=>true
 | _=>false
def ztF (T:TypeId) (zs:List Value):VO:=bif zte zs then .tc T (some zs.length) (zs.map .c) else .cells (zs.map .c)
def zeN (P:Program) (M:Mem) (nx:Nat) (T:TypeId):jE:=match zlb P T with
 | some zs=>bif Nat.blt nx 16777215 then some (.ptr nx 0, M.set nx (some (ztF T zs)), nx + 1) else none
 | none=>none
theorem zfA {P:Program} {lim:Nat} {fr:Fr} {M:Mem} {nx:Nat} {o:Oper} {T:TypeId} {v:VV} {M':Mem} {nx':Nat} (ho:o.op = .alloc T) (h:zeN P M nx T = some (v, M', nx')):OpS P lim fr M nx o v M' nx':=by
 unfold zeN at h
 split at h
 ·rename_i zs hzs
  cases hnx:Nat.blt nx 16777215 with
  | false=>simp [hnx] at h
  | true=>
   simp only[hnx, cond_true, zLs, zLp] at h
   obtain ⟨rfl, rfl, rfl⟩:=h
   obtain ⟨⟨i, z, hi, hz, hc⟩, h1⟩:=zi7 hzs
   intro B n ρ w a hlim hfin hB hf hm hfr
   refine ⟨.pointer (some ⟨w.heap.size, 0, none⟩), w.alloc (.cells zs.toArray T), .inl (by simp [execOp, ho, Instr.alloc, zeroValue, typeInfo, hi, hz, newVar, newRow, hc]), ?_⟩
   have hone:∀ v ∈ zs, v.oneCell' = true:=fun v hv=>by rw [List.all_eq_true] at h1; exact h1 v hv
   unfold ztF
   cases zte zs with
   | false=>exact za8 hm hfin hB hlim (qo.1 hnx) hf (zcV zs h1) hone (by simp only[VRel]; exact ⟨⟨w.heap.size, 0, zs.length⟩, by simp [upd], rfl⟩)
   | true=>
    have hfr:=hf nx (Nat.le_refl _) (by omega)
    exact zzS (b:=⟨w.heap.size, 0, zs.length⟩) hm hfin hB hlim (qo.1 hnx) hf rfl ⟨rfl, zs.toArray, heap_alloc_new w _, by simp, by simp, (zj0 (zcV zs h1) hone).ext (jc hfr), fun n h=>by injection h⟩ (by simp only[VRel]; exact ⟨⟨w.heap.size, 0, zs.length⟩, by simp [upd], rfl⟩)
 ·cases h
def zc2 (cs:List VV) (off:Nat) (xs:List VV):List VV:=cs.take off ++ xs ++ cs.drop (off + xs.length)
theorem zbT {cs:List VV} {off:Nat} {xs:List VV} (h:off + xs.length <= cs.length):(zc2 cs off xs).length = cs.length:=by unfold zc2; simp; omega
theorem znT {r:List VV} {j:Nat} {cs:List VV} (h:j + cs.length <= r.length) (t:Nat) (x:VV) (hx:(zc2 r j cs)[t]? = some x):(j <= t /\ t < j + cs.length /\ cs[t - j]? = some x) ∨ ((t < j ∨ j + cs.length <= t) /\ r[t]? = some x):=by
 unfold zc2 at hx
 rw [List.append_assoc, List.getElem?_append] at hx
 have h1:(r.take j).length = j:=by simp; omega
 rw [h1] at hx
 split at hx
 ·rename_i hlt
  rw [List.getElem?_take, if_pos hlt] at hx
  exact .inr ⟨.inl hlt, hx⟩
 ·rename_i hge
  rw [List.getElem?_append] at hx
  split at hx
  ·rename_i h2
   exact .inl ⟨by omega, by omega, hx⟩
  ·rename_i h2
   rw [List.getElem?_drop, show j + cs.length + (t - j - cs.length) = t from by omega] at hx
   exact .inr ⟨.inr (by omega), hx⟩
theorem zfX {ρ:Rho} {arr arr':Array Value} {base off:Nat} {cs xs:List VV} {us:List Value} (h:CRel ρ arr base cs) (hx:VRelL ρ xs us) (h1:∀ v ∈ us, v.oneCell' = true) (hle:off + xs.length <= cs.length)
  (harr:∀ t:Nat, arr'[t]? = if base + off <= t /\ t < base + off + us.length then us[t - (base + off)]? else arr[t]?):CRel ρ arr' base (zc2 cs off xs):=fun i v hv=>by
 have hlen:=hx.length
 rcases znT hle i v hv with ⟨a1, a2, a3⟩ | ⟨a1, a3⟩
 ·obtain ⟨u, c1, c2⟩:=hx.get a3
  refine ⟨u, ?_, h1 u (List.mem_of_getElem? c1), c2⟩
  rw [harr, if_pos (by omega), show base + i - (base + off) = i - off from by omega]; exact c1
 ·obtain ⟨u, c1, c2, c3⟩:=h i v a3
  exact ⟨u, by rw [harr, if_neg (by omega)]; exact c1, c2, c3⟩
theorem zk3 {P:Program} {lim B nx l off:Nat} {ρ:Rho} {M:Mem} {w:World} {cs xs:List VV} {us:List Value} {b:RB} {K:Rho -> Prop} (hm:MRel B ρ M w) (hfin:∀ l, nx <= l -> M.get l = none) (hnx:nx < 16777215) (hl1:lim <= l)
  (hl:M.get l = some (.cells cs)) (hb:ρ l = some b) (hx:VRelL ρ xs us) (h1:∀ v ∈ us, v.oneCell' = true) (hle:off + xs.length <= cs.length) (hK:K ρ):
  ∃ w', (storeCells ⟨b.blk, b.base + off, none⟩ us 0).run P w = .ok () w' /\ Post lim B nx nx ρ M (M.set l (some (.cells (zc2 cs off xs)))) w w' K:=by
 obtain ⟨b', hb', hB', arr, T, fz, h2, hz, h3, h4, h5⟩:=hm.obj l _ hl
 rw [hb] at hb'; injection hb' with hb'; subst hb'
 have hlen:=hx.length
 obtain ⟨arr', h6, h7, h8⟩:=Av.store_run (P:=P) b.blk (b.base + off) T arr us w h2 hz (by omega) h1
 have hother:∀ g, g ≠ b.blk -> (w.setRow b.blk arr').heap[g]? = w.heap[g]?:=fun g hg=>setRow_other w b.blk g _ hg
 refine ⟨_, h6, kM hm hfin hnx hl1 hl hb ⟨rfl, rfl, rfl, by simp, fun k hk=>hother k (by omega)⟩ (fun g _ hg=>hother g hg) ⟨arr', T, fz, setRow_heap w b.blk arr arr' T _ h2, by rw [h7]; exact hz, by rw [h7]; exact h3, by rw [zbT hle]; exact h4, zfX h5 hx h1 hle h8⟩ hK⟩
theorem ziS {P:Program} {lim B nx l off:Nat} {ρ:Rho} {M:Mem} {w:World} {T:TypeId} {k:Option Nat} {cs xs:List VV} {us:List Value} {b:RB} {K:Rho -> Prop} (hm:MRel B ρ M w) (hfin:∀ l, nx <= l -> M.get l = none) (hnx:nx < 16777215) (hl1:lim <= l)
  (hl:M.get l = some (.tc T k cs)) (hb:ρ l = some b) (hx:VRelL ρ xs us) (h1:∀ v ∈ us, v.oneCell' = true) (hle:off + xs.length <= cs.length) (hK:K ρ):
  ∃ w', (storeCells ⟨b.blk, b.base + off, none⟩ us 0).run P w = .ok () w' /\ Post lim B nx nx ρ M (M.set l (some (.tc T k (zc2 cs off xs)))) w w' K:=by
 obtain ⟨b', hb', hB', e, arr, h2, h3, h4, h5, hk⟩:=hm.obj l _ hl
 rw [hb] at hb'; injection hb' with hb'; subst hb'
 have hlen:=hx.length
 obtain ⟨arr', h6, h7, h8⟩:=Av.store_run (P:=P) b.blk (b.base + off) T arr us w h2 (.inl rfl) (by omega) h1
 have hother:∀ g, g ≠ b.blk -> (w.setRow b.blk arr').heap[g]? = w.heap[g]?:=fun g hg=>setRow_other w b.blk g _ hg
 rw [e, Nat.zero_add] at h8
 refine ⟨_, h6, kM hm hfin hnx hl1 hl hb ⟨rfl, rfl, rfl, by simp, fun k hk=>hother k (by omega)⟩ (fun g _ hg=>hother g hg) ⟨e, arr', setRow_heap w b.blk arr arr' T _ h2, by rw [h7]; exact h3, by rw [zbT hle]; exact h4, zfX h5 hx h1 hle (by simpa using h8), hk⟩ hK⟩
def zeQ (P:Program) (lim:Nat) (fr:Fr) (M:Mem) (nx:Nat) (T:TypeId) (p x:Operand):jE:=
 match evV fr p, evV fr x with
 | some (.ptr l off), some v=>match yG v, tyq P T, M.get l with
  | some xs, some (_, size), some (.cells cs)=>
   bif Nat.ble lim l && Nat.beq xs.length size && Nat.ble (off + size) cs.length && Nat.blt nx 16777215 then some (.tup [], M.set l (some (.cells (zc2 cs off xs))), nx) else none
  | some xs, some (_, size), some (.tc T0 k0 cs)=>
   bif Nat.ble lim l && Nat.beq xs.length size && Nat.ble (off + size) cs.length && Nat.blt nx 16777215 then some (.tup [], M.set l (some (.tc T0 k0 (zc2 cs off xs))), nx) else none
  | _, _, _=>none
 | _, _=>none
theorem zfQ {P:Program} {lim:Nat} {fr:Fr} {M:Mem} {nx:Nat} {o:Oper} {T:TypeId} {p x:Operand} {v:VV} {M':Mem} {nx':Nat} (ho:o.op = .store T p x) (h:zeQ P lim fr M nx T p x = some (v, M', nx')):OpS P lim fr M nx o v M' nx':=by
 unfold zeQ at h
 split at h
 ·rename_i l off y hp hy
  split at h
  ·rename_i xs agg size cs hxs ht hl
   cases hc:(Nat.ble lim l && Nat.beq xs.length size && Nat.ble (off + size) cs.length && Nat.blt nx 16777215) with
   | false=>simp [hc] at h
   | true=>
    simp only[hc, cond_true, zLs, zLp] at h
    obtain ⟨rfl, rfl, rfl⟩:=h
    simp only[zLa] at hc
    obtain ⟨⟨⟨c1, c2⟩, c3⟩, c4⟩:=hc
    have c2':=qI.1 c2
    have c3':=zLb c3
    intro B n ρ w a hlim hfin hB hf hm hfr
    obtain ⟨us, h1, h2, h3⟩:=zch hxs (zY hfr hy)
    have hpr:=zY hfr hp
    simp only[VRel] at hpr
    obtain ⟨b, hb, e⟩:=hpr
    have hle:off + xs.length <= cs.length:=by omega
    obtain ⟨w', h4, h5⟩:=zk3 (P:=P) (K:=fun ρ'=>VRel ρ' (.tup []) undef) hm hfin (qo.1 c4) (zLb c1) hl hb h3 h2 hle (by simp [VRel, VRelL, undef])
    refine ⟨undef, w', .inr ⟨?_, rfl⟩, h5⟩
    have hul:us.length = size:=by rw [h3.length, c2']
    simp only[execOp, ho, Instr.storeAt, Instr.sureAddr, e, Sem.run_bind, Sem.run_pure, Result.andThen_ok, storeVar, Av.sizeOf_of (zaw ht), h1]
    simp [h4, hul]
  ·rename_i xs agg size T0 k0 cs hxs ht hl
   cases hc:(Nat.ble lim l && Nat.beq xs.length size && Nat.ble (off + size) cs.length && Nat.blt nx 16777215) with
   | false=>simp [hc] at h
   | true=>
    simp only[hc, cond_true, zLs, zLp] at h
    obtain ⟨rfl, rfl, rfl⟩:=h
    simp only[zLa] at hc
    obtain ⟨⟨⟨c1, c2⟩, c3⟩, c4⟩:=hc
    have c2':=qI.1 c2
    have c3':=zLb c3
    intro B n ρ w a hlim hfin hB hf hm hfr
    obtain ⟨us, h1, h2, h3⟩:=zch hxs (zY hfr hy)
    have hpr:=zY hfr hp
    simp only[VRel] at hpr
    obtain ⟨b, hb, e⟩:=hpr
    have hle:off + xs.length <= cs.length:=by omega
    obtain ⟨w', h4, h5⟩:=ziS (P:=P) (K:=fun ρ'=>VRel ρ' (.tup []) undef) hm hfin (qo.1 c4) (zLb c1) hl hb h3 h2 hle (by simp [VRel, VRelL, undef])
    refine ⟨undef, w', .inr ⟨?_, rfl⟩, h5⟩
    have hul:us.length = size:=by rw [h3.length, c2']
    simp only[execOp, ho, Instr.storeAt, Instr.sureAddr, e, Sem.run_bind, Sem.run_pure, Result.andThen_ok, storeVar, Av.sizeOf_of (zaw ht), h1]
    simp [h4, hul]
  ·cases h
 ·cases h
end
end Go.Bv
end
section
namespace Go.Bv
open Go.RowKit
noncomputable section
section
variable {P:Program} {lim:Nat} {fr:Fr} {M:Mem} {nx:Nat} {o:Oper} {v:VV} {M':Mem} {nx':Nat}
def zr0 (P:Program) (T:TypeId) (k:Nat):Option Nat:=match P.underlying T with
 | some (.struct fs)=>match fs[k]? with
  | some f=>match P.info? f.type with
   | some i=>bif Nat.beq i.size 0 then none else some f.offset
   | none=>none
  | none=>none
 | _=>none
theorem zqe {T:TypeId} {k off:Nat} (h:zr0 P T k = some off):Av.fldIs P T k off = true:=by
 unfold zr0 at h
 unfold Av.fldIs
 split at h
 ·rename_i fs h1
  rw [h1]
  split at h
  ·rename_i f h2
   simp only[h2]
   split at h
   ·rename_i i h3
    rw [h3]
    cases hb:Nat.beq i.size 0 with
    | true=>simp [hb] at h
    | false=>
     simp only[hb, cond_false, zLs] at h
     have:=zaq.1 hb
     simp [h, this]
   ·cases h
  ·cases h
 ·cases h
def xZ (P:Program) (fr:Fr) (M:Mem) (nx:Nat) (T:TypeId) (x:Operand) (k:Nat):jE:=match evV fr x with
 | some (.ptr l off)=>match zr0 P T k with
  | some d=>some (.ptr l (off + d), M, nx)
  | none=>none
 | _=>none
theorem zbL {T:TypeId} {x:Operand} {k:Nat} (ho:o.op = .fieldAddr T x k) (h:xZ P fr M nx T x k = some (v, M', nx')):OpS P lim fr M nx o v M' nx':=by
 unfold xZ at h
 split at h
 ·rename_i l off hx
  split at h
  ·rename_i d hd
   simp only[zLs, zLp] at h
   obtain ⟨rfl, rfl, rfl⟩:=h
   refine qM fun B n ρ w a hm hf=>?_
   have h1:=zY hf hx
   simp only[VRel] at h1
   obtain ⟨b, hb, e⟩:=h1
   refine ⟨.pointer (some ⟨b.blk, b.base + off + d, none⟩), by simp [execOp, ho, e, Av.fieldAt_of (zqe hd)], ?_⟩
   simp only[VRel]; exact ⟨b, hb, by rw [Nat.add_assoc]⟩
  ·cases h
 ·cases h
def zkl (P:Program) (T:TypeId):Option Nat:=match P.underlying T with
 | some (.slice e)=>match P.info? e with | some i=>some i.size | none=>none
 | _=>none
theorem zdd {T:TypeId} {size:Nat} (h:zkl P T = some size):∃ e, P.underlying T = some (.slice e) /\ ∀ w:World, (sizeOf e).run P w = .ok size w:=by
 unfold zkl at h
 split at h
 ·rename_i e h1
  split at h
  ·rename_i i h2
   simp only[zLs] at h
   exact ⟨e, h1, fun w=>by simp [sizeOf, typeInfo, h2, h]⟩
  ·cases h
 ·cases h
def zp6 (P:Program) (T:TypeId):Option (Nat × Nat):=match P.underlying T with
 | some (.array n e)=>match P.info? e with | some i=>some (n, i.size) | none=>none
 | _=>none
theorem zlp {T:TypeId} {n size:Nat} (h:zp6 P T = some (n, size)):∃ e, P.underlying T = some (.array n e) /\ ∀ w:World, (sizeOf e).run P w = .ok size w:=by
 unfold zp6 at h
 split at h
 ·rename_i m e h1
  split at h
  ·rename_i i h2
   simp only[zLs, zLp] at h
   obtain ⟨rfl, rfl⟩:=h
   exact ⟨e, h1, fun w=>by simp [sizeOf, typeInfo, h2]⟩
  ·cases h
 ·cases h
def zac (P:Program) (fr:Fr) (M:Mem) (nx:Nat) (T:TypeId) (x i:Operand):jE:=match evV fr x, ziI fr i with
 | some (.sl l off n _ _), some (_, .ofNat p)=>match zkl P T with
  | some size=>bif Nat.blt p n then some (.ptr l (off + p * size), M, nx) else none
  | none=>none
 | some (.ptr l off), some (_, .ofNat p)=>match zp6 P T with
  | some (n, size)=>bif Nat.blt p n then some (.ptr l (off + p * size), M, nx) else none
  | none=>none
 | _, _=>none
theorem zcd {T:TypeId} {x i:Operand} (ho:o.op = .indexAddr T x i) (h:zac P fr M nx T x i = some (v, M', nx')):OpS P lim fr M nx o v M' nx':=by
 unfold zac at h
 split at h
 ·rename_i l off n cap e k p hx hi
  split at h
  ·rename_i size hs
   cases hlt:Nat.blt p n with
   | false=>simp [hlt] at h
   | true=>
    simp only[hlt, cond_true, zLs, zLp] at h
    obtain ⟨rfl, rfl, rfl⟩:=h
    have hlt':=qo.1 hlt
    refine qM fun B n' ρ w a hm hf=>?_
    have h1:=zY hf hx
    simp only[VRel] at h1
    obtain ⟨b, hb, c, e1, _⟩:=h1
    have h2:=zae hf hi
    obtain ⟨el, h3, h4⟩:=zdd hs
    refine ⟨.pointer (some ⟨b.blk, b.base + off + p * size, none⟩), ?_, ?_⟩
    ·simp [execOp, ho, e1, h2, Instr.indexAt, asIntOf, run_underlying h3, hlt', h4, Addr.add_lit]
    ·simp only[VRel]; exact ⟨b, hb, by rw [Nat.add_assoc]⟩
  ·cases h
 ·rename_i l off k p hx hi
  split at h
  ·rename_i n size hs
   cases hlt:Nat.blt p n with
   | false=>simp [hlt] at h
   | true=>
    simp only[hlt, cond_true, zLs, zLp] at h
    obtain ⟨rfl, rfl, rfl⟩:=h
    have hlt':=qo.1 hlt
    refine qM fun B n' ρ w a hm hf=>?_
    have h1:=zY hf hx
    simp only[VRel] at h1
    obtain ⟨b, hb, e1⟩:=h1
    have h2:=zae hf hi
    obtain ⟨el, h3, h4⟩:=zlp hs
    refine ⟨.pointer (some ⟨b.blk, b.base + off + p * size, none⟩), ?_, ?_⟩
    ·simp [execOp, ho, e1, h2, Instr.indexAt, Instr.sureAddr, asIntOf, run_underlying h3, hlt', h4, Addr.add_lit]
    ·simp only[VRel]; exact ⟨b, hb, by rw [Nat.add_assoc]⟩
  ·cases h
 ·cases h
def zbE (fr:Fr) (d:Nat):Option Operand -> Option Nat
 | none=>some d
 | some x=>match ziI fr x with | some (_, .ofNat p)=>some p | _=>none
theorem zbl {ρ:Rho} {n:Nat} {a:Act} (hf:FrRel ρ n fr a.tmps) {x:Operand} {p y d:Nat} (h:zbE fr d (some x) = some p) (hle:p <= y) (code:BoundsCode) (w:World):(Instr.sliceBound (a.eval x) y code).run P w = .ok p w:=by
 unfold zbE at h
 simp only at h
 split at h
 ·rename_i k q hi
  simp only[zLs] at h
  subst h
  have h2:=zae hf hi
  have:(q:Int) <= (y:Int):=by omega
  simp [Instr.sliceBound, h2, asIntOf, this]
 ·cases h
theorem zbm {ρ:Rho} {n:Nat} {a:Act} (hf:FrRel ρ n fr a.tmps) (isSlice:Bool) {len c l h:Nat} {lo hi:Option Operand} (h1:zbE fr 0 lo = some l) (h2:zbE fr len hi = some h) (h3:l <= h) (h4:h <= c) (w:World):
  (Instr.sliceBounds isSlice len c (lo.map a.eval) (hi.map a.eval) none).run P w = .ok (l, h, c) w:=by
 have key:(Instr.sliceBounds isSlice len c (lo.map a.eval) (hi.map a.eval) none) = (do
   let h ← match hi.map a.eval with
    | some v=>Instr.sliceBound v c (if isSlice then .sliceAcap else .sliceAlen)
    | none=>pure len
   let l ← match lo.map a.eval with
    | some v=>Instr.sliceBound v h .sliceB
    | none=>pure 0
   pure (l, h, c):Sem (Nat × Nat × Nat)):=by
  unfold Instr.sliceBounds
  cases hi <;> cases lo <;> rfl
 rw [key]
 cases hi with
 | none=>
  simp only[zbE, zLs] at h2
  subst h2
  cases lo with
  | none=>simp only[zbE, zLs] at h1; subst h1; simp
  | some y=>simp [zbl hf h1 h3]
 | some z=>
  cases lo with
  | none=>simp only[zbE, zLs] at h1; subst h1; simp [zbl hf h2 h4]
  | some y=>simp [zbl hf h2 h4, zbl hf h1 h3]
def ziA (P:Program) (fr:Fr) (M:Mem) (nx:Nat) (T:TypeId) (x:Operand) (lo hi mx:Option Operand):jE:=match mx with
 | some _=>none
 | none=>match evV fr x with
  | some (.sl l off n (some c) e)=>match zkl P T, zbE fr 0 lo, zbE fr n hi with
   | some size, some p, some q=>bif Nat.ble p q && Nat.ble q c then some (.sl l (bif Nat.beq c p then off else off + p * size) (q - p) (some (c - p)) e, M, nx) else none
   | _, _, _=>none
  | some (.sl l off n none e)=>match zkl P T, zbE fr 0 lo, zbE fr n hi with
   | some size, some p, some q=>bif Nat.ble p q && Nat.ble q n && Nat.beq e size && (Nat.blt p n || Nat.beq p 0) then some (.sl l (off + p * size) (q - p) none e, M, nx) else none
   | _, _, _=>none
  | some (.ptr l off)=>match zp6 P T with
   | some (n, size)=>match zbE fr 0 lo, zbE fr n hi with
    | some p, some q=>bif Nat.ble p q && Nat.ble q n && Nat.ble n 4611686018427387904 then some (.sl l (bif Nat.beq n p then off else off + p * size) (q - p) (some (n - p)) 0, M, nx) else none
    | _, _=>none
   | none=>none
  | _=>none
theorem zk0 {T:TypeId} {x:Operand} {lo hi mx:Option Operand} (ho:o.op = .slice T x lo hi mx) (h:ziA P fr M nx T x lo hi mx = some (v, M', nx')):OpS P lim fr M nx o v M' nx':=by
 unfold ziA at h
 split at h
 ·cases h
 ·split at h
  ·rename_i l off n c e hx
   split at h
   ·rename_i size p q hs hlo hhi
    cases hc:(Nat.ble p q && Nat.ble q c) with
    | false=>simp [hc] at h
    | true=>
     simp only[hc, cond_true, zLs, zLp] at h
     obtain ⟨rfl, rfl, rfl⟩:=h
     simp only[zLa] at hc
     have c1:=zLb hc.1
     have c2:=zLb hc.2
     refine qM fun B n' ρ w a hm hf=>?_
     have h1:=zY hf hx
     simp only[VRel] at h1
     obtain ⟨b, hb, c', e1, h2, h3, rfl⟩:=h1
     obtain ⟨el, h4, h5⟩:=zdd hs
     have hbd:=zbm (P:=P) hf true hlo hhi c1 c2 w
     refine ⟨.slice (some ⟨b.blk, b.base + (bif Nat.beq c' p then off else off + p * size), none⟩) (q - p) (c' - p), ?_, ?_⟩
     ·simp only[execOp, ho, e1, Instr.sliceAt, Sem.run_bind, run_underlying h4, Result.andThen_ok, Instr.slice, Option.map_none, hbd, h5, Sem.run_pure]
      by_cases hcp:c' = p
      ·simp [hcp]
      ·rw [zaq.2 hcp]; simp [hcp, Addr.add_lit, Nat.add_assoc]
     ·simp only[VRel]; exact ⟨b, hb, c' - p, rfl, by omega, by omega, rfl⟩
   ·cases h
  ·rename_i l off n e hx
   split at h
   ·rename_i size p q hs hlo hhi
    cases hc:(Nat.ble p q && Nat.ble q n && Nat.beq e size && (Nat.blt p n || Nat.beq p 0)) with
    | false=>simp [hc] at h
    | true=>
     simp only[hc, cond_true, zLs, zLp] at h
     obtain ⟨rfl, rfl, rfl⟩:=h
     simp only[zLa, Bool.or_eq_true] at hc
     have c1:=zLb hc.1.1.1
     have c2:=zLb hc.1.1.2
     have c3:=qI.1 hc.1.2
     subst c3
     refine qM fun B n' ρ w a hm hf=>?_
     have h1:=zY hf hx
     simp only[VRel] at h1
     obtain ⟨b, hb, c', e1, h2, h3, h4, h5⟩:=h1
     obtain ⟨el, h6, h7⟩:=zdd hs
     have hbd:=zbm (P:=P) hf true hlo hhi c1 (show q <= c' by omega) w
     refine ⟨.slice (some ⟨b.blk, b.base + (off + p * e), none⟩) (q - p) (c' - p), ?_, ?_⟩
     ·simp only[execOp, ho, e1, Instr.sliceAt, Sem.run_bind, run_underlying h6, Result.andThen_ok, Instr.slice, Option.map_none, hbd, h7, Sem.run_pure]
      by_cases hcp:c' = p
      ·have:p = 0:=by
        rcases hc.2 with h8 | h8
        ·have:=qo.1 h8; omega
        ·exact qI.1 h8
       simp [hcp, this]
      ·simp [hcp, Addr.add_lit, Nat.add_assoc]
     ·simp only[VRel]
      refine ⟨b, hb, c' - p, rfl, by omega, by omega, h4, ?_⟩
      have:p * e + (c' - p) * e = c' * e:=by rw [← Nat.add_mul]; congr 1; omega
      omega
   ·cases h
  ·rename_i l off hx
   split at h
   ·rename_i n size hs
    split at h
    ·rename_i p q hlo hhi
     cases hc:(Nat.ble p q && Nat.ble q n && Nat.ble n 4611686018427387904) with
     | false=>simp [hc] at h
     | true=>
      simp only[hc, cond_true, zLs, zLp] at h
      obtain ⟨rfl, rfl, rfl⟩:=h
      simp only[zLa] at hc
      have c1:=zLb hc.1.1
      have c2:=zLb hc.1.2
      have c3:=zLb hc.2
      refine qM fun B n' ρ w a hm hf=>?_
      have h1:=zY hf hx
      simp only[VRel] at h1
      obtain ⟨b, hb, e1⟩:=h1
      obtain ⟨el, h6, h7⟩:=zlp hs
      have hbd:=zbm (P:=P) hf false hlo hhi c1 c2 w
      refine ⟨.slice (some ⟨b.blk, b.base + (bif Nat.beq n p then off else off + p * size), none⟩) (q - p) (n - p), ?_, ?_⟩
      ·simp only[execOp, ho, e1, Instr.sliceAt, Instr.sureAddr, Sem.run_bind, run_underlying h6, Result.andThen_ok, Option.map_none, hbd, h7, Sem.run_pure]
       by_cases hcp:n = p
       ·simp [hcp]
       ·rw [zaq.2 hcp]; simp [hcp, Addr.add_lit, Nat.add_assoc]
      ·simp only[VRel]; exact ⟨b, hb, n - p, rfl, by omega, by unfold maxLen; omega, rfl⟩
    ·cases h
   ·cases h
  ·cases h
def evL (fr:Fr):List Operand -> Option (List VV)
 | []=>some []
 | x :: xs=>match evV fr x, evL fr xs with
  | some v, some vs=>some (v :: vs)
  | _, _=>none
theorem zcf {ρ:Rho} {n:Nat} {a:Act} (hf:FrRel ρ n fr a.tmps):∀ {l:List Operand} {vs:List VV}, evL fr l = some vs -> VRelL ρ vs (l.map a.eval)
 | [], vs, h=>by simp only[evL, zLs] at h; subst h; simp [VRelL]
 | x :: xs, vs, h=>by
  simp only[evL] at h
  split at h
  ·rename_i v us h1 h2
   simp only[zLs] at h
   subst h
   simp only[VRelL, List.map_cons]
   exact ⟨_, _, rfl, zY hf h1, zcf hf h2⟩
  ·cases h
def zbk (fr:Fr) (M:Mem) (nx:Nat) (f:Fn) (a b:Array Operand):jE:=match f with
 | .func g=>match evL fr a.toList, evL fr b.toList with
  | some x, some y=>some (.fn g x y, M, nx)
  | _, _=>none
 | _=>none
theorem zcG {f:Fn} {x y:Array Operand} (ho:o.op = .makeFunc f x y) (h:zbk fr M nx f x y = some (v, M', nx')):OpS P lim fr M nx o v M' nx':=by
 unfold zbk at h
 split at h
 ·rename_i g
  split at h
  ·rename_i us vs h1 h2
   simp only[zLs, zLp] at h
   obtain ⟨rfl, rfl, rfl⟩:=h
   refine qM fun B n' ρ w a hm hf=>⟨.func (.func g) (x.map a.eval) (y.map a.eval), by simp [execOp, ho, Instr.makeFunc], ?_⟩
   simp only[VRel]
   exact ⟨x.toList.map a.eval, y.toList.map a.eval, by rw [← Array.toList_map, ← Array.toList_map], zcf hf h1, zcf hf h2⟩
  ·cases h
 ·cases h
def zcA (fr:Fr) (M:Mem) (nx:Nat) (t:Operand) (i:Nat):jE:=match evV fr t with
 | some (.tup vs)=>match vs[i]? with
  | some v=>some (v, M, nx)
  | none=>none
 | _=>none
theorem zdE {t:Operand} {i:Nat} (ho:o.op = .extract t i) (h:zcA fr M nx t i = some (v, M', nx')):OpS P lim fr M nx o v M' nx':=by
 unfold zcA at h
 split at h
 ·rename_i vs ht
  split at h
  ·rename_i y hy
   simp only[zLs, zLp] at h
   obtain ⟨rfl, rfl, rfl⟩:=h
   refine qM fun B n' ρ w a hm hf=>?_
   have h1:=zY hf ht
   simp only[VRel] at h1
   obtain ⟨us, e, h2⟩:=h1
   obtain ⟨u, h3, h4⟩:=h2.get hy
   exact ⟨u, by simp [execOp, ho, e, Instr.extract, h3], h4⟩
  ·cases h
 ·cases h
def zlW (P:Program) (T:TypeId) (cs:List VV) (off:Nat):Option VV:=match tyq P T with
 | some (true, size)=>bif Nat.ble (off + size) cs.length then some (.agg ((cs.drop off).take size)) else none
 | some (false, _)=>cs[off]?
 | none=>none
theorem zjY {ρ:Rho} {T:TypeId} {cs:List VV} {us:List Value} {off:Nat} {y:VV} (h:zlW P T cs off = some y) (hr:VRelL ρ cs us) (h1:∀ v ∈ us, v.oneCell' = true):∀ w:World, ∃ u, (part T us.toArray off).run P w = .ok u w /\ VRel ρ y u:=by
 intro w
 unfold zlW at h
 split at h
 ·rename_i size ht
  cases hle:Nat.ble (off + size) cs.length with
  | false=>simp [hle] at h
  | true=>
   simp only[hle, cond_true, zLs] at h
   subst h
   have hle':=zLb hle
   refine ⟨.agg (us.toArray.extract off (off + size)), by simp [part, Av.isAgg_of (zaw ht), Av.sizeOf_of (zaw ht)], ?_⟩
   simp only[VRel]
   refine ⟨(us.drop off).take size, by simp, fun v hv=>h1 v (List.mem_of_mem_drop (List.mem_of_mem_take hv)), VRelL.of_get (by simp [hr.length]) fun i x u hx hu=>?_⟩
   rw [List.getElem?_take] at hx hu
   split at hx
   ·rename_i hi
    rw [if_pos hi] at hu
    rw [List.getElem?_drop] at hx hu
    obtain ⟨u', h2, h3⟩:=hr.get hx
    rw [h2] at hu; injection hu with hu; subst hu; exact h3
   ·cases hx
 ·rename_i s ht
  obtain ⟨u, h2, h3⟩:=hr.get h
  exact ⟨u, by simp [part, Av.isAgg_of (zaw ht), h2], h3⟩
 ·cases h
def zhC (P:Program) (fr:Fr) (M:Mem) (nx:Nat) (T:TypeId) (x:Operand) (k:Nat):jE:=match evV fr x, P.underlying T with
 | some (.agg cs), some (.struct fs)=>match fs[k]? with
  | some f=>match zlW P f.type cs f.offset with
   | some v=>some (v, M, nx)
   | none=>none
  | none=>none
 | _, _=>none
theorem zkK {T:TypeId} {x:Operand} {k:Nat} (ho:o.op = .field T x k) (h:zhC P fr M nx T x k = some (v, M', nx')):OpS P lim fr M nx o v M' nx':=by
 unfold zhC at h
 split at h
 ·rename_i cs fs hx hu
  split at h
  ·rename_i f hf'
   split at h
   ·rename_i y hy
    simp only[zLs, zLp] at h
    obtain ⟨rfl, rfl, rfl⟩:=h
    refine qM fun B n' ρ w a hm hf=>?_
    have h1:=zY hf hx
    simp only[VRel] at h1
    obtain ⟨us, e, h2, h3⟩:=h1
    obtain ⟨u, h4, h5⟩:=zjY hy h3 h2 w
    exact ⟨u, by simp [execOp, ho, e, Instr.field, run_underlying hu, hf', asAgg, h4], h5⟩
   ·cases h
  ·cases h
 ·cases h
def ziy (P:Program) (fr:Fr) (M:Mem) (nx:Nat) (T:TypeId) (x i:Operand):jE:=match evV fr x, P.underlying T, ziI fr i with
 | some (.agg cs), some (.array n e), some (_, .ofNat p)=>match tyq P e with
  | some (_, size)=>bif Nat.blt p n then match zlW P e cs (p * size) with
    | some v=>some (v, M, nx)
    | none=>none
   else none
  | none=>none
 | _, _, _=>none
theorem zkX {T:TypeId} {x i:Operand} (ho:o.op = .index T x i) (h:ziy P fr M nx T x i = some (v, M', nx')):OpS P lim fr M nx o v M' nx':=by
 unfold ziy at h
 split at h
 ·rename_i cs n e k p hx hu hi
  split at h
  ·rename_i agg size ht
   cases hlt:Nat.blt p n with
   | false=>simp [hlt] at h
   | true=>
    simp only[hlt, cond_true] at h
    split at h
    ·rename_i y hy
     simp only[zLs, zLp] at h
     obtain ⟨rfl, rfl, rfl⟩:=h
     refine qM fun B n' ρ w a hm hf=>?_
     have h1:=zY hf hx
     simp only[VRel] at h1
     obtain ⟨us, e1, h2, h3⟩:=h1
     obtain ⟨u, h4, h5⟩:=zjY hy h3 h2 w
     have h6:=zae hf hi
     have hlt':=qo.1 hlt
     exact ⟨u, by simp [execOp, ho, e1, h6, Instr.index, asIntOf, run_underlying hu, hlt', Av.sizeOf_of (zaw ht), h4], h5⟩
    ·cases h
  ·cases h
 ·cases h
def kZ (P:Program) (fr:Fr) (M:Mem) (nx:Nat) (T:TypeId) (x:Operand):jE:=match evV fr x, P.underlying T with
 | some _, some (.interface _)=>none
 | some y, some _=>some (.ifc T y, M, nx)
 | _, _=>none
theorem zc4 {T:TypeId} {x:Operand} (ho:o.op = .makeInterface T x) (h:kZ P fr M nx T x = some (v, M', nx')):OpS P lim fr M nx o v M' nx':=by
 unfold kZ at h
 split at h
 ·cases h
 ·rename_i y d hne hx hu
  simp only[zLs, zLp] at h
  obtain ⟨rfl, rfl, rfl⟩:=h
  refine qM fun B n' ρ w a hm hf=>⟨.iface T (a.eval x), ?_, by simp only[VRel]; exact ⟨_, rfl, zY hf hx⟩⟩
  cases d with
  | interface ms=>exact (hne ms rfl).elim
  | _=>simp [execOp, ho, Instr.makeInterface, run_underlying hu]
 ·cases h
def zoB (P:Program) (fr:Fr) (M:Mem) (nx:Nat) (T:TypeId) (x:Operand):jE:=match evV fr x, P.underlying T with
 | some (.sl _ _ n _ _), some (.slice _)=>some (.c (.int .i64 (n:Int)), M, nx)
 | some (.mp l), some (.map _ _)=>match M.get l with
  | some (.map es _)=>some (.c (.int .i64 (es.length:Int)), M, nx)
  | _=>none
 | _, _=>none
theorem zog {T:TypeId} {x:Operand} (ho:o.op = .call { callee:=.builtin .len, args:=#[x], argTypes:=#[T] }) (h:zoB P fr M nx T x = some (v, M', nx')):OpS P lim fr M nx o v M' nx':=by
 unfold zoB at h
 split at h
 ·rename_i l off n cap e el hx hu
  simp only[zLs, zLp] at h
  obtain ⟨rfl, rfl, rfl⟩:=h
  refine qM fun B n' ρ w a hm hf=>?_
  have h1:=zY hf hx
  simp only[VRel] at h1
  obtain ⟨b, hb, c, e1, _⟩:=h1
  exact ⟨.int .i64 (n:Int), by simp [execOp, ho, resolve, invoke, builtin, Builtin.len_, run_underlying hu, e1, goInt], by simp [VRel, Value.oneCell']⟩
 ·rename_i l kt et hx hu
  split at h
  ·rename_i es clock hl
   simp only[zLs, zLp] at h
   obtain ⟨rfl, rfl, rfl⟩:=h
   refine qM fun B n' ρ w a hm hf=>?_
   have h1:=zY hf hx
   simp only[VRel] at h1
   obtain ⟨b, hb, e1⟩:=h1
   obtain ⟨b', hb', _, arr, h2, h3⟩:=hm.obj l _ hl
   rw [hb] at hb'; injection hb' with hb'; subst hb'
   refine ⟨.int .i64 (es.length:Int), ?_, by simp [VRel, Value.oneCell']⟩
   have hsz:arr.size = es.length:=by have:=h3.1; simpa using this
   simp [execOp, ho, resolve, invoke, builtin, Builtin.len_, run_underlying hu, e1, goInt, getObj, Sem.run, h2, hsz]
  ·cases h
 ·cases h
end
end
end Go.Bv
end
section
namespace Go.Bv
open Go.RowKit
noncomputable section
section
variable {P:Program} {lim:Nat} {fr:Fr} {M:Mem} {nx:Nat} {o:Oper} {v:VV} {M':Mem} {nx':Nat}
def zkF {α:Type} (cs:List α) (off:Nat) (xs:List α):List α:=cs.take off ++ xs ++ cs.drop (off + xs.length)
theorem zji {α:Type} {r cs:List α} {j:Nat} (h:j + cs.length <= r.length) (t:Nat):(zkF r j cs)[t]? = if j <= t /\ t < j + cs.length then cs[t - j]? else r[t]?:=by
 unfold zkF
 have h1:(r.take j).length = j:=by simp; omega
 rw [List.append_assoc, List.getElem?_append, h1]
 by_cases hlt:t < j
 ·rw [if_pos hlt, if_neg (by omega), List.getElem?_take, if_pos hlt]
 ·rw [if_neg hlt, List.getElem?_append]
  by_cases h2:t - j < cs.length
  ·rw [if_pos h2, if_pos (by omega)]
  ·rw [if_neg h2, if_neg (by omega), List.getElem?_drop]
   congr 1
   omega
structure CellV (ρ:Rho) (l:List VV) (us:List Value):Prop where
 len:us.length = l.length
 get:∀ (i:Nat) (v:VV) (u:Value), l[i]? = some v -> us[i]? = some u -> VRel ρ v u /\ (v = .top ∨ u.oneCell' = true)
theorem CellV.put {ρ:Rho} {l xs:List VV} {us vs:List Value} {off:Nat} (h:CellV ρ l us) (hx:VRelL ρ xs vs) (h1:∀ v ∈ vs, v.oneCell' = true) (hle:off + xs.length <= l.length):CellV ρ (zc2 l off xs) (zkF us off vs):=by
 have hl:=hx.length
 have e:zc2 l off xs = zkF l off xs:=rfl
 refine ⟨by rw [e]; unfold zkF; have:=h.len; simp; omega, fun i v u hv hu=>?_⟩
 rw [e, zji hle] at hv
 rw [zji (by rw [h.len, hl]; exact hle), hl] at hu
 by_cases hi:off <= i /\ i < off + xs.length
 ·rw [if_pos hi] at hv hu
  obtain ⟨u', h2, h3⟩:=hx.get hv
  rw [h2] at hu; injection hu with hu; subst hu
  exact ⟨h3, .inr (h1 _ (List.mem_of_getElem? h2))⟩
 ·rw [if_neg hi] at hv hu
  exact h.get i v u hv hu
theorem CellV.rel {ρ:Rho} {l:List VV} {us:List Value} (h:CellV ρ l us):VRelL ρ l us:=VRelL.of_get h.len fun i x u hx hu=>(h.get i x u hx hu).1
def VV.isTop:VV -> Bool | .top=>true | _=>false
theorem CellV.one {ρ:Rho} {l:List VV} {us:List Value} (h:CellV ρ l us) (hn:l.all (fun x=>!x.isTop) = true):∀ u ∈ us, u.oneCell' = true:=fun u hu=>by
 obtain ⟨i, hi⟩:=List.getElem?_of_mem hu
 have hlt:i < l.length:=by have:=(zLg hi).1; rwa [h.len] at this
 rcases (h.get i l[i] u (List.getElem?_eq_getElem hlt) hi).2 with e | e
 ·rw [List.all_eq_true] at hn
  have:=hn l[i] (List.getElem_mem hlt)
  rw [e] at this
  simp [VV.isTop] at this
 ·exact e
theorem CellV.of {ρ:Rho} {l:List VV} {us:List Value} (h:VRelL ρ l us) (h1:∀ u ∈ us, u.oneCell' = true):CellV ρ l us:=⟨h.length, fun i v u hv hu=>by
 obtain ⟨u', h2, h3⟩:=h.get hv
 rw [h2] at hu; injection hu with hu; subst hu
 exact ⟨h3, .inr (h1 _ (List.mem_of_getElem? h2))⟩⟩
def zey (fr:Fr) (place:Nat -> Option (Nat × Nat)) (cells:List VV):List (Nat × Operand) -> Option (List VV)
 | []=>some cells
 | (i, x) :: rest=>match place i, evV fr x with
  | some (off, size), some y=>match yG y with
   | some xs=>bif Nat.beq xs.length size && Nat.ble (off + size) cells.length then zey fr place (zc2 cells off xs) rest else none
   | none=>none
  | _, _=>none
theorem zfK {ρ:Rho} {n:Nat} {a:Act} (hf:FrRel ρ n fr a.tmps) (place:Nat -> Option (Nat × Nat)):∀ (ps:List (Nat × Operand)) (cells cells':List VV) (cs:Array Value), CellV ρ cells cs.toList -> zey fr place cells ps = some cells' ->
  ∃ cs':Array Value, Instr.fill place cs (ps.map fun p=>(p.1, a.eval p.2)) = some cs' /\ CellV ρ cells' cs'.toList
 | [], cells, cells', cs, hc, h=>by simp only[zey, zLs] at h; subst h; exact ⟨cs, rfl, hc⟩
 | (i, x) :: ps, cells, cells', cs, hc, h=>by
  simp only[zey] at h
  split at h
  ·rename_i off size y hp hy
   split at h
   ·rename_i xs hxs
    cases hb:(Nat.beq xs.length size && Nat.ble (off + size) cells.length) with
    | false=>simp [hb] at h
    | true=>
     simp only[hb, cond_true] at h
     simp only[zLa] at hb
     have b1:=qI.1 hb.1
     have b2:=zLb hb.2
     obtain ⟨us, h1, h2, h3⟩:=zch hxs (zY hf hy)
     have hul:us.length = size:=by rw [h3.length, b1]
     have hcl:cs.size = cells.length:=by have:=hc.len; simpa using this
     have h5:¬ ((a.eval x).cells.size ≠ size ∨ off + (a.eval x).cells.size > cs.size):=by rw [h1]; simp; omega
     have h6:=Av.splice_set us cs off 0 (by omega)
     simp only[Nat.add_zero] at h6
     obtain ⟨cs', h7, h8⟩:=zfK hf place ps _ cells' ((a.eval x).cells.zipIdx.foldl (fun cs (c, j)=>cs.setIfInBounds (off + j) c) cs) (by
      have e:((a.eval x).cells.zipIdx.foldl (fun cs (c, j)=>cs.setIfInBounds (off + j) c) cs).toList = zkF cs.toList off us:=by
       rw [h1]
       unfold zkF
       rw [← h6]
       simp
      rw [e]
      exact hc.put h3 h2 (by omega)) h
     refine ⟨cs', ?_, h8⟩
     simp only[List.map_cons, Instr.fill, hp]
     rw [if_neg (by simpa using h5)]
     exact h7
   ·cases h
  ·cases h
def ziB (P:Program) (T:TypeId):Option (List Value):=match P.info? T with
 | some i=>match i.zero with
  | some (.agg cs)=>bif cs.toList.all Value.oneCell' then some cs.toList else none
  | _=>none
 | none=>none
theorem zfE {T:TypeId} {zs:List Value} (h:ziB P T = some zs):(P.info? T).bind (·.zero) = some (.agg zs.toArray) /\ zs.all Value.oneCell' = true:=by
 unfold ziB at h
 split at h
 ·rename_i i hi
  split at h
  ·rename_i cs hz
   cases hb:cs.toList.all Value.oneCell' with
   | false=>simp [hb] at h
   | true=>simp only[hb, cond_true, zLs] at h; subst h; exact ⟨by simp [hi, hz], hb⟩
  ·cases h
 ·cases h
def places (P:Program):List Field -> Option (List (Nat × Nat))
 | []=>some []
 | f :: fs=>match P.info? f.type, places P fs with
  | some i, some l=>some ((f.offset, i.size) :: l)
  | _, _=>none
theorem zgM:∀ {fs:List Field} {pl:List (Nat × Nat)}, places P fs = some pl -> fs.mapM (fun f=>(P.info? f.type).map fun i=>(f.offset, i.size)) = some pl
 | [], pl, h=>by simp only[places, zLs] at h; subst h; rfl
 | f :: fs, pl, h=>by
  simp only[places] at h
  split at h
  ·rename_i i l h1 h2
   simp only[zLs] at h
   subst h
   rw [List.mapM_cons]
   simp [h1, zgM h2]
  ·cases h
def zhT (P:Program) (fr:Fr) (M:Mem) (nx:Nat) (T:TypeId) (ps:Array (Nat × Operand)):jE:=match ziB P T, P.underlying T with
 | some zs, some (.struct fs)=>match places P fs.toList with
  | some pl=>match zey fr (pl[·]?) (zs.map .c) ps.toList with
   | some cs=>bif cs.all (fun x=>!x.isTop) then some (.agg cs, M, nx) else none
   | none=>none
  | none=>none
 | some zs, some (.array _ e)=>match P.info? e with
  | some i=>match zey fr (fun k=>some (k * i.size, i.size)) (zs.map .c) ps.toList with
   | some cs=>bif cs.all (fun x=>!x.isTop) then some (.agg cs, M, nx) else none
   | none=>none
  | none=>none
 | _, _=>none
theorem zjy {T:TypeId} {ps:Array (Nat × Operand)} {place:Nat -> Option (Nat × Nat)} {zs:List Value} {cs:List VV} (ho:o.op = .build T ps) (hz:zs.all Value.oneCell' = true)
  (hb:∀ (a:Act) (cs:Array Value), Instr.fill place zs.toArray (ps.toList.map fun p=>(p.1, a.eval p.2)) = some cs -> P.built T (ps.toList.map fun p=>(p.1, a.eval p.2)) = some cs)
  (h:zey fr place (zs.map .c) ps.toList = some cs) (hn:cs.all (fun x=>!x.isTop) = true):OpS P lim fr M nx o (.agg cs) M nx:=
 qM fun B n ρ w a hm hf=>by
  obtain ⟨cs', h1, h2⟩:=zfK (a:=a) hf place ps.toList _ _ zs.toArray (CellV.of (by simpa using zcV zs hz) (fun u hu=>by rw [List.all_eq_true] at hz; exact hz u (by simpa using hu))) h
  refine ⟨.agg cs', ?_, by simp only[VRel]; exact ⟨cs'.toList, by simp, h2.one hn, h2.rel⟩⟩
  have hr:=run_build (P:=P) w T (ps.map fun p=>(p.1, a.eval p.2)) cs' (by simpa using hb a cs' h1)
  simp only[execOp, ho, Sem.run_bind]
  rw [show (ps.map fun x=>match x with | (i, x)=>(i, a.eval x)) = ps.map fun p=>(p.1, a.eval p.2) from rfl, hr]
  simp
theorem zkt {T:TypeId} {ps:Array (Nat × Operand)} (ho:o.op = .build T ps) (h:zhT P fr M nx T ps = some (v, M', nx')):OpS P lim fr M nx o v M' nx':=by
 unfold zhT at h
 split at h
 ·rename_i zs fs hz hu
  obtain ⟨z1, z2⟩:=zfE hz
  split at h
  ·rename_i pl hpl
   split at h
   ·rename_i cs hcs
    cases hn:cs.all (fun x=>!x.isTop) with
    | false=>simp [hn] at h
    | true=>
     simp only[hn, cond_true, zLs, zLp] at h
     obtain ⟨rfl, rfl, rfl⟩:=h
     exact zjy ho z2 (fun a cs hh=>Av.struct_built ⟨fs, hu, z1, zgM hpl⟩ a cs hh) hcs hn
   ·cases h
  ·cases h
 ·rename_i zs n e hz hu
  obtain ⟨z1, z2⟩:=zfE hz
  split at h
  ·rename_i i hi
   split at h
   ·rename_i cs hcs
    cases hn:cs.all (fun x=>!x.isTop) with
    | false=>simp [hn] at h
    | true=>
     simp only[hn, cond_true, zLs, zLp] at h
     obtain ⟨rfl, rfl, rfl⟩:=h
     exact zjy ho z2 (fun a cs hh=>Av.array_built ⟨n, e, i, hu, z1, hi, rfl⟩ a cs hh) hcs hn
   ·cases h
  ·cases h
 ·cases h
def zbb (P:Program) (fr:Fr) (M:Mem) (nx:Nat) (T:TypeId) (len:Nat) (ps:Array (Nat × Operand)):jE:=match P.underlying T with
 | some (.slice e)=>match P.info? e with
  | some i=>match i.zero with
   | some _=>bif Nat.blt 0 i.size && Nat.ble (len * i.size) 16777216 && Nat.blt nx 16777215 then
     match zey fr (fun k=>some (k * i.size, i.size)) (List.replicate (len * i.size) .top) ps.toList with
     | some cs=>bif cs.all (fun x=>!x.isTop) then some (.sl nx 0 len (some len) i.size, M.set nx (some (.cells cs)), nx + 1) else none
     | none=>none
    else none
   | none=>none
  | none=>none
 | _=>none
theorem zeH {T:TypeId} {len:Nat} {ps:Array (Nat × Operand)} (ho:o.op = .buildSlice T len ps) (h:zbb P fr M nx T len ps = some (v, M', nx')):OpS P lim fr M nx o v M' nx':=by
 unfold zbb at h
 split at h
 ·rename_i E hu
  split at h
  ·rename_i i hi
   split at h
   ·rename_i z hz
    cases hc:(Nat.blt 0 i.size && Nat.ble (len * i.size) 16777216 && Nat.blt nx 16777215) with
    | false=>simp [hc] at h
    | true=>
     simp only[hc, cond_true] at h
     split at h
     ·rename_i cs hcs
      cases hn:cs.all (fun x=>!x.isTop) with
      | false=>simp [hn] at h
      | true=>
       simp only[hn, cond_true, zLs, zLp] at h
       obtain ⟨rfl, rfl, rfl⟩:=h
       simp only[zLa] at hc
       have c1:=qo.1 hc.1.1
       have c2:=zLb hc.1.2
       have c3:=qo.1 hc.2
       intro B n ρ w a hlim hfin hB hf hm hfr
       obtain ⟨z0, hz0⟩:∃ z0:Array Value, z0 = if len * i.size = 0 then #[] else z.cells:=⟨_, rfl⟩
       obtain ⟨cs', h1, h2⟩:=zfK (a:=a) hfr (fun k=>some (k * i.size, i.size)) ps.toList _ _ ((Array.range (len * i.size)).map (z0[· % z0.size]!)) ⟨by simp, fun j v u hv _=>by
        rw [List.getElem?_replicate] at hv
        split at hv
        ·injection hv with hv; subst hv; exact ⟨by simp [VRel], .inl rfl⟩
        ·cases hv⟩ hcs
       have h1':Instr.fill (fun k=>some (k * i.size, i.size)) ((Array.range (len * i.size)).map (z0[· % z0.size]!)) (ps.map fun p=>(p.1, a.eval p.2)).toList = some cs':=by simpa using h1
       have hbig:¬ len * i.size > 2 ^ 24:=by omega
       have hbs:(Instr.buildSlice T len (ps.map fun p=>(p.1, a.eval p.2))).run P w = .ok (.slice (some ⟨w.heap.size, 0, none⟩) len len) (w.alloc (.cells cs' E)):=by
        unfold Instr.buildSlice
        by_cases h0:len * i.size = 0
        ·rw [if_pos h0] at hz0
         subst hz0
         rw [h0] at h1'
         simp only[Sem.run_bind, run_underlying hu, Result.andThen_ok, sizeOf, typeInfo, run_program, hi, Sem.run_pure, h0, if_true, newRow]
         have h00:¬ (0:Nat) > 2 ^ 24:=by omega
         simp only[h00, if_false, Sem.run_bind, Sem.run_pure, Result.andThen_ok, h1']
         rfl
        ·rw [if_neg h0] at hz0
         subst hz0
         simp only[Sem.run_bind, run_underlying hu, Result.andThen_ok, sizeOf, typeInfo, run_program, hi, Sem.run_pure, hbig, if_false, h0, zeroValue, hz, newRow, h1']
         rfl
       have hlen:len <= maxLen:=by
        have:len <= len * i.size:=Nat.le_mul_of_pos_right _ c1
        unfold maxLen; omega
       have hpost:=za8 (T:=E) (K:=fun ρ'=>VRel ρ' (.sl nx 0 len (some len) i.size) (.slice (some ⟨w.heap.size, 0, none⟩) len len)) hm hfin hB hlim c3 hf h2.rel (h2.one hn)
        (by simp only[VRel]; exact ⟨⟨w.heap.size, 0, cs'.toList.length⟩, by simp [upd], len, rfl, Nat.le_refl _, hlen, rfl⟩)
       rw [show cs'.toList.toArray = cs' from by simp] at hpost
       refine ⟨_, _, .inl ?_, hpost⟩
       simp only[execOp, ho, Sem.run_bind]
       have e:(ps.map fun x=>match x with | (i, x)=>(i, a.eval x)) = ps.map fun p=>(p.1, a.eval p.2):=rfl
       rw [e, hbs]
       rfl
     ·cases h
   ·cases h
  ·cases h
 ·cases h
end
end
end Go.Bv
end
section
namespace Go.Bv
open Go.RowKit
noncomputable section
section
variable {P:Program} {lim:Nat} {fr:Fr} {M:Mem} {nx:Nat} {o:Oper} {v:VV} {M':Mem} {nx':Nat}
theorem zaO {B l:Nat} {ρ:Rho} {w w':World} {o1 o':VO} {b b':RB} {K:Rho -> Prop} (hm:MRel B ρ M w) (hfin:∀ l, nx <= l -> M.get l = none) (hB:B <= w.heap.size) (hlim:lim <= nx) (hnx:nx < 16777215) (hf:Fresh ρ nx (nx + 1)) (hl1:lim <= l)
  (hl:M.get l = some o1) (hb:ρ l = some b) (hbelow:Below B w w') (hother:∀ g, g < w.heap.size -> g ≠ b.blk -> w'.heap[g]? = w.heap[g]?) (hnew:b'.blk = b.blk ∨ b'.blk = w.heap.size) (ho:ORel (upd ρ nx b') o' b' w') (hK:K (upd ρ nx b')) (hno:o1.still = false:=by rfl):
  Post lim B nx (nx + 1) ρ M ((M.set l none).set nx (some o')) w w' K:=by
 have hln:l < nx:=by
  rcases Nat.lt_or_ge l nx with h | h
  ·exact h
  ·rw [hfin l h] at hl; cases hl
 have hfr:=hf nx (Nat.le_refl _) (by omega)
 have hget:∀ k, ((M.set l none).set nx (some o')).get k = if k = nx then some o' else if k = l then none else M.get k:=fun k=>by
  rw [Tr.get_set _ nx k _ hnx, Tr.get_set M l k _ (by omega)]
 obtain ⟨b0, hb0, hBb, hbo⟩:=hm.obj l o1 hl
 rw [hb] at hb0; injection hb0 with hb0; subst hb0
 refine ⟨upd ρ nx b', ⟨fun k hk=>?_, by omega, hbelow, fun g hg hno=>hother g hg (fun e=>hno l b o1 hl1 hln hl hb e.symm), fun k hk=>?_, fun k h1 h2=>?_, fun k c o2 h1 h2 h3=>?_, fun hfin k hk=>?_⟩, ⟨fun k o2 h1=>?_, fun k k' o2 o3 b2 b3 h1 h2 h3 h4 h5 hs=>?_⟩, hK⟩
 ·unfold upd; rw [if_neg (by omega)]
 ·rw [hget, if_neg (by omega), if_neg (by omega)]
 ·rw [hget, if_neg (by omega)]
  by_cases e:k = l
  ·rw [if_pos e]
  ·rw [if_neg e]; exact h2
 ·rw [hget] at h2
  by_cases e:k = nx
  ·subst e
   simp [upd] at h3; subst h3
   rcases hnew with h4 | h4
   ·exact .inr ⟨l, b, o1, hl1, hln, hl, hb, h4.symm⟩
   ·exact .inl (by omega)
  ·rw [if_neg e] at h2
   by_cases e2:k = l
   ·omega
   ·rw [if_neg e2, hfin k h1] at h2; cases h2
 ·rw [hget, if_neg (by omega)]
  by_cases e:k = l
  ·rw [if_pos e]
  ·rw [if_neg e]; exact hfin k (by omega)
 ·rw [hget] at h1
  by_cases e:k = nx
  ·subst e
   simp at h1; subst h1
   exact ⟨b', by simp [upd], by rcases hnew with h4 | h4 <;> omega, ho⟩
  ·rw [if_neg e] at h1
   by_cases e2:k = l
   ·rw [if_pos e2] at h1; cases h1
   ·rw [if_neg e2] at h1
    obtain ⟨b1, h2, h3, h4⟩:=hm.obj k o2 h1
    exact ⟨b1, jc hfr _ _ h2, h3, h4.keep (jc hfr) (hother _ h4.lt (fun e3=>e2 (hm.dist k l o2 o1 b1 b h1 hl h2 hb e3 (by rw [hno, Bool.and_false]))))⟩
 ·have old:∀ k o2 b2, k ≠ nx -> (if k = nx then some o' else if k = l then none else M.get k) = some o2 -> upd ρ nx b' k = some b2 -> k ≠ l /\ M.get k = some o2 /\ ρ k = some b2 /\ b2.blk ≠ b'.blk:=fun k o2 b2 e h1 h3=>by
   rw [if_neg e] at h1
   by_cases e2:k = l
   ·rw [if_pos e2] at h1; cases h1
   ·rw [if_neg e2] at h1
    simp only[upd, if_neg e] at h3
    refine ⟨e2, h1, h3, fun e3=>?_⟩
    obtain ⟨b1, c1, _, c3⟩:=hm.obj k o2 h1
    rw [h3] at c1; injection c1 with c1; subst c1
    rcases hnew with h4 | h4
    ·exact e2 (hm.dist k l o2 o1 b2 b h1 hl h3 hb (by omega) (by rw [hno, Bool.and_false]))
    ·have:=c3.lt; omega
  rw [hget] at h1 h2
  by_cases e:k = nx <;> by_cases e':k' = nx
  ·omega
  ·subst e
   simp [upd] at h3; subst h3
   have:=(old k' o3 b3 e' h2 h4).2.2.2
   omega
  ·subst e'
   simp [upd] at h4; subst h4
   have:=(old k o2 b2 e h1 h3).2.2.2
   omega
  ·obtain ⟨_, c1, c2, _⟩:=old k o2 b2 e h1 h3
   obtain ⟨_, d1, d2, _⟩:=old k' o3 b3 e' h2 h4
   exact hm.dist k k' o2 o3 b2 b3 c1 d1 c2 d2 h5 hs
def zhv (P:Program) (T:TypeId):Bool:=match P.underlying T with
 | some (.slice _)=>true
 | _=>false
def zl6 (P:Program) (T:TypeId):Bool:=match P.underlying T with
 | some .string=>true
 | _=>false
def zr9 (P:Program) (T':TypeId) (fr:Fr) (M:Mem) (size:Nat) (x:Operand):Option (Nat × List VV):=match evV fr x with
 | some (.sl l off m _ _)=>match (M.get l).bind rdO with
  | some cs=>bif zhv P T' && Nat.ble (off + m * size) cs.length then some (m, (cs.drop off).take (m * size)) else none
  | _=>none
 | some (.c (.slice none 0 _))=>bif zhv P T' then some (0, []) else none
 | _=>none
theorem zhy {α β:Type} {Q:Nat -> α -> β -> Prop}:∀ (l:List α) (k:Nat), (∀ (i:Nat) (v:α), l[i]? = some v -> ∃ u, Q (k + i) v u) -> ∃ us:List β, us.length = l.length /\ ∀ (i:Nat) (v:α) (u:β), l[i]? = some v -> us[i]? = some u -> Q (k + i) v u
 | [], k, h=>⟨[], rfl, fun i v u h=>by simp at h⟩
 | x :: l, k, h=>by
  obtain ⟨u, hu⟩:=h 0 x rfl
  obtain ⟨us, h1, h2⟩:=zhy l (k + 1) fun i v hi=>by
   have:=h (i + 1) v (by simpa using hi)
   rw [show k + 1 + i = k + (i + 1) from by omega]; exact this
  refine ⟨u :: us, by simp [h1], fun i v u' hi hu'=>?_⟩
  cases i with
  | zero=>simp at hi hu'; subst hi; subst hu'; exact hu
  | succ i=>simp at hi hu'; rw [show k + (i + 1) = k + 1 + i from by omega]; exact h2 i v u' hi hu'
theorem zdV {ρ:Rho}:∀ {cs:List VV} {us:List Value}, us.length = cs.length -> (∀ (i:Nat) (v:VV) (u:Value), cs[i]? = some v -> us[i]? = some u -> VRel ρ v u) -> VRelL ρ cs us
 | [], [], _, _=>by simp only[VRelL]
 | c :: cs, u :: us, hl, h=>by
  simp only[VRelL]
  exact ⟨u, us, rfl, h 0 c u rfl rfl, zdV (by simpa using hl) fun i v u' h1 h2=>h (i + 1) v u' (by simpa using h1) (by simpa using h2)⟩
 | [], _ :: _, hl, _=>by simp at hl
 | _ :: _, [], hl, _=>by simp at hl
theorem zjJ {ρ:Rho} {w:World} {o:VO} {b:RB} {cs:List VV} (h:ORel ρ o b w) (hr:rdO o = some cs) (off k:Nat) (hle:off + k <= cs.length):
  ∃ us:List Value, us.length = k /\ VRelL ρ ((cs.drop off).take k) us /\ (∀ u ∈ us, u.oneCell' = true) /\ ∀ (j:Nat) (u:Value), us[j]? = some u -> w.cell? ⟨b.blk, b.base + off + j, none⟩ = some u:=by
 obtain ⟨us, h1, h2⟩:=zhy (Q:=fun i v u=>w.cell? ⟨b.blk, b.base + off + i, none⟩ = some u /\ u.oneCell' = true /\ VRel ρ v u) ((cs.drop off).take k) 0 fun i v hi=>by
  rw [List.getElem?_take] at hi
  split at hi
  ·rw [List.getElem?_drop] at hi
   obtain ⟨u, q1, q2, q3⟩:=zfw h hr (off + i) v hi
   exact ⟨u, by rw [show b.base + off + (0 + i) = b.base + (off + i) from by omega]; exact q1, q2, q3⟩
  ·cases hi
 have hlen:us.length = k:=by rw [h1, List.length_take, List.length_drop]; omega
 have get:∀ j u, us[j]? = some u -> ∃ v, ((cs.drop off).take k)[j]? = some v:=fun j u hj=>by
  have:=(zLg hj).1
  exact ⟨_, List.getElem?_eq_getElem (by rw [← h1]; exact this)⟩
 refine ⟨us, hlen, zdV h1 fun i v u a c=>(h2 i v u a c).2.2, fun u hu=>?_, fun j u hj=>?_⟩
 ·obtain ⟨j, hj⟩:=List.mem_iff_getElem?.1 hu
  obtain ⟨v, hv⟩:=get j u hj
  exact (h2 j v u hv hj).2.1
 ·obtain ⟨v, hv⟩:=get j u hj
  have:=(h2 j v u hv hj).1
  rw [Nat.zero_add] at this
  exact this
theorem zcC {T':TypeId} {B n:Nat} {ρ:Rho} {w:World} {a:Act} (hm:MRel B ρ M w) (hf:FrRel ρ n fr a.tmps) {size m:Nat} {x:Operand} {cs:List VV} (h:zr9 P T' fr M size x = some (m, cs)):
  ∃ us:List Value, Src P size T' (a.eval x) m us w /\ VRelL ρ cs us:=by
 have ks:zhv P T' = true -> ∃ e', P.underlying T' = some (.slice e'):=fun h=>by
  unfold zhv at h
  split at h
  ·rename_i e he; exact ⟨e, he⟩
  ·cases h
 unfold zr9 at h
 split at h
 ·rename_i l off k cap e hx
  split at h
  ·rename_i cs0 hl
   obtain ⟨ob, hob, hrd⟩:=Option.bind_eq_some_iff.1 hl
   cases hle:(zhv P T' && Nat.ble (off + k * size) cs0.length) with
   | false=>simp [hle] at h
   | true=>
    simp only[hle, cond_true, zLs, zLp] at h
    obtain ⟨rfl, rfl⟩:=h
    rw [zLa] at hle
    obtain ⟨e', he'⟩:=ks hle.1
    have h1:=zY hf hx
    simp only[VRel] at h1
    obtain ⟨b, hb, c, e1, _⟩:=h1
    obtain ⟨b', hb', _, ho⟩:=hm.obj l _ hob
    rw [hb] at hb'; injection hb' with hb'; subst hb'
    obtain ⟨us, h6, h7, h8, h9⟩:=zjJ ho hrd off (k * size) (zLb hle.2)
    rw [e1]
    exact ⟨us, Src.ofSlice w he' _ k c us h6 (fun j u hj=>by rw [Addr.add_lit]; exact h9 j u hj) h8, h7⟩
  ·cases h
 ·rename_i c hx
  cases hk:zhv P T' with
  | false=>rw [hk] at h; cases h
  | true=>
   rw [hk] at h
   simp only[cond_true, zLs, zLp] at h
   obtain ⟨rfl, rfl⟩:=h
   obtain ⟨e', he'⟩:=ks hk
   have h1:=zY hf hx
   simp only[VRel] at h1
   rw [h1.1]
   exact ⟨[], Src.ofNil w he' c, by simp [VRelL]⟩
 ·cases h
def zle (P:Program) (T:TypeId):Option (TypeId × Nat × Nat):=match P.underlying T with
 | some (.slice e)=>match P.info? e with
  | some i=>match i.zero with
   | some z=>bif Nat.beq z.cells.size i.size && Nat.blt 0 i.size then some (e, i.size, i.bytes) else none
   | none=>none
  | none=>none
 | _=>none
theorem zi5 {T E:TypeId} {size bytes:Nat} (h:zle P T = some (E, size, bytes)):Av.elemIs P T E size bytes:=by
 unfold zle at h
 split at h
 ·rename_i e hu
  split at h
  ·rename_i i hi
   split at h
   ·rename_i z hz
    cases hb:(Nat.beq z.cells.size i.size && Nat.blt 0 i.size) with
    | false=>simp [hb] at h
    | true=>
     simp only[hb, cond_true, zLs, zLp] at h
     obtain ⟨rfl, rfl, rfl⟩:=h
     simp only[zLa] at hb
     exact ⟨hu, i, z, hi, hz, rfl, rfl, qI.1 hb.1, qo.1 hb.2⟩
   ·cases h
  ·cases h
 ·cases h
theorem kD {T T' E:TypeId} {i:TypeInfo} (ty e0:TypeId) (ht:P.underlying T = some (.slice E)) (hi:P.info? E = some i) (w:World) (g o sLen sCap:Nat) (cur:Array Value) {fz:Nat × Nat} (hg:w.heap[g]? = some (.cells cur e0 fz)) (hz:fz = (0, 0) ∨ cur.size <= fz.1)
  (x:Value) (m:Nat) (news:List Value) (hs:Src P i.size T' x m news w)
  (hroom:sLen + m <= sCap) (hfit:o + sLen * i.size + news.length <= cur.size):
  ∃ cur':Array Value, (Builtin.append_ #[T, T'] ty #[.slice (some ⟨g, o, none⟩) sLen sCap, x]).run P w = .ok (.slice (some ⟨g, o, none⟩) (sLen + m) sCap) (w.setRow g cur') /\
   cur'.size = cur.size /\ ∀ t:Nat, cur'[t]? = if o + sLen * i.size <= t /\ t < o + sLen * i.size + news.length then news[t - (o + sLen * i.size)]? else cur[t]?:=by
 obtain ⟨cur', h2, h3, h4⟩:=Av.store_run (P:=P) g (o + sLen * i.size) e0 cur news w hg hz hfit hs.one
 refine ⟨cur', ?_, h3, h4⟩
 rcases hs.kind with ⟨e', hk⟩ | hk <;> simp [Builtin.append_, run_underlying ht, run_underlying hk, sizeOf, typeInfo, hi, hs.len, hroom, hs.cells, Addr.add_lit, h2]
theorem zbB {T T' E:TypeId} {size bytes:Nat} (ht:Av.elemIs P T E size bytes) (ty:TypeId) (a0:Option Addr) (n c:Nat) (hnc:n <= c) {x:Value} {news:List Value} {w:World} (hs:Src P size T' x 0 news w):
  (Builtin.append_ #[T, T'] ty #[.slice a0 n c, x]).run P w = .ok (.slice a0 n c) w:=by
 obtain ⟨hu, i, z, hi, hz, hsz, _⟩:=ht
 subst hsz
 have hn:news = []:=by have:=hs.newsLen; rw [Nat.zero_mul] at this; exact List.eq_nil_of_length_eq_zero this
 have hc:=hs.cells
 rw [hn] at hc
 rcases hs.kind with ⟨e', hk⟩ | hk <;> cases a0 <;> simp [Builtin.append_, run_underlying hu, run_underlying hk, sizeOf, typeInfo, hi, hs.len, hnc, hc, storeCells]
theorem jI {T T':TypeId} {s x:Operand} (ho:o.op = .call { callee:=.builtin .append, args:=#[s, x], argTypes:=#[T, T'] }) {a:Act} {w w':World} {v:Value}
  (h:(Builtin.append_ #[T, T'] o.type #[a.eval s, a.eval x]).run P w = .ok v w'):(execOp a.eval o).run P w = .ok (.value v) w':=by
 simp [execOp, ho, resolve, invoke, builtin, h]
theorem za2 {T T' E:TypeId} {size bytes:Nat} (ht:Av.elemIs P T E size bytes) (ty:TypeId) (w:World) (g o n cap:Nat) (olds:List Value) (hlo:olds.length = n * size) (holds:∀ (j:Nat) (u:Value), olds[j]? = some u -> w.cell? ⟨g, o + j, none⟩ = some u)
  (x:Value) (m:Nat) (news:List Value) (hs:Src P size T' x m news w)
  (hg:cap < n + m) (_hn:n <= cap) (hby:(n + m) * bytes <= 140737488355328) (hmax:n + m <= maxLen):
  ∃ (cap':Nat) (zs:List Value), (Builtin.append_ #[T, T'] ty #[.slice (some ⟨g, o, none⟩) n cap, x]).run P w = .ok (.slice (some ⟨w.heap.size, 0, none⟩) (n + m) cap') (w.drew.alloc (.cells (olds ++ news ++ zs).toArray E)) /\
   (olds ++ news ++ zs).length = cap' * size /\ n + m <= cap' /\ cap' <= maxLen:=by
 obtain ⟨hu, i, z, hi, hz, hsz, hbt, hzs, hpos⟩:=ht
 subst hsz
 subst hbt
 have h63:((n + m:Nat):Int) <= 9223372036854775807:=by unfold maxLen at hmax; omega
 have hr:=run_append_grow_src (P:=P) w T T' ty E i z hu hi hz (some ⟨g, o, none⟩) n cap olds (run_firstCells_some w.drew i.size n _ n cap olds hlo (fun j v hv=>by rw [Addr.add_lit]; simpa using holds j v hv)) x m news hs hg h63 (growslice_fits (by omega) hby)
 have hge:=grownCap_ge w (n + m) cap E
 refine ⟨grownCap w (n + m) cap E, (Builtin.zeroCells z.cells (grownCap w (n + m) cap E - (n + m))).toList, by
  rw [hr]
  have e:((olds ++ news).toArray ++ Builtin.zeroCells z.cells (grownCap w (n + m) cap E - (n + m))) = (olds ++ news ++ (Builtin.zeroCells z.cells (grownCap w (n + m) cap E - (n + m))).toList).toArray:=by apply Array.toList_inj.1; simp
  rw [e], ?_, hge, grownCap_le_maxLen w (n + m) cap E hmax⟩
 simp only[List.length_append, Array.length_toList, size_zeroCells, hzs, hlo, hs.newsLen, ← Nat.add_mul]
 congr 1
 omega
theorem append_nil {T T' E:TypeId} {size bytes:Nat} (ht:Av.elemIs P T E size bytes) (ty:TypeId) (w:World)
  (x:Value) (m:Nat) (news:List Value) (hs:Src P size T' x m news w)
  (hm:0 < m) (hby:m * bytes <= 140737488355328) (hmax:m <= maxLen):
  ∃ (cap':Nat) (zs:List Value), (Builtin.append_ #[T, T'] ty #[.slice none 0 0, x]).run P w = .ok (.slice (some ⟨w.heap.size, 0, none⟩) m cap') (w.drew.alloc (.cells (news ++ zs).toArray E)) /\
   (news ++ zs).length = cap' * size /\ m <= cap' /\ cap' <= maxLen:=by
 obtain ⟨hu, i, z, hi, hz, hsz, hbt, hzs, hpos⟩:=ht
 subst hsz
 subst hbt
 have h63:((0 + m:Nat):Int) <= 9223372036854775807:=by unfold maxLen at hmax; omega
 have hr:=run_append_grow_src (P:=P) w T T' ty E i z hu hi hz none 0 0 [] (run_firstCells_none w.drew i.size 0 0 0) x m news hs (by omega) h63 (growslice_fits (by omega) (by rw [Nat.zero_add]; exact hby))
 have hge:=grownCap_ge w (0 + m) 0 E
 rw [Nat.zero_add] at hr hge
 refine ⟨grownCap w m 0 E, (Builtin.zeroCells z.cells (grownCap w m 0 E - m)).toList, by
  rw [hr]
  have e:(([] ++ news).toArray ++ Builtin.zeroCells z.cells (grownCap w m 0 E - m)) = (news ++ (Builtin.zeroCells z.cells (grownCap w m 0 E - m)).toList).toArray:=by apply Array.toList_inj.1; simp
  rw [e], ?_, hge, grownCap_le_maxLen w m 0 E hmax⟩
 simp only[List.length_append, Array.length_toList, size_zeroCells, hzs, hs.newsLen, ← Nat.add_mul]
 congr 1
 omega
theorem VRelL.take_app {ρ:Rho} {cs:List VV} {us zs:List Value} (h:VRelL ρ cs us) (h1:∀ u ∈ us, u.oneCell' = true):CRel ρ (us ++ zs).toArray 0 cs:=fun i v hv=>by
 obtain ⟨u, h2, h3⟩:=h.get hv
 have hlt:=(zLg h2).1
 exact ⟨u, by simp [List.getElem?_append_left hlt, h2], h1 u (List.mem_of_getElem? h2), h3⟩
def zfB (P:Program) (lim:Nat) (fr:Fr) (M:Mem) (nx:Nat) (T T':TypeId) (s x:Operand):jE:=match zle P T with
 | some (_, size, bytes)=>match zr9 P T' fr M size x with
  | some (m, ns)=>match evV fr s with
   | some (.c (.slice none 0 0))=>bif Nat.beq m 0 then some (.c (.slice none 0 0), M, nx)
     else bif Nat.ble (m * bytes) 140737488355328 && Nat.ble m 4611686018427387904 && Nat.blt nx 16777215 then some (.sl nx 0 m none size, M.set nx (some (.cells ns)), nx + 1) else none
   | some (.sl l off n cap e)=>bif Nat.beq m 0 then some (.sl l off n cap e, M, nx) else
    match M.get l with
    | some (.cells cs)=>
     bif Nat.ble ((n + m) * bytes) 140737488355328 && Nat.ble (n + m) 4611686018427387904 && Nat.blt nx 16777215 && Nat.ble (off + n * size) cs.length then
      match cap with
      | some c=>bif Nat.ble (n + m) c then
        bif Nat.ble lim l && Nat.ble (off + (n + m) * size) cs.length then some (.sl l off (n + m) (some c) e, M.set l (some (.cells (zc2 cs (off + n * size) ns))), nx) else none
       else some (.sl nx 0 (n + m) none size, M.set nx (some (.cells ((cs.drop off).take (n * size) ++ ns))), nx + 1)
      | none=>bif Nat.beq e size && Nat.ble lim l then
        bif Nat.ble (off + (n + m) * size) cs.length then some (.sl l off (n + m) none e, M.set l (some (.cells (zc2 cs (off + n * size) ns))), nx)
        else some (.sl nx 0 (n + m) none size, (M.set l none).set nx (some (.cells ((cs.drop off).take (n * size) ++ ns))), nx + 1)
       else none
     else none
    | _=>none
   | _=>none
  | none=>none
 | none=>none
theorem MRel.drew {B:Nat} {ρ:Rho} {w:World} (h:MRel B ρ M w):MRel B ρ M w.drew:=⟨fun l o' hl=>by
 obtain ⟨b, h1, h2, h3⟩:=h.obj l o' hl
 exact ⟨b, h1, h2, h3.keep (fun _ _ h=>h) rfl⟩, h.dist⟩
theorem Post.drew {B:Nat} {ρ:Rho} {w w':World} {K:Rho -> Prop} (h:Post lim B nx nx' ρ M M' w.drew w' K):Post lim B nx nx' ρ M M' w w' K:=by
 obtain ⟨ρ', g, m, k⟩:=h
 exact ⟨ρ', ⟨g.ext, g.le, ⟨g.below.os, g.below.tape, g.below.output, g.below.size, g.below.block⟩, g.unch, g.old, g.dead, g.new, g.fin⟩, m, k⟩
theorem zj1 {T T':TypeId} {s x:Operand} (ho:o.op = .call { callee:=.builtin .append, args:=#[s, x], argTypes:=#[T, T'] }) (h:zfB P lim fr M nx T T' s x = some (v, M', nx')):OpS P lim fr M nx o v M' nx':=by
 unfold zfB at h
 split at h
 ·rename_i E size bytes hel
  have hel':=zi5 hel
  split at h
  ·rename_i m ns hsrc
   split at h
   ·rename_i hs
    cases h0:Nat.beq m 0 with
    | true=>
     simp only[h0, cond_true, zLs, zLp] at h
     obtain ⟨rfl, rfl, rfl⟩:=h
     have hm0:=qI.1 h0
     subst hm0
     refine qM fun B n ρ w a hm hf=>?_
     obtain ⟨us, hS, _⟩:=zcC hm hf hsrc
     have h1:=zY hf hs
     simp only[VRel] at h1
     exact ⟨_, jI ho (by rw [h1.1]; exact zbB hel' _ _ _ _ (Nat.le_refl _) hS), by simp [VRel, Value.oneCell']⟩
    | false=>
     simp only[h0, cond_false] at h
     have hm0:0 < m:=by have:=zaq.1 h0; omega
     cases hc:(Nat.ble (m * bytes) 140737488355328 && Nat.ble m 4611686018427387904 && Nat.blt nx 16777215) with
     | false=>simp [hc] at h
     | true=>
      simp only[hc, cond_true, zLs, zLp] at h
      obtain ⟨rfl, rfl, rfl⟩:=h
      simp only[zLa] at hc
      have c1:=zLb hc.1.1
      have c2:=zLb hc.1.2
      have c3:=qo.1 hc.2
      intro B n ρ w a hlim hfin hB hf hm hfr
      obtain ⟨us, hS, e3⟩:=zcC hm hfr hsrc
      have e2:=hS.newsLen
      have e4:=hS.one
      have h1:=zY hfr hs
      simp only[VRel] at h1
      obtain ⟨cap', zs, r1, r2, r3, r4⟩:=append_nil hel' o.type w _ m us hS hm0 c1 (by unfold maxLen; omega)
      refine ⟨_, _, .inl (jI ho (by rw [h1.1]; exact r1)), Post.drew (zzS (b:=⟨w.heap.size, 0, cap' * size⟩) hm.drew hfin hB hlim c3 hf rfl ⟨_, E, (0, 0), heap_alloc_new w.drew _, .inl rfl, ?_, ?_, ?_⟩ ?_)⟩
      ·simp only[List.size_toArray, Nat.zero_add]; exact r2
      ·rw [← e3.length, e2]; exact Nat.mul_le_mul_right _ r3
      ·exact (VRelL.take_app e3 e4).ext (jc (hf nx (Nat.le_refl _) (by omega)))
      ·simp only[VRel]; exact ⟨⟨w.heap.size, 0, cap' * size⟩, by simp [upd], cap', rfl, r3, r4, hel'.2.choose_spec.choose_spec.2.2.2.2.2, by simp⟩
   ·rename_i l off n cap e hs
    cases h0:Nat.beq m 0 with
    | true=>
     simp only[h0, cond_true, zLs, zLp] at h
     obtain ⟨rfl, rfl, rfl⟩:=h
     have hm0:=qI.1 h0
     subst hm0
     refine qM fun B n' ρ w a hm hf=>?_
     obtain ⟨us, hS, _⟩:=zcC hm hf hsrc
     have h1:=zY hf hs
     have h1':=h1
     simp only[VRel] at h1'
     obtain ⟨b, hb, c', e2, h2, _⟩:=h1'
     exact ⟨_, jI ho (by rw [e2]; exact zbB hel' _ _ _ _ h2 hS), by rw [← e2]; exact h1⟩
    | false=>
     simp only[h0, cond_false] at h
     have hm0:0 < m:=by have:=zaq.1 h0; omega
     split at h
     ·rename_i cs hl
      cases hc:(Nat.ble ((n + m) * bytes) 140737488355328 && Nat.ble (n + m) 4611686018427387904 && Nat.blt nx 16777215 && Nat.ble (off + n * size) cs.length) with
      | false=>simp [hc] at h
      | true=>
       simp only[hc, cond_true] at h
       simp only[zLa] at hc
       have c1:=zLb hc.1.1.1
       have c2:=zLb hc.1.1.2
       have c3:=qo.1 hc.1.2
       have c4:=zLb hc.2
       have hpos:0 < size:=hel'.2.choose_spec.choose_spec.2.2.2.2.2
       have hmul:(n + m) * size = n * size + m * size:=Nat.add_mul _ _ _
       -- in place
       have room:∀ (B n':Nat) (ρ:Rho) (w:World) (a:Act) (b:RB) (c':Nat), lim <= l -> off + (n + m) * size <= cs.length -> (∀ l, nx <= l -> M.get l = none) -> MRel B ρ M w -> FrRel ρ n' fr a.tmps -> ρ l = some b -> a.eval s = .slice (some ⟨b.blk, b.base + off, none⟩) n c' -> n + m <= c' -> VRel ρ (.sl l off (n + m) cap e) (.slice (some ⟨b.blk, b.base + off, none⟩) (n + m) c') ->
         ∃ u w', (execOp a.eval o).run P w = .ok (.value u) w' /\ Post lim B nx nx ρ M (M.set l (some (.cells (zc2 cs (off + n * size) ns)))) w w' (fun ρ'=>VRel ρ' (.sl l off (n + m) cap e) u):=by
        intro B n' ρ w a b c' hlim hroom hfin hm hfr hb hs' hle hv
        obtain ⟨us, hS, e3⟩:=zcC hm hfr hsrc
        have e2:=hS.newsLen
        have e4:=hS.one
        obtain ⟨hu, i, z, hi, hz, hsz, hbt, hzs, _⟩:=hel'
        obtain ⟨b', hb', hB', arr, T0, fz, h2, hz', h3, h4, h5⟩:=hm.obj l _ hl
        rw [hb] at hb'; injection hb' with hb'; subst hb'
        subst hsz
        have hns:ns.length = m * i.size:=by rw [← e3.length, e2]
        obtain ⟨cur', r1, r2, r3⟩:=kD (P:=P) o.type T0 hu hi w b.blk (b.base + off) n c' arr h2 hz' _ m us hS hle (by rw [e2]; omega)
        refine ⟨_, _, jI ho (by rw [hs']; exact r1), ?_⟩
        have hother:∀ g, g ≠ b.blk -> (w.setRow b.blk cur').heap[g]? = w.heap[g]?:=fun g hg=>setRow_other w b.blk g _ hg
        refine kM hm hfin c3 hlim hl hb ⟨rfl, rfl, rfl, by simp, fun k hk=>hother k (by omega)⟩ (fun g _ hg=>hother g hg) ⟨cur', T0, fz, setRow_heap w b.blk arr cur' T0 _ h2, by rw [r2]; exact hz', by rw [r2]; exact h3, ?_, ?_⟩ hv
        ·rw [zbT (by omega)]; exact h4
        ·refine zfX h5 e3 e4 (by omega) fun t=>?_
         rw [r3 t, show b.base + (off + n * i.size) = b.base + off + n * i.size from by omega]
       -- new room, of a slice whose capacity is known
       have olds:∀ (B:Nat) (ρ:Rho) (w:World) (b:RB), MRel B ρ M w -> ρ l = some b -> ∃ us:List Value, us.length = n * size /\ (∀ u ∈ us, u.oneCell' = true) /\ VRelL ρ ((cs.drop off).take (n * size)) us /\ ∀ (j:Nat) (u:Value), us[j]? = some u -> w.cell? ⟨b.blk, b.base + off + j, none⟩ = some u:=by
        intro B ρ w b hm hb
        obtain ⟨b', hb', hB', arr, T0, fz, h2, hz', h3, h4, h5⟩:=hm.obj l _ hl
        rw [hb] at hb'; injection hb' with hb'; subst hb'
        obtain ⟨us, h6, h7, h8, h9⟩:=cells_at h5 (n * size) off c4
        exact ⟨us, h6, h7, h8, fun j u hj=>by rw [cell_of_row w b.blk _ arr _ _ h2]; exact h9 j u hj⟩
       split at h
       ·rename_i cp
        cases hcp:Nat.ble (n + m) cp with
        | true=>
         simp only[hcp, cond_true] at h
         cases hd:(Nat.ble lim l && Nat.ble (off + (n + m) * size) cs.length) with
         | false=>simp [hd] at h
         | true=>
          simp only[hd, cond_true, zLs, zLp] at h
          obtain ⟨rfl, rfl, rfl⟩:=h
          simp only[zLa] at hd
          intro B n' ρ w a hlim hfin hB hf hm hfr
          have h1:=zY hfr hs
          simp only[VRel] at h1
          obtain ⟨b, hb, c', e2, h2, h3, rfl⟩:=h1
          have hle:=zLb hcp
          obtain ⟨u, w', r1, r2⟩:=room B n' ρ w a b c' (zLb hd.1) (zLb hd.2) hfin hm hfr hb e2 hle (by simp only[VRel]; exact ⟨b, hb, c', rfl, hle, h3, rfl⟩)
          exact ⟨u, w', .inl r1, r2⟩
        | false=>
         simp only[hcp, cond_false, zLs, zLp] at h
         obtain ⟨rfl, rfl, rfl⟩:=h
         have hgt:cp < n + m:=by
          rcases Nat.lt_or_ge cp (n + m) with h | h
          ·exact h
          ·rw [Nat.ble_eq_true_of_le h] at hcp; cases hcp
         intro B n' ρ w a hlim hfin hB hf hm hfr
         have h1:=zY hfr hs
         simp only[VRel] at h1
         obtain ⟨b, hb, c', e2, h2, h3, rfl⟩:=h1
         obtain ⟨us, hS, e3⟩:=zcC hm hfr hsrc
         have e2':=hS.newsLen
         have e4:=hS.one
         obtain ⟨os, o1, o2, o3, o4⟩:=olds B ρ w b hm hb
         obtain ⟨cap', zs, r1, r2, r3, r4⟩:=za2 hel' o.type w b.blk (b.base + off) n c' os o1 o4 _ m us hS hgt h2 c1 (by unfold maxLen; omega)
         refine ⟨_, _, .inl (jI ho (by rw [e2]; exact r1)), Post.drew (zzS (b:=⟨w.heap.size, 0, cap' * size⟩) hm.drew hfin hB hlim c3 hf rfl ⟨_, E, (0, 0), heap_alloc_new w.drew _, .inl rfl, ?_, ?_, ?_⟩ ?_)⟩
         ·simp only[List.size_toArray, Nat.zero_add]; exact r2
         ·rw [List.length_append, ← o3.length, ← e3.length, o1, e2', ← Nat.add_mul]; exact Nat.mul_le_mul_right _ r3
         ·refine (VRelL.take_app (o3.append e3) (fun u hu=>?_)).ext (jc (hf nx (Nat.le_refl _) (by omega)))
          rcases List.mem_append.1 hu with h | h
          ·exact o2 u h
          ·exact e4 u h
         ·simp only[VRel]; exact ⟨⟨w.heap.size, 0, cap' * size⟩, by simp [upd], cap', rfl, r3, r4, hpos, by simp⟩
       ·cases hd:(Nat.beq e size && Nat.ble lim l) with
        | false=>simp [hd] at h
        | true=>
         simp only[hd, cond_true] at h
         simp only[zLa] at hd
         have d1:=qI.1 hd.1
         have d2:=zLb hd.2
         subst d1
         cases hr:Nat.ble (off + (n + m) * e) cs.length with
         | true=>
          simp only[hr, cond_true, zLs, zLp] at h
          obtain ⟨rfl, rfl, rfl⟩:=h
          have hr':=zLb hr
          intro B n' ρ w a hlim hfin hB hf hm hfr
          have h1:=zY hfr hs
          simp only[VRel] at h1
          obtain ⟨b, hb, c', e2, h2, h3, h4, h5⟩:=h1
          obtain ⟨b', hb', hB', arr, T0, fz, g2, gz, g3, g4, g5⟩:=hm.obj l _ hl
          rw [hb] at hb'; injection hb' with hb'; subst hb'
          have hle:n + m <= c':=by
           have:(n + m) * e <= c' * e:=by omega
           exact Nat.le_of_mul_le_mul_right this h4
          obtain ⟨u, w', r1, r2⟩:=room B n' ρ w a b c' d2 hr' hfin hm hfr hb e2 hle (by simp only[VRel]; exact ⟨b, hb, c', rfl, hle, h3, h4, h5⟩)
          exact ⟨u, w', .inl r1, r2⟩
         | false=>
          simp only[hr, cond_false, zLs, zLp] at h
          obtain ⟨rfl, rfl, rfl⟩:=h
          intro B n' ρ w a hlim hfin hB hf hm hfr
          have h1:=zY hfr hs
          simp only[VRel] at h1
          obtain ⟨b, hb, c', e2, h2, h3, h4, h5⟩:=h1
          obtain ⟨us, hS, e3⟩:=zcC hm hfr hsrc
          have e2':=hS.newsLen
          have e4:=hS.one
          obtain ⟨os, o1, o2, o3, o4⟩:=olds B ρ w b hm hb
          obtain ⟨b', hb', hB', arr, T0, fz, g2, gz, g3, g4, g5⟩:=hm.obj l _ hl
          rw [hb] at hb'; injection hb' with hb'; subst hb'
          have hfr0:=hf nx (Nat.le_refl _) (by omega)
          have hone:∀ u ∈ os ++ us, u.oneCell' = true:=fun u hu=>by
           rcases List.mem_append.1 hu with h | h
           ·exact o2 u h
           ·exact e4 u h
          by_cases hroom:n + m <= c'
          ·-- in place
           have hmc:(n + m) * e <= c' * e:=Nat.mul_le_mul_right _ hroom
           obtain ⟨hu, i, z, hi, hz, hsz, hbt, hzs, _⟩:=hel'
           subst hsz
           obtain ⟨cur', r1, r2, r3⟩:=kD (P:=P) o.type T0 hu hi w b.blk (b.base + off) n c' arr g2 gz _ m us hS hroom (by rw [e2']; omega)
           refine ⟨_, _, .inl (jI ho (by rw [e2]; exact r1)), ?_⟩
           have hother:∀ g, g ≠ b.blk -> (w.setRow b.blk cur').heap[g]? = w.heap[g]?:=fun g hg=>setRow_other w b.blk g _ hg
           refine zaO (b':=⟨b.blk, b.base + off, b.cap - off⟩) hm hfin hB hlim c3 hf d2 hl hb ⟨rfl, rfl, rfl, by simp, fun k hk=>hother k (by omega)⟩ (fun g _ hg=>hother g hg) (.inl rfl)
            ⟨cur', T0, fz, setRow_heap w b.blk arr cur' T0 _ g2, by rw [r2]; exact gz, by rw [r2, g3]; simp only; omega, ?_, ?_⟩ ?_
           ·rw [List.length_append, ← o3.length, ← e3.length, o1, e2']; simp only; omega
           ·refine CRel.ext (jc hfr0) fun k v hv=>?_
            obtain ⟨u, q1, q2⟩:=(o3.append e3).get hv
            have hk:=(zLg q1).1
            rw [List.length_append, o1, e2'] at hk
            refine ⟨u, ?_, hone u (List.mem_of_getElem? q1), q2⟩
            show cur'[b.base + off + k]? = some u
            rw [r3, e2']
            by_cases hk2:k < n * i.size
            ·rw [if_neg (by omega)]
             rw [List.getElem?_append_left (by omega)] at q1
             have q3:=o4 k u q1
             rw [cell_of_row w b.blk _ arr _ _ g2] at q3
             exact q3
            ·rw [if_pos (by omega), show b.base + off + k - (b.base + off + n * i.size) = k - os.length from by omega]
             rw [List.getElem?_append_right (by omega)] at q1
             exact q1
           ·simp only[VRel]; exact ⟨⟨b.blk, b.base + off, b.cap - off⟩, by simp [upd], c', rfl, hroom, h3, h4, by simp only; omega⟩
          ·obtain ⟨cap', zs, r1, r2, r3, r4⟩:=za2 hel' o.type w b.blk (b.base + off) n c' os o1 o4 _ m us hS (by omega) h2 c1 (by unfold maxLen; omega)
           refine ⟨_, _, .inl (jI ho (by rw [e2]; exact r1)), Post.drew (zaO (b':=⟨w.heap.size, 0, cap' * e⟩) hm.drew hfin hB hlim c3 hf d2 hl hb ((Av.below_alloc w.drew _).mono hB) (fun g hg _=>(Av.below_alloc w.drew _).block g hg) (.inr rfl) ⟨_, E, (0, 0), heap_alloc_new w.drew _, .inl rfl, ?_, ?_, ?_⟩ ?_)⟩
           ·simp only[List.size_toArray, Nat.zero_add]; exact r2
           ·rw [List.length_append, ← o3.length, ← e3.length, o1, e2', ← Nat.add_mul]; exact Nat.mul_le_mul_right _ r3
           ·exact (VRelL.take_app (o3.append e3) hone).ext (jc hfr0)
           ·simp only[VRel]; exact ⟨⟨w.heap.size, 0, cap' * e⟩, by simp [upd], cap', rfl, r3, r4, h4, by simp⟩
     ·cases h
   ·cases h
  ·cases h
 ·cases h
end
end
end Go.Bv
end
section
namespace Go.Bv
open Go.RowKit
noncomputable section
section
variable {P:Program} {lim:Nat} {fr:Fr} {M:Mem} {nx:Nat} {o:Oper} {v:VV} {M':Mem} {nx':Nat}
def notNil:VV -> VV -> TypeDesc -> Bool
 | .ptr _ _, .c (.pointer none), .pointer _=>true
 | .sl _ _ _ _ _, .c (.slice none _ _), .slice _=>true
 | .mp _, .c (.map none), .map _ _=>true
 | .fn _ _ _, .c .nilFunc, .func _ _ _=>true
 | .ifc _ _, .c .nilIface, .interface _=>true
 | _, _, _=>false
def zeU (P:Program) (fr:Fr) (M:Mem) (nx:Nat) (op:BinOp) (T:TypeId) (x y:Operand):jE:=match evV fr x, evV fr y, P.underlying T with
 | some a, some b, some d=>bif notNil a b d then match op with
   | .eql=>some (.c (.bool false), M, nx)
   | .neq=>some (.c (.bool true), M, nx)
   | _=>none
  else none
 | _, _, _=>none
theorem zpy {d:Nat} {a b:VV} {t:TypeDesc} {T:TypeId} {x y:Value} {ρ:Rho} (h:notNil a b t = true) (hu:P.underlying T = some t) (hx:VRel ρ a x) (hy:VRel ρ b y) (w:World):(Op.equalIn (d + 1) T x y).run P w = .ok false w:=by
 unfold notNil at h
 split at h
 ·simp only[VRel] at hx hy
  obtain ⟨bb, _, rfl⟩:=hx
  obtain ⟨rfl, _⟩:=hy
  simp [Op.equalIn, run_underlying hu]
 ·simp only[VRel] at hx hy
  obtain ⟨bb, _, c, rfl, _⟩:=hx
  obtain ⟨rfl, _⟩:=hy
  simp [Op.equalIn, run_underlying hu]
 ·simp only[VRel] at hx hy
  obtain ⟨bb, _, rfl⟩:=hx
  obtain ⟨rfl, _⟩:=hy
  simp [Op.equalIn, run_underlying hu]
 ·simp only[VRel] at hx hy
  obtain ⟨us, vs, rfl, _⟩:=hx
  obtain ⟨rfl, _⟩:=hy
  simp [Op.equalIn, run_underlying hu]
 ·simp only[VRel] at hx hy
  obtain ⟨u, rfl, _⟩:=hx
  obtain ⟨rfl, _⟩:=hy
  simp [Op.equalIn, run_underlying hu]
 ·cases h
theorem zfR {ρ:Rho} {a b:VV} {d:TypeDesc} {T:TypeId} {x y:Value} (h:notNil a b d = true) (hu:P.underlying T = some d) (hx:VRel ρ a x) (hy:VRel ρ b y) (w:World):
  (Op.equal T x y).run P w = .ok false w /\ (∀ op o1 o2, (eqGuard op T o1 o2 x y).run P w = .ok () w) /\ binOp .eql T x y = (do pure (.bool (← Op.equal T x y)):Sem Value) /\ binOp .neq T x y = (do pure (.bool (!(← Op.equal T x y))):Sem Value):=by
 refine ⟨zpy (d:=9999) h hu hx hy w, ?_⟩
 unfold notNil at h
 split at h
 ·simp only[VRel] at hx hy
  obtain ⟨bb, _, rfl⟩:=hx
  obtain ⟨rfl, _⟩:=hy
  exact ⟨fun op o1 o2=>by unfold eqGuard; split <;> rfl, rfl, rfl⟩
 ·simp only[VRel] at hx hy
  obtain ⟨bb, _, c, rfl, _⟩:=hx
  obtain ⟨rfl, _⟩:=hy
  exact ⟨fun op o1 o2=>by unfold eqGuard; split <;> rfl, rfl, rfl⟩
 ·simp only[VRel] at hx hy
  obtain ⟨bb, _, rfl⟩:=hx
  obtain ⟨rfl, _⟩:=hy
  exact ⟨fun op o1 o2=>by unfold eqGuard; split <;> rfl, rfl, rfl⟩
 ·simp only[VRel] at hx hy
  obtain ⟨us, vs, rfl, _⟩:=hx
  obtain ⟨rfl, _⟩:=hy
  exact ⟨fun op o1 o2=>by unfold eqGuard; split <;> rfl, rfl, rfl⟩
 ·simp only[VRel] at hx hy
  obtain ⟨u, rfl, _⟩:=hx
  obtain ⟨rfl, _⟩:=hy
  exact ⟨fun op o1 o2=>by unfold eqGuard; split <;> rfl, rfl, rfl⟩
 ·cases h
theorem zfd {op:BinOp} {T U:TypeId} {x y:Operand} (ho:o.op = .binOp op T x y U) (h:zeU P fr M nx op T x y = some (v, M', nx')):OpS P lim fr M nx o v M' nx':=by
 unfold zeU at h
 split at h
 ·rename_i a b d hx hy hu
  cases hn:notNil a b d with
  | false=>simp [hn] at h
  | true=>
   simp only[hn, cond_true] at h
   split at h
   ·simp only[zLs, zLp] at h
    obtain ⟨rfl, rfl, rfl⟩:=h
    refine qM fun B n ρ w a' hm hf=>⟨.bool false, ?_, by simp [VRel, Value.oneCell']⟩
    obtain ⟨h1, h2, h3, h4⟩:=zfR hn hu (zY hf hx) (zY hf hy) w
    simp [execOp, ho, h2, h3, h1]
   ·simp only[zLs, zLp] at h
    obtain ⟨rfl, rfl, rfl⟩:=h
    refine qM fun B n ρ w a' hm hf=>⟨.bool true, ?_, by simp [VRel, Value.oneCell']⟩
    obtain ⟨h1, h2, h3, h4⟩:=zfR hn hu (zY hf hx) (zY hf hy) w
    simp [execOp, ho, h2, h4, h1]
   ·cases h
 ·cases h
def zc5 (fr:Fr) (M:Mem) (nx:Nat) (x:Operand):jE:=match evV fr x with
 | some (.ptr l off)=>some (.ptr l off, M, nx)
 | _=>none
theorem zgs {x:Operand} (ho:o.op = .nilCheck x) (h:zc5 fr M nx x = some (v, M', nx')):OpS P lim fr M nx o v M' nx':=by
 unfold zc5 at h
 split at h
 ·rename_i l off hx
  simp only[zLs, zLp] at h
  obtain ⟨rfl, rfl, rfl⟩:=h
  refine qM fun B n ρ w a hm hf=>?_
  have h1:=zY hf hx
  have h1':=h1
  simp only[VRel] at h1'
  obtain ⟨b, hb, e⟩:=h1'
  exact ⟨a.eval x, by simp [execOp, ho, e], h1⟩
 ·cases h
def zd1 (P:Program) (fr:Fr) (M:Mem) (nx:Nat) (T:TypeId) (r:Option Operand):jE:=match r with
 | none=>bif Nat.blt nx 16777215 then some (.mp nx, M.set nx (some (.map [] 0)), nx + 1) else none
 | some x=>match ziI fr x, P.underlying T with
  | some _, some (.map _ _)=>bif Nat.blt nx 16777215 then some (.mp nx, M.set nx (some (.map [] 0)), nx + 1) else none
  | _, _=>none
theorem zhW {T:TypeId} {r:Option Operand} (ho:o.op = .makeMap T r) (h:zd1 P fr M nx T r = some (v, M', nx')):OpS P lim fr M nx o v M' nx':=by
 have key:nx < 16777215 -> v = .mp nx -> M' = M.set nx (some (.map [] 0)) -> nx' = nx + 1 -> (∀ (n:Nat) (ρ:Rho) (w:World) (a:Act), FrRel ρ n fr a.tmps -> (execOp a.eval o).run P w = .ok (.value (.map (some w.heap.size))) (w.alloc (.map #[] 0))) -> OpS P lim fr M nx o v M' nx':=by
  intro hnx h1 h2 h3 hrun
  subst h1; subst h2; subst h3
  intro B n ρ w a hlim hfin hB hf hm hfr
  refine ⟨_, _, .inl (hrun n ρ w a hfr), zzS (b:=⟨w.heap.size, 0, 0⟩) hm hfin hB hlim hnx hf rfl ⟨#[], heap_alloc_new w _, by simp, by simp⟩ (by simp only[VRel]; exact ⟨⟨w.heap.size, 0, 0⟩, by simp [upd], rfl⟩)⟩
 unfold zd1 at h
 split at h
 ·cases hc:Nat.blt nx 16777215 with
  | false=>simp [hc] at h
  | true=>
   simp only[hc, cond_true, zLs, zLp] at h
   exact key (qo.1 hc) h.1.symm h.2.1.symm h.2.2.symm fun n ρ w a hfr=>by simp [execOp, ho, Instr.makeMap, newObj, Sem.run]
 ·rename_i x
  split at h
  ·rename_i kp kt et hi hu
   cases hc:Nat.blt nx 16777215 with
   | false=>simp [hc] at h
   | true=>
    simp only[hc, cond_true, zLs, zLp] at h
    exact key (qo.1 hc) h.1.symm h.2.1.symm h.2.2.symm fun n ρ w a hfr=>by
     have:=zae (k:=kp.1) (p:=kp.2) hfr hi
     simp [execOp, ho, Instr.makeMap, newObj, Sem.run, run_underlying hu, this, asInt, asIntOf]
  ·cases h
theorem zea {α β:Type} {f:α -> Sem β}:∀ (n:Nat) (s:Sem α) (x:β), wJ P n (s >>= f) = some x -> ∃ a m, wJ P n s = some a /\ wJ P m (f a) = some x
 | 0, _, _, h=>by simp [wJ] at h
 | n + 1, .pure a, x, h=>⟨a, n + 1, rfl, h⟩
 | n + 1, .program k, x, h=>by
  have h':wJ P n (k P >>= f) = some x:=h
  obtain ⟨a, m, h1, h2⟩:=zea n (k P) x h'
  exact ⟨a, m, h1, h2⟩
 | n + 1, .mark k s, x, h=>by
  have h':wJ P n (s >>= f) = some x:=h
  obtain ⟨a, m, h1, h2⟩:=zea n s x h'
  exact ⟨a, m, h1, h2⟩
 | n + 1, .load .., x, h=>by simp [Bind.bind, Sem.bind, wJ] at h
 | n + 1, .store .., x, h=>by simp [Bind.bind, Sem.bind, wJ] at h
 | n + 1, .new .., x, h=>by simp [Bind.bind, Sem.bind, wJ] at h
 | n + 1, .shape .., x, h=>by simp [Bind.bind, Sem.bind, wJ] at h
 | n + 1, .freeze .., x, h=>by simp [Bind.bind, Sem.bind, wJ] at h
 | n + 1, .frozen .., x, h=>by simp [Bind.bind, Sem.bind, wJ] at h
 | n + 1, .getObj .., x, h=>by simp [Bind.bind, Sem.bind, wJ] at h
 | n + 1, .setObj .., x, h=>by simp [Bind.bind, Sem.bind, wJ] at h
 | n + 1, .choose .., x, h=>by simp [Bind.bind, Sem.bind, wJ] at h
 | n + 1, .sys .., x, h=>by simp [Bind.bind, Sem.bind, wJ] at h
 | n + 1, .halt .., x, h=>by simp [Bind.bind, Sem.bind, wJ] at h
theorem zdo (kind:TypeDesc) (k:Value):∀ (d l:List MapEntry) (i:Nat) (r:Option (Nat × Value)), d.map (·.key) = l.map (·.key) -> Instr.findNow kind k d i = some r ->
  (r = none -> Instr.findNow kind k l i = some none) /\ (∀ j v, r = some (j, v) -> i <= j /\ ∃ e, l[j - i]? = some e /\ Instr.findNow kind k l i = some (some (j, e.val)))
 | [], l, i, r, hk, h=>by
  cases l with
  | cons=>simp at hk
  | nil=>simp only[Instr.findNow, zLs] at h; subst h; simp [Instr.findNow]
 | a :: d, l, i, r, hk, h=>by
  cases l with
  | nil=>simp at hk
  | cons b l=>
   simp only[List.map_cons, List.cons.injEq] at hk
   simp only[Instr.findNow, hk.1] at h
   split at h
   ·rename_i hs
    simp only[zLs] at h
    subst h
    refine ⟨by simp, fun j v e=>?_⟩
    simp only[zLs, zLp] at e
    obtain ⟨rfl, rfl⟩:=e
    exact ⟨Nat.le_refl _, b, by simp, by simp only[Instr.findNow, hs]⟩
   ·rename_i hs
    obtain ⟨h1, h2⟩:=zdo kind k d l (i + 1) r hk.2 h
    refine ⟨fun e=>by simp only[Instr.findNow, hs]; exact h1 e, fun j v e=>?_⟩
    obtain ⟨h3, e', h4, h5⟩:=h2 j v e
    exact ⟨by omega, e', by rw [show j - i = (j - (i + 1)) + 1 from by omega]; simpa using h4, by simp only[Instr.findNow, hs]; exact h5⟩
   ·cases h
theorem zdM (kind:TypeDesc) (k:Value):∀ (d l:List MapEntry) (i:Nat), d.map (·.key) = l.map (·.key) -> Instr.findNow kind k d i = none -> Instr.findNow kind k l i = none
 | [], l, i, hk, h=>by simp [Instr.findNow] at h
 | a :: d, l, i, hk, h=>by
  cases l with
  | nil=>simp at hk
  | cons b l=>
   simp only[List.map_cons, List.cons.injEq] at hk
   simp only[Instr.findNow, hk.1] at h
   split at h
   ·cases h
   ·rename_i hs; simp only[Instr.findNow, hs]; exact zdM kind k d l (i + 1) hk.2 h
   ·rename_i hs; simp only[Instr.findNow, hs]
theorem zbx (kt:TypeId) (k:Value):∀ (d l:List MapEntry) (i n:Nat) (r:Option (Nat × Value)), d.map (·.key) = l.map (·.key) -> wJ P n (Instr.findAsking kt k d i) = some r ->
  (r = none -> ∀ w:World, (Instr.findAsking kt k l i).run P w = .ok none w) /\ (∀ j v, r = some (j, v) -> i <= j /\ ∃ e, l[j - i]? = some e /\ ∀ w:World, (Instr.findAsking kt k l i).run P w = .ok (some (j, e.val)) w)
 | [], l, i, n, r, hk, h=>by
  cases l with
  | cons=>simp at hk
  | nil=>
   cases n with
   | zero=>simp [wJ] at h
   | succ n=>
    have h':some (none:Option (Nat × Value)) = some r:=h
    injection h' with h'
    subst h'
    exact ⟨fun _ w=>rfl, by simp⟩
 | a :: d, l, i, n, r, hk, h=>by
  cases l with
  | nil=>simp at hk
  | cons b l=>
   simp only[List.map_cons, List.cons.injEq] at hk
   simp only[Instr.findAsking, hk.1] at h
   obtain ⟨t, m, h1, h2⟩:=zea n _ r h
   have h1':=zbI n _ t h1
   cases t with
   | true=>
    simp only[if_true] at h2
    cases m with
    | zero=>simp [wJ] at h2
    | succ m=>
     have h':some (some (i, a.val)) = some r:=h2
     injection h' with h'
     subst h'
     refine ⟨by simp, fun j v e=>?_⟩
     simp only[zLs, zLp] at e
     obtain ⟨rfl, rfl⟩:=e
     exact ⟨Nat.le_refl _, b, by simp, fun w=>by simp [Instr.findAsking, h1']⟩
   | false=>
    simp only[Bool.false_eq_true, if_false] at h2
    obtain ⟨h3, h4⟩:=zbx kt k d l (i + 1) m r hk.2 h2
    refine ⟨fun e w=>by simp [Instr.findAsking, h1', h3 e], fun j v e=>?_⟩
    obtain ⟨h5, e', h6, h7⟩:=h4 j v e
    exact ⟨by omega, e', by rw [show j - i = (j - (i + 1)) + 1 from by omega]; simpa using h6, fun w=>by simp [Instr.findAsking, h1', h7]⟩
def ziR (P:Program) (kt:TypeId) (k:Value) (ks:List Value):Option (Option Nat):=match P.underlying kt with
 | some kind=>let d:=ks.map fun q=>(⟨q, .bool false, 0⟩:MapEntry)
  match Instr.findNow kind k d 0 with
  | some r=>some (r.map (·.1))
  | none=>(wJ P 100000 (Instr.findAsking kt k d 0)).map fun r=>r.map (·.1)
 | none=>none
theorem zay {kt:TypeId} {k:Value} {ks:List Value} {r:Option Nat} {l:List MapEntry} (h:ziR P kt k ks = some r) (hk:l.map (·.key) = ks):
  (r = none -> ∀ w:World, (Instr.findKey kt k l).run P w = .ok none w) /\ (∀ j, r = some j -> ∃ e, l[j]? = some e /\ ∀ w:World, (Instr.findKey kt k l).run P w = .ok (some (j, e.val)) w):=by
 unfold ziR at h
 split at h
 ·rename_i kind hu
  have hd:(ks.map fun q=>(⟨q, .bool false, 0⟩:MapEntry)).map (·.key) = l.map (·.key):=by rw [hk]; simp [Function.comp_def]
  simp only at h
  split at h
  ·rename_i r0 hr0
   simp only[zLs] at h
   obtain ⟨h1, h2⟩:=zdo kind k _ l 0 r0 hd hr0
   refine ⟨fun e w=>?_, fun j e=>?_⟩
   ·cases r0 with
    | some=>simp at h; subst h; cases e
    | none=>simp [Instr.findKey, run_underlying hu, h1 rfl]
   ·cases r0 with
    | none=>simp at h; subst h; cases e
    | some p=>
     simp at h; subst h
     injection e with e; subst e
     obtain ⟨_, e', h3, h4⟩:=h2 p.1 p.2 rfl
     exact ⟨e', by simpa using h3, fun w=>by simp [Instr.findKey, run_underlying hu, h4]⟩
  ·rename_i hr0
   have hn:=zdM kind k _ l 0 hd hr0
   simp only[Option.map_eq_some_iff] at h
   obtain ⟨r0, h0, rfl⟩:=h
   obtain ⟨h1, h2⟩:=zbx kt k _ l 0 _ r0 hd h0
   refine ⟨fun e w=>?_, fun j e=>?_⟩
   ·cases r0 with
    | some=>cases e
    | none=>simp [Instr.findKey, run_underlying hu, hn, h1 rfl]
   ·cases r0 with
    | none=>cases e
    | some p=>
     simp at e; subst e
     obtain ⟨_, e', h3, h4⟩:=h2 p.1 p.2 rfl
     exact ⟨e', by simpa using h3, fun w=>by simp [Instr.findKey, run_underlying hu, hn, h4]⟩
 ·cases h
def ze6:List VE -> Option (List Value)
 | []=>some []
 | e :: es=>match cst e.key, ze6 es with
  | some k, some ks=>some (k :: ks)
  | _, _=>none
theorem xR {ρ:Rho}:∀ {es:List VE} {ks:List Value} {l:List MapEntry}, ze6 es = some ks -> ERel ρ es l -> l.map (·.key) = ks
 | [], ks, l, h, hr=>by
  simp only[ze6, zLs] at h; subst h
  have:=hr.1
  cases l with
  | nil=>rfl
  | cons=>simp at this
 | e :: es, ks, l, h, hr=>by
  simp only[ze6] at h
  split at h
  ·rename_i k ks' h1 h2
   simp only[zLs] at h
   subst h
   cases l with
   | nil=>have:=hr.1; simp at this
   | cons m l=>
    have h3:=hr.2 0 e m (by simp) (by simp)
    have h4:ERel ρ es l:=⟨by have:=hr.1; simpa using this, fun i a b ha hb=>hr.2 (i + 1) a b (by simpa using ha) (by simpa using hb)⟩
    simp only[List.map_cons]
    rw [zdk _ _ _ h1 h3.1, xR h2 h4]
  ·cases h
def zb2 (P:Program) (empty:Bool) (kt:TypeId) (k:Value):Bool:=match wJ P 100000 (Instr.checkKey empty 10000 kt k) with | some _=>true | none=>false
theorem zaQ {empty:Bool} {kt:TypeId} {k:Value} (h:zb2 P empty kt k = true) (w:World):(Instr.checkKey empty 10000 kt k).run P w = .ok () w:=by
 unfold zb2 at h
 split at h
 ·rename_i u hu; exact zbI _ _ _ hu w
 ·cases h
def zeroV (P:Program) (T:TypeId):Option VV:=match P.info? T with
 | some i=>match i.zero with | some z=>some (zjs z) | none=>none
 | none=>none
theorem zkb {ρ:Rho} {T:TypeId} {z:VV} (h:zeroV P T = some z) (w:World):∃ u, (zeroValue T).run P w = .ok u w /\ VRel ρ z u:=by
 unfold zeroV at h
 split at h
 ·rename_i i hi
  split at h
  ·rename_i u hu
   simp only[zLs] at h
   subst h
   exact ⟨u, by simp [zeroValue, typeInfo, hi, hu], zee u⟩
  ·cases h
 ·cases h
def zpi (fr:Fr) (M:Mem) (x:Operand):Option (List VE):=match evV fr x with
 | some (.mp l)=>match M.get l with
  | some (.map es _)=>some es
  | _=>none
 | some (.c (.map none))=>some []
 | _=>none
theorem zpz {B n:Nat} {ρ:Rho} {w:World} {a:Act} (hm:MRel B ρ M w) (hf:FrRel ρ n fr a.tmps) {x:Operand} {es:List VE} (h:zpi fr M x = some es):
  ∃ arr:Array MapEntry, ERel ρ es arr.toList /\ ((a.eval x = .map none /\ arr = #[]) ∨ ∃ r c, a.eval x = .map (some r) /\ w.heap[r]? = some (.map arr c)):=by
 unfold zpi at h
 split at h
 ·rename_i l hx
  split at h
  ·rename_i es' c hl
   simp only[zLs] at h
   subst h
   have h1:=zY hf hx
   simp only[VRel] at h1
   obtain ⟨b, hb, e⟩:=h1
   obtain ⟨b', hb', _, arr, h2, h3⟩:=hm.obj l _ hl
   rw [hb] at hb'; injection hb' with hb'; subst hb'
   exact ⟨arr, h3, .inr ⟨b.blk, c, e, h2⟩⟩
  ·cases h
 ·rename_i hx
  simp only[zLs] at h
  subst h
  have h1:=zY hf hx
  simp only[VRel] at h1
  exact ⟨#[], ⟨by simp, by simp⟩, .inl ⟨h1.1, rfl⟩⟩
 ·cases h
def zgc (P:Program) (fr:Fr) (M:Mem) (nx:Nat) (T:TypeId) (x i:Operand) (ok:Bool):jE:=match P.underlying T, zpi fr M x, xH fr i with
 | some (.map kt et), some es, some k=>match ze6 es with
  | some ks=>bif zb2 P es.isEmpty kt k then match ziR P kt k ks with
    | some (some j)=>match es[j]? with
     | some e=>some (bif ok then .tup [e.val, .c (.bool true)] else e.val, M, nx)
     | none=>none
    | some none=>match zeroV P et with
     | some z=>some (bif ok then .tup [z, .c (.bool false)] else z, M, nx)
     | none=>none
    | none=>none
   else none
  | none=>none
 | _, _, _=>none
theorem yU {ρ:Rho} {n:Nat} {a:Act} (hf:FrRel ρ n fr a.tmps) {x:Operand} {k:Value} (h:xH fr x = some k):a.eval x = k:=by
 unfold xH at h
 split at h
 ·rename_i y hy; exact zdk y k _ h (zY hf hy)
 ·cases h
theorem zo0 {ρ:Rho} {z:VV} {u:Value} {b ok:Bool} (h:VRel ρ z u):VRel ρ (bif ok then .tup [z, .c (.bool b)] else z) (if ok then .tuple #[u, .bool b] else u):=by
 cases ok with
 | false=>exact h
 | true=>simp only[cond_true, if_true, VRel]; exact ⟨[u, .bool b], rfl, by simp only[VRelL]; exact ⟨_, _, rfl, h, _, _, rfl, by simp [VRel, Value.oneCell'], rfl⟩⟩
theorem zjK {T:TypeId} {x i:Operand} {ok:Bool} (ho:o.op = .lookup T x i ok) (h:zgc P fr M nx T x i ok = some (v, M', nx')):OpS P lim fr M nx o v M' nx':=by
 unfold zgc at h
 split at h
 ·rename_i kt et es k hu hes hk
  split at h
  ·rename_i ks hks
   cases hc:zb2 P es.isEmpty kt k with
   | false=>simp [hc] at h
   | true=>
    simp only[hc, cond_true] at h
    have run:∀ (B n:Nat) (ρ:Rho) (w:World) (a:Act), MRel B ρ M w -> FrRel ρ n fr a.tmps -> ∃ arr:Array MapEntry, ERel ρ es arr.toList /\
      (∀ (j:Nat) (mv:Value), (Instr.findKey kt k arr.toList).run P w = .ok (some (j, mv)) w -> (execOp a.eval o).run P w = .ok (.value (if ok then .tuple #[mv, .bool true] else mv)) w) /\
      (∀ (u:Value), (Instr.findKey kt k arr.toList).run P w = .ok none w -> (zeroValue et).run P w = .ok u w -> (execOp a.eval o).run P w = .ok (.value (if ok then .tuple #[u, .bool false] else u)) w):=by
     intro B n ρ w a hm hf
     obtain ⟨arr, h1, h2⟩:=zpz hm hf hes
     have he:arr.isEmpty = es.isEmpty:=by
      have h3:=h1.1
      simp only[Array.length_toList] at h3
      rw [Bool.eq_iff_iff]
      simp only[Array.isEmpty_iff_size_eq_zero, List.isEmpty_iff_length_eq_zero, h3]
     have hck:=zaQ hc w
     rw [← he] at hck
     have hkk:=yU hf hk
     refine ⟨arr, h1, fun j mv hr=>?_, fun u hr hz=>?_⟩
     ·simp only[execOp, ho, Instr.lookup, Sem.run_bind, run_underlying hu, Result.andThen_ok, hkk]
      rcases h2 with ⟨e, rfl⟩ | ⟨r, c, e, hh⟩
      ·rw [e]
       simp only[Sem.run_bind, Sem.run_pure, Result.andThen_ok, hck, hr]
      ·rw [e]
       have hg:(getObj r).run P w = .ok (.map arr c) w:=by simp [getObj, Sem.run, hh]
       simp only[Sem.run_bind, hg, Sem.run_pure, Result.andThen_ok, hck, hr]
     ·simp only[execOp, ho, Instr.lookup, Sem.run_bind, run_underlying hu, Result.andThen_ok, hkk]
      rcases h2 with ⟨e, rfl⟩ | ⟨r, c, e, hh⟩
      ·rw [e]
       simp only[Sem.run_bind, Sem.run_pure, Result.andThen_ok, hck, hr, hz]
      ·rw [e]
       have hg:(getObj r).run P w = .ok (.map arr c) w:=by simp [getObj, Sem.run, hh]
       simp only[Sem.run_bind, hg, Sem.run_pure, Result.andThen_ok, hck, hr, hz]
    split at h
    ·rename_i j hj
     split at h
     ·rename_i e he
      simp only[zLs, zLp] at h
      obtain ⟨rfl, rfl, rfl⟩:=h
      refine qM fun B n ρ w a hm hf=>?_
      obtain ⟨arr, h1, h2⟩:=run B n ρ w a hm hf
      obtain ⟨m, h3, h4⟩:=(zay hj (xR hks h1)).2 j rfl
      have h5:=h1.2 j e m he h3
      exact ⟨_, h2.1 j m.val (h4 w), zo0 h5.2.1⟩
     ·cases h
    ·rename_i hj
     split at h
     ·rename_i z hz
      simp only[zLs, zLp] at h
      obtain ⟨rfl, rfl, rfl⟩:=h
      refine qM fun B n ρ w a hm hf=>?_
      obtain ⟨arr, h1, h2⟩:=run B n ρ w a hm hf
      have h4:=(zay hj (xR hks h1)).1 rfl
      obtain ⟨u, h5, h6⟩:=zkb (ρ:=ρ) hz w
      exact ⟨_, h2.2 u (h4 w) h5, zo0 h6⟩
     ·cases h
    ·cases h
  ·cases h
 ·cases h
end
end
end Go.Bv
end
section
namespace Go.Bv
open Go.RowKit
noncomputable section
section
variable {P:Program} {lim:Nat} {fr:Fr} {M:Mem} {nx:Nat} {o:Oper} {v:VV} {M':Mem} {nx':Nat}
theorem ERel.set {ρ:Rho} {es:List VE} {arr:Array MapEntry} {j:Nat} {e':VE} {f:MapEntry -> MapEntry} (h:ERel ρ es arr.toList) (hf:∀ m, arr.toList[j]? = some m -> VRel ρ e'.key (f m).key /\ VRel ρ e'.val (f m).val /\ (f m).born = e'.born):
  ERel ρ (es.set j e') (arr.modify j f).toList:=by
 refine ⟨by have:=h.1; simpa using this, fun i e m he hm=>?_⟩
 simp only[Array.getElem?_toList, Array.getElem?_modify] at hm
 by_cases hij:j = i
 ·subst hij
  rw [if_pos rfl] at hm
  simp only[Option.map_eq_some_iff] at hm
  obtain ⟨m0, h1, rfl⟩:=hm
  rw [List.getElem?_set] at he
  simp only[if_true] at he
  split at he
  ·injection he with he; subst he
   exact hf m0 (by simpa using h1)
  ·cases he
 ·rw [if_neg hij] at hm
  rw [List.getElem?_set_ne hij] at he
  exact h.2 i e m he (by simpa using hm)
theorem ERel.push {ρ:Rho} {es:List VE} {arr:Array MapEntry} {e':VE} {m':MapEntry} (h:ERel ρ es arr.toList) (hf:VRel ρ e'.key m'.key /\ VRel ρ e'.val m'.val /\ m'.born = e'.born):ERel ρ (es ++ [e']) (arr.push m').toList:=by
 have hl:=h.1
 refine ⟨by simpa using hl, fun i e m he hm=>?_⟩
 simp only[Array.toList_push] at hm
 rw [List.getElem?_append] at he hm
 rw [hl] at hm
 split at he
 ·rename_i hlt
  rw [if_pos hlt] at hm
  exact h.2 i e m he hm
 ·rename_i hge
  rw [if_neg hge] at hm
  cases hi:i - es.length with
  | zero=>rw [hi] at he hm; simp at he hm; subst he; subst hm; exact hf
  | succ k=>rw [hi] at he; simp at he
theorem zb9 {B l:Nat} {ρ:Rho} {w:World} {es es':List VE} {clock clock':Nat} {b:RB} {arr':Array MapEntry} {K:Rho -> Prop} (hm:MRel B ρ M w) (hfin:∀ l, nx <= l -> M.get l = none) (hnx:nx < 16777215) (hl1:lim <= l)
  (hl:M.get l = some (.map es clock)) (hb:ρ l = some b) (he:ERel ρ es' arr'.toList) (hK:K ρ):
  (setObj b.blk (.map arr' clock')).run P w = .ok () { w with heap:=w.heap.setIfInBounds b.blk (.map arr' clock') } /\ Post lim B nx nx ρ M (M.set l (some (.map es' clock'))) w { w with heap:=w.heap.setIfInBounds b.blk (.map arr' clock') } K:=by
 obtain ⟨b', hb', hB', arr, h2, h3⟩:=hm.obj l _ hl
 rw [hb] at hb'; injection hb' with hb'; subst hb'
 have hlt:=(Array.getElem?_eq_some_iff.1 h2).1
 have hother:∀ g, g ≠ b.blk -> (w.heap.setIfInBounds b.blk (.map arr' clock'))[g]? = w.heap[g]?:=fun g hg=>Array.getElem?_setIfInBounds_ne (Ne.symm hg)
 refine ⟨by simp [setObj, Sem.run, h2], kM hm hfin hnx hl1 hl hb ⟨rfl, rfl, rfl, by simp, fun k hk=>hother k (by omega)⟩ (fun g _ hg=>hother g hg) ⟨arr', by simp [Array.getElem?_setIfInBounds, hlt], he⟩ hK⟩
def zab (P:Program) (lim:Nat) (fr:Fr) (M:Mem) (nx:Nat) (T:TypeId) (m k x:Operand):jE:=match P.underlying T, evV fr m, xH fr k, evV fr k, evV fr x with
 | some (.map kt _), some (.mp l), some kv, some kk, some xv=>match M.get l with
  | some (.map es clock)=>match ze6 es with
   | some ks=>bif zb2 P false kt kv && Nat.ble lim l && Nat.blt nx 16777215 then match ziR P kt kv ks with
     | some (some j)=>match es[j]?, ks[j]? with
      | some e, some ko=>bif Instr.sameBits 10000 ko kv then some (.tup [], M.set l (some (.map (es.set j ⟨kk, xv, e.born⟩) clock)), nx) else none
      | _, _=>none
     | some none=>some (.tup [], M.set l (some (.map (es ++ [⟨kk, xv, clock⟩]) (clock + 1))), nx)
     | none=>none
    else none
   | none=>none
  | _=>none
 | _, _, _, _, _=>none
theorem zb0 {T:TypeId} {m k x:Operand} (ho:o.op = .mapUpdate T m k x ∨ o.op = .insert T m k x) (h:zab P lim fr M nx T m k x = some (v, M', nx')):OpS P lim fr M nx o v M' nx':=by
 unfold zab at h
 split at h
 ·rename_i kt et l kv kk xv hu hm0 hk0 hk1 hx0
  split at h
  ·rename_i es clock hl
   split at h
   ·rename_i ks hks
    cases hc:(zb2 P false kt kv && Nat.ble lim l && Nat.blt nx 16777215) with
    | false=>simp [hc] at h
    | true=>
     simp only[hc, cond_true] at h
     simp only[zLa] at hc
     have c1:=zLb hc.1.2
     have c2:=qo.1 hc.2
     have exec:∀ a:Act, execOp a.eval o = (do Instr.mapUpdate T (a.eval m) (a.eval k) (a.eval x); pure .skip):=fun a=>by
      rcases ho with ho | ho <;> simp [execOp, ho]
     split at h
     ·rename_i j hj
      split at h
      ·rename_i e ko he hko
       cases hs:Instr.sameBits 10000 ko kv with
       | false=>simp [hs] at h
       | true=>
        simp only[hs, cond_true, zLs, zLp] at h
        obtain ⟨rfl, rfl, rfl⟩:=h
        intro B n ρ w a hlim hfin hB hf hm hfr
        have h1:=zY hfr hm0
        simp only[VRel] at h1
        obtain ⟨b, hb, e1⟩:=h1
        obtain ⟨b', hb', _, arr, h2, h3⟩:=hm.obj l _ hl
        rw [hb] at hb'; injection hb' with hb'; subst hb'
        have hkeys:=xR hks h3
        obtain ⟨me, h4, h5⟩:=(zay hj hkeys).2 j rfl
        have hkv:=yU hfr hk0
        have hold:me.key = ko:=by
         rw [← hkeys, List.getElem?_map, h4] at hko
         simpa using hko
        have hstay:(Instr.keyThatStays (((arr[j]?).map (·.key)).getD kv) kv).run P w = .ok kv w:=by
         have:((arr[j]?).map (·.key)).getD kv = ko:=by
          have:arr[j]? = some me:=by simpa using h4
          simp [this, hold]
         rw [this]
         simp [Instr.keyThatStays, hs]
        have hrel:ERel ρ (es.set j ⟨kk, xv, e.born⟩) (arr.modify j fun q=>{ q with key:=kv, val:=a.eval x }).toList:=h3.set fun q hq=>by
         rw [h4] at hq; injection hq with hq; subst hq
         exact ⟨by have:=zY hfr hk1; rw [hkv] at this; exact this, zY hfr hx0, (h3.2 j e me he h4).2.2⟩
        obtain ⟨r1, r2⟩:=zb9 (P:=P) (clock':=clock) (K:=fun ρ'=>VRel ρ' (.tup []) undef) hm hfin c2 c1 hl hb hrel (by simp [VRel, VRelL, undef])
        refine ⟨undef, _, .inr ⟨?_, rfl⟩, r2⟩
        have hg:(getObj b.blk).run P w = .ok (.map arr clock) w:=by simp [getObj, Sem.run, h2]
        rw [exec]
        simp only[Instr.mapUpdate, Sem.run_bind, run_underlying hu, Result.andThen_ok, e1, hg, hkv, zaQ hc.1.1, h5, hstay, r1, Sem.run_pure]
      ·cases h
     ·rename_i hj
      simp only[zLs, zLp] at h
      obtain ⟨rfl, rfl, rfl⟩:=h
      intro B n ρ w a hlim hfin hB hf hm hfr
      have h1:=zY hfr hm0
      simp only[VRel] at h1
      obtain ⟨b, hb, e1⟩:=h1
      obtain ⟨b', hb', _, arr, h2, h3⟩:=hm.obj l _ hl
      rw [hb] at hb'; injection hb' with hb'; subst hb'
      have h5:=(zay hj (xR hks h3)).1 rfl
      have hkv:=yU hfr hk0
      have hrel:ERel ρ (es ++ [⟨kk, xv, clock⟩]) (arr.push { key:=kv, val:=a.eval x, born:=clock }).toList:=h3.push ⟨by have:=zY hfr hk1; rw [hkv] at this; exact this, zY hfr hx0, rfl⟩
      obtain ⟨r1, r2⟩:=zb9 (P:=P) (clock':=clock + 1) (K:=fun ρ'=>VRel ρ' (.tup []) undef) hm hfin c2 c1 hl hb hrel (by simp [VRel, VRelL, undef])
      refine ⟨undef, _, .inr ⟨?_, rfl⟩, r2⟩
      have hg:(getObj b.blk).run P w = .ok (.map arr clock) w:=by simp [getObj, Sem.run, h2]
      rw [exec]
      simp only[Instr.mapUpdate, Sem.run_bind, run_underlying hu, Result.andThen_ok, e1, hg, hkv, zaQ hc.1.1, h5, r1, Sem.run_pure]
     ·cases h
   ·cases h
  ·cases h
 ·cases h
def zc3 (P:Program) (lim:Nat) (fr:Fr) (M:Mem) (nx:Nat) (T:TypeId) (m k:Operand):jE:=match P.underlying T, evV fr m, xH fr k, evV fr k with
 | some (.map kt et), some (.mp l), some kv, some kk=>match M.get l with
  | some (.map es clock)=>match ze6 es with
   | some ks=>bif zb2 P false kt kv && Nat.ble lim l && Nat.blt nx 16777215 then match ziR P kt kv ks with
     | some (some j)=>match es[j]?, ks[j]? with
      | some e, some ko=>bif Instr.sameBits 10000 ko kv then some (.tup [e.val, .c (.int .i64 (e.born:Int))], M.set l (some (.map (es.set j ⟨kk, e.val, e.born⟩) clock)), nx) else none
      | _, _=>none
     | some none=>match zeroV P et with
      | some z=>some (.tup [z, .c (.int .i64 (clock:Int))], M.set l (some (.map (es ++ [⟨kk, z, clock⟩]) (clock + 1))), nx)
      | none=>none
     | none=>none
    else none
   | none=>none
  | _=>none
 | _, _, _, _=>none
theorem zgA {T:TypeId} {m k:Operand} (ho:o.op = .mapEntry T m k) (h:zc3 P lim fr M nx T m k = some (v, M', nx')):OpS P lim fr M nx o v M' nx':=by
 unfold zc3 at h
 split at h
 ·rename_i kt et l kv kk hu hm0 hk0 hk1
  split at h
  ·rename_i es clock hl
   split at h
   ·rename_i ks hks
    cases hc:(zb2 P false kt kv && Nat.ble lim l && Nat.blt nx 16777215) with
    | false=>simp [hc] at h
    | true=>
     simp only[hc, cond_true] at h
     simp only[zLa] at hc
     have c1:=zLb hc.1.2
     have c2:=qo.1 hc.2
     split at h
     ·rename_i j hj
      split at h
      ·rename_i e ko he hko
       cases hs:Instr.sameBits 10000 ko kv with
       | false=>simp [hs] at h
       | true=>
        simp only[hs, cond_true, zLs, zLp] at h
        obtain ⟨rfl, rfl, rfl⟩:=h
        intro B n ρ w a hlim hfin hB hf hm hfr
        have h1:=zY hfr hm0
        simp only[VRel] at h1
        obtain ⟨b, hb, e1⟩:=h1
        obtain ⟨b', hb', _, arr, h2, h3⟩:=hm.obj l _ hl
        rw [hb] at hb'; injection hb' with hb'; subst hb'
        have hkeys:=xR hks h3
        obtain ⟨me, h4, h5⟩:=(zay hj hkeys).2 j rfl
        have hkv:=yU hfr hk0
        have hold:me.key = ko:=by
         rw [← hkeys, List.getElem?_map, h4] at hko
         simpa using hko
        have harr:arr[j]? = some me:=by simpa using h4
        have hstay:(Instr.keyThatStays (((arr[j]?).map (·.key)).getD kv) kv).run P w = .ok kv w:=by
         have:((arr[j]?).map (·.key)).getD kv = ko:=by simp [harr, hold]
         rw [this]
         simp [Instr.keyThatStays, hs]
        have hme:=h3.2 j e me he h4
        have hrel:ERel ρ (es.set j ⟨kk, e.val, e.born⟩) (arr.modify j fun q=>{ q with key:=kv }).toList:=h3.set fun q hq=>by
         rw [h4] at hq; injection hq with hq; subst hq
         exact ⟨by have:=zY hfr hk1; rw [hkv] at this; exact this, hme.2.1, hme.2.2⟩
        obtain ⟨r1, r2⟩:=zb9 (P:=P) (clock':=clock) (K:=fun ρ'=>VRel ρ' (.tup [e.val, .c (.int .i64 (e.born:Int))]) (.tuple #[me.val, goInt me.born])) hm hfin c2 c1 hl hb hrel (by
         simp only[VRel]
         exact ⟨[me.val, goInt me.born], rfl, by simp only[VRelL]; exact ⟨_, _, rfl, hme.2.1, _, _, rfl, by simp [VRel, goInt, hme.2.2, Value.oneCell'], rfl⟩⟩)
        refine ⟨_, _, .inl ?_, r2⟩
        have hg:(getObj b.blk).run P w = .ok (.map arr clock) w:=by simp [getObj, Sem.run, h2]
        simp only[execOp, ho, Instr.mapEntry, Sem.run_bind, run_underlying hu, Result.andThen_ok, e1, hg, hkv, zaQ hc.1.1, h5, hstay, r1, Sem.run_pure]
        simp [harr]
      ·cases h
     ·rename_i hj
      split at h
      ·rename_i z hz
       simp only[zLs, zLp] at h
       obtain ⟨rfl, rfl, rfl⟩:=h
       intro B n ρ w a hlim hfin hB hf hm hfr
       have h1:=zY hfr hm0
       simp only[VRel] at h1
       obtain ⟨b, hb, e1⟩:=h1
       obtain ⟨b', hb', _, arr, h2, h3⟩:=hm.obj l _ hl
       rw [hb] at hb'; injection hb' with hb'; subst hb'
       have h5:=(zay hj (xR hks h3)).1 rfl
       have hkv:=yU hfr hk0
       obtain ⟨u, h6, h7⟩:=zkb (ρ:=ρ) hz w
       have hrel:ERel ρ (es ++ [⟨kk, z, clock⟩]) (arr.push { key:=kv, val:=u, born:=clock }).toList:=h3.push ⟨by have:=zY hfr hk1; rw [hkv] at this; exact this, h7, rfl⟩
       obtain ⟨r1, r2⟩:=zb9 (P:=P) (clock':=clock + 1) (K:=fun ρ'=>VRel ρ' (.tup [z, .c (.int .i64 (clock:Int))]) (.tuple #[u, goInt clock])) hm hfin c2 c1 hl hb hrel (by
         simp only[VRel]
         exact ⟨[u, goInt clock], rfl, by simp only[VRelL]; exact ⟨_, _, rfl, h7, _, _, rfl, by simp [VRel, goInt, Value.oneCell'], rfl⟩⟩)
       refine ⟨_, _, .inl ?_, r2⟩
       have hg:(getObj b.blk).run P w = .ok (.map arr clock) w:=by simp [getObj, Sem.run, h2]
       simp only[execOp, ho, Instr.mapEntry, Sem.run_bind, run_underlying hu, Result.andThen_ok, e1, hg, hkv, zaQ hc.1.1, h5, h6, r1, Sem.run_pure]
      ·cases h
     ·cases h
   ·cases h
  ·cases h
 ·cases h
def zba (lim:Nat) (fr:Fr) (M:Mem) (nx:Nat) (m s x:Operand):jE:=match evV fr m, ziI fr s, evV fr x with
 | some (.mp l), some (_, .ofNat st), some xv=>match M.get l with
  | some (.map es clock)=>match es.findIdx? (fun e=>Nat.beq e.born st) with
   | some j=>match es[j]? with
    | some e=>bif Nat.ble lim l && Nat.blt nx 16777215 then some (.tup [], M.set l (some (.map (es.set j ⟨e.key, xv, e.born⟩) clock)), nx) else none
    | none=>none
   | none=>none
  | _=>none
 | _, _, _=>none
theorem findIdx_born {ρ:Rho} (st:Nat):∀ {es:List VE} {l:List MapEntry}, ERel ρ es l -> l.findIdx? (fun e=>(e.born:Int) == (st:Int)) = es.findIdx? (fun e=>Nat.beq e.born st)
 | [], l, h=>by
  have:=h.1
  cases l with
  | nil=>rfl
  | cons=>simp at this
 | e :: es, l, h=>by
  cases l with
  | nil=>have:=h.1; simp at this
  | cons m l=>
   have h3:=h.2 0 e m (by simp) (by simp)
   have h4:ERel ρ es l:=⟨by have:=h.1; simpa using this, fun i a b ha hb=>h.2 (i + 1) a b (by simpa using ha) (by simpa using hb)⟩
   have hb:((m.born:Int) == (st:Int)) = Nat.beq e.born st:=by
    rw [h3.2.2, Bool.eq_iff_iff, qI]
    simp only[beq_iff_eq]
    exact Int.ofNat_inj
   rw [List.findIdx?_cons, List.findIdx?_cons, hb, findIdx_born st h4]
theorem zeF {T:TypeId} {m s x:Operand} (ho:o.op = .entryStore T m s x) (h:zba lim fr M nx m s x = some (v, M', nx')):OpS P lim fr M nx o v M' nx':=by
 unfold zba at h
 split at h
 ·rename_i l ki st xv hm0 hs0 hx0
  split at h
  ·rename_i es clock hl
   split at h
   ·rename_i j hj
    split at h
    ·rename_i e he
     cases hc:(Nat.ble lim l && Nat.blt nx 16777215) with
     | false=>simp [hc] at h
     | true=>
      simp only[hc, cond_true, zLs, zLp] at h
      obtain ⟨rfl, rfl, rfl⟩:=h
      simp only[zLa] at hc
      intro B n ρ w a hlim hfin hB hf hm hfr
      have h1:=zY hfr hm0
      simp only[VRel] at h1
      obtain ⟨b, hb, e1⟩:=h1
      obtain ⟨b', hb', _, arr, h2, h3⟩:=hm.obj l _ hl
      rw [hb] at hb'; injection hb' with hb'; subst hb'
      have hst:=zae hfr hs0
      have hidx:arr.findIdx? (fun e=>(e.born:Int) == (st:Int)) = some j:=by
       rw [← hj, ← findIdx_born st h3]; rw [← List.findIdx?_toArray]
      have hjl:j < arr.toList.length:=by
       rw [h3.1]; exact (zLg he).1
      have hme:=h3.2 j e arr.toList[j] he (List.getElem?_eq_getElem hjl)
      have hrel:ERel ρ (es.set j ⟨e.key, xv, e.born⟩) (arr.modify j fun q=>{ q with val:=a.eval x }).toList:=h3.set fun q hq=>by
       rw [List.getElem?_eq_getElem hjl] at hq; injection hq with hq; subst hq
       exact ⟨hme.1, zY hfr hx0, hme.2.2⟩
      obtain ⟨r1, r2⟩:=zb9 (P:=P) (clock':=clock) (K:=fun ρ'=>VRel ρ' (.tup []) undef) hm hfin (qo.1 hc.2) (zLb hc.1) hl hb hrel (by simp [VRel, VRelL, undef])
      refine ⟨undef, _, .inr ⟨?_, rfl⟩, r2⟩
      have hg:(getObj b.blk).run P w = .ok (.map arr clock) w:=by simp [getObj, Sem.run, h2]
      simp only[execOp, ho, Instr.entryStore, Sem.run_bind, Result.andThen_ok, e1, hg, hst, asInt, asIntOf, Sem.run_pure, Int.ofNat_eq_natCast, hidx, r1]
    ·cases h
   ·cases h
  ·cases h
 ·cases h
end
end
end Go.Bv
end
section
namespace Go.Bv
open Go.RowKit
noncomputable section
section
variable {P:Program} {lim:Nat} {fr:Fr} {M:Mem} {nx:Nat} {o:Oper} {v:VV} {M':Mem} {nx':Nat}
def zbP (n:Nat) (K:Nat -> jE):jE:=@Nat.rec (fun _=>jE) (K 0) (fun k _=>K (k + 1)) n
theorem zck (n:Nat) (K:Nat -> jE):zbP n K = K n:=by cases n <;> rfl
def ziN (P:Program) (fr:Fr) (M:Mem) (nx:Nat) (T:TypeId) (x:Operand):jE:=match xH fr x, P.underlying T with
 | some (.string s), some .string=>bif Nat.blt nx 16777215 then some (.ptr nx 0, M.set nx (some (.iter s 0)), nx + 1) else none
 | _, _=>none
theorem zk1 {T:TypeId} {x:Operand} (ho:o.op = .range T x) (h:ziN P fr M nx T x = some (v, M', nx')):OpS P lim fr M nx o v M' nx':=by
 unfold ziN at h
 split at h
 ·rename_i s hs hu
  cases hnx:Nat.blt nx 16777215 with
  | false=>simp [hnx] at h
  | true=>
   simp only[hnx, cond_true, zLs, zLp] at h
   obtain ⟨rfl, rfl, rfl⟩:=h
   intro B n ρ w a hlim hfin hB hf hm hfr
   have hv:=yU hfr hs
   have hrun:(execOp a.eval o).run P w = .ok (.value (.pointer (some ⟨w.heap.size, 0, none⟩))) (w.alloc (.stringIter s 0)):=by
    simp [execOp, ho, hv, Instr.range, run_underlying hu]
   exact ⟨_, _, .inl hrun, zzS (b:=⟨w.heap.size, 0, 0⟩) hm hfin hB hlim (qo.1 hnx) hf rfl ⟨rfl, heap_alloc_new w _⟩ (by simp only[VRel]; exact ⟨⟨w.heap.size, 0, 0⟩, by simp [upd], rfl⟩)⟩
 ·cases h
def zku (lim:Nat) (fr:Fr) (M:Mem) (nx:Nat) (y:Operand):jE:=match evV fr y with
 | some (.ptr l 0)=>match M.get l with
  | some (.iter s k)=>match Nat.blt k s.size with
   | false=>some (.tup [.c (.bool false)], M, nx)
   | true=>match Nat.ble lim l && Nat.blt nx 16777215 with
    | true=>match Utf8.decode s k with
     | (c, width)=>zbP c fun c=>zbP (k + width) fun q=>some (.tup [.c (.bool true), .c (goInt k), .c (.int .i32 (Int.ofNat c))], M.set l (some (.iter s q)), nx)
    | false=>none
  | _=>none
 | _=>none
theorem zng {y:Operand} (ho:o.op = .next y true) (h:zku lim fr M nx y = some (v, M', nx')):OpS P lim fr M nx o v M' nx':=by
 unfold zku at h
 split at h
 ·rename_i l hy
  split at h
  ·rename_i s k hl
   have key:∀ (B n:Nat) (ρ:Rho) (w:World) (a:Act), MRel B ρ M w -> FrRel ρ n fr a.tmps -> ∃ b, ρ l = some b /\ B <= b.blk /\ w.heap[b.blk]? = some (.stringIter s k) /\ b.base = 0 /\ a.eval y = .pointer (some ⟨b.blk, 0, none⟩):=by
    intro B n ρ w a hm hfr
    have h1:=zY hfr hy
    simp only[VRel] at h1
    obtain ⟨b, hb, e1⟩:=h1
    obtain ⟨b', hb', hB', h0, h2⟩:=hm.obj l _ hl
    rw [hb] at hb'; injection hb' with hb'; subst hb'
    exact ⟨b, hb, hB', h2, h0, by rw [e1, h0]⟩
   split at h
   ·rename_i hk
    simp only[zLs, zLp] at h
    obtain ⟨rfl, rfl, rfl⟩:=h
    refine qM fun B n ρ w a hm hf=>?_
    obtain ⟨b, _, _, hw, _, e⟩:=key B n ρ w a hm hf
    have hk':¬ k < s.size:=fun hlt=>by have:=qo.2 hlt; rw [hk] at this; cases this
    have g1:(getObj b.blk).run P w = .ok (.stringIter s k) w:=by simp [getObj, Sem.run, hw]
    refine ⟨.tuple #[.bool false], by simp [execOp, ho, e, Instr.next, g1, hk'], ?_⟩
    simp only[VRel, VRelL]
    exact ⟨[.bool false], rfl, _, _, rfl, ⟨rfl, rfl⟩, rfl⟩
   ·rename_i hk
    have hk':=qo.1 hk
    split at h
    ·rename_i hc
     simp only[zLa] at hc
     rcases hd:Utf8.decode s k with ⟨c, width⟩
     simp only[hd, zck, zLs, zLp] at h
     obtain ⟨rfl, rfl, rfl⟩:=h
     intro B n ρ w a hlim hfin hB hf hm hfr
     obtain ⟨b, hb, hBb, hw, hb0, e⟩:=key B n ρ w a hm hfr
     have g1:(getObj b.blk).run P w = .ok (.stringIter s k) w:=by simp [getObj, Sem.run, hw]
     have hset:(setObj b.blk (.stringIter s (k + width))).run P w = .ok () { w with heap:=w.heap.setIfInBounds b.blk (.stringIter s (k + width)) }:=by simp [setObj, Sem.run, hw]
     have hlt:=(Array.getElem?_eq_some_iff.1 hw).1
     have hrun:(execOp a.eval o).run P w = .ok (.value (.tuple #[.bool true, goInt k, .int .i32 (Int.ofNat c)])) { w with heap:=w.heap.setIfInBounds b.blk (.stringIter s (k + width)) }:=by
      simp [execOp, ho, e, Instr.next, g1, hk', hd, hset]
     refine ⟨_, _, .inl hrun, kM hm hfin (qo.1 hc.2) (zLb hc.1) hl hb ⟨rfl, rfl, rfl, by simp, fun g hg=>?_⟩ (fun g _ hg=>Array.getElem?_setIfInBounds_ne (Ne.symm hg)) ⟨hb0, by simp [hlt]⟩ ?_⟩
     ·exact Array.getElem?_setIfInBounds_ne (by omega)
     ·simp only[VRel, VRelL]
      exact ⟨[.bool true, goInt k, .int .i32 (Int.ofNat c)], rfl, _, _, rfl, ⟨rfl, rfl⟩, _, _, rfl, ⟨rfl, rfl⟩, _, _, rfl, ⟨rfl, rfl⟩, rfl⟩
    ·cases h
  ·cases h
 ·cases h
def zbQ (P:Program) (fr:Fr) (M:Mem) (nx:Nat) (T:TypeId) (x y:Operand):jE:=match P.underlying T, ziI fr x, ziI fr y with
 | some (.slice E), some (_, .ofNat m), some (_, .ofNat m')=>match P.info? E, zlb P E with
  | some i, some [z]=>bif Nat.beq m m' && Nat.beq i.size 1 && Nat.ble i.bytes 1000 && Nat.ble m 1000000000 && Nat.blt nx 16777215 then zbP m fun m=>some (.sl nx 0 m (some m) 1, M.set nx (some (.cells (List.replicate m (.c z)))), nx + 1) else none
  | _, _=>none
 | _, _, _=>none
theorem znq (z:Value) (n:Nat):madeCells #[z] n = (List.replicate n z).toArray:=by
 apply Array.ext
 ·simp [madeCells]
 ·intro i h1 h2
  simp [madeCells, Nat.mod_one]
theorem zff {T:TypeId} {x y:Operand} (ho:o.op = .makeSlice T x y) (h:zbQ P fr M nx T x y = some (v, M', nx')):OpS P lim fr M nx o v M' nx':=by
 unfold zbQ at h
 split at h
 ·rename_i E kx m ky m' hu hx hy
  split at h
  ·rename_i i z hi hz
   cases hc:(Nat.beq m m' && Nat.beq i.size 1 && Nat.ble i.bytes 1000 && Nat.ble m 1000000000 && Nat.blt nx 16777215) with
   | false=>simp [hc] at h
   | true=>
    simp only[hc, cond_true, zck, zLs, zLp] at h
    obtain ⟨rfl, rfl, rfl⟩:=h
    simp only[zLa] at hc
    obtain ⟨⟨⟨⟨c1, c2⟩, c3⟩, c4⟩, c5⟩:=hc
    have c1:=qI.1 c1
    have c2:=qI.1 c2
    have c3:=zLb c3
    have c4:=zLb c4
    subst c1
    obtain ⟨⟨i', z', hi', hz', hcells⟩, h1⟩:=zi7 hz
    rw [hi] at hi'; injection hi' with hi'; subst hi'
    intro B n ρ w a hlim hfin hB hf hm hfr
    have hbytes:(i.bytes:Int) * (Int.ofNat m) <= 281474976710656:=by
     have:(i.bytes:Int) * (m:Int) <= 1000 * 1000000000:=Int.mul_le_mul (by omega) (by omega) (by omega) (by omega)
     simp only[Int.ofNat_eq_natCast]; omega
    have hmk:=run_make (P:=P) w T E i z' hu hi hz' kx ky (Int.ofNat m) (Int.ofNat m) (by simp) (Int.le_refl _) hbytes (by simp only[Int.ofNat_eq_natCast]; omega)
    have hz1:z'.cells = #[z]:=by rw [hcells]
    have hmade:madeCells z'.cells ((Int.ofNat m).toNat * i.size) = (List.replicate m z).toArray:=by
     rw [hz1, c2, Nat.mul_one, znq]; rfl
    rw [hmade] at hmk
    have ex:=zae hfr hx
    have ey:=zae hfr hy
    have hrun:(execOp a.eval o).run P w = .ok (.value (.slice (some ⟨w.heap.size, 0, none⟩) m m)) (w.alloc (.cells (List.replicate m z).toArray E)):=by
     simp only[Int.ofNat_eq_natCast, Int.toNat_natCast] at hmk ex ey
     simp [execOp, ho, ex, ey, hmk]
    have hzo:z.oneCell' = true:=by simpa using h1
    have hrel:=za8 (T:=E) (us:=List.replicate m z) (cs:=(List.replicate m z).map .c) (K:=fun ρ'=>VRel ρ' (.sl nx 0 m (some m) 1) (.slice (some ⟨w.heap.size, 0, none⟩) m m)) hm hfin hB hlim (qo.1 c5) hf (zcV _ (by simp [hzo])) (fun v hv=>by rw [List.eq_of_mem_replicate hv]; exact hzo)
     (by simp only[VRel]; exact ⟨⟨w.heap.size, 0, (List.replicate m z).length⟩, by simp [upd], m, rfl, Nat.le_refl _, by unfold maxLen; omega, rfl⟩)
    rw [List.map_replicate] at hrel
    exact ⟨_, _, .inl hrun, hrel⟩
  ·cases h
 ·cases h
def zgo (P:Program) (fr:Fr) (M:Mem) (nx:Nat) (T:TypeId) (x:Operand) (lo hi mx:Option Operand):jE:=match lo, hi, mx, evV fr x, zkl P T with
 | some lo, some hi, some mx, some (.sl l off n _ e), some size=>match zbE fr 0 (some lo), zbE fr 0 (some hi), zbE fr 0 (some mx) with
  | some p, some q, some m=>bif Nat.ble p q && Nat.ble q m && Nat.ble m n then zbP (bif Nat.beq m p then off else off + p * size) fun o=>zbP (q - p) fun d=>zbP (m - p) fun c=>some (.sl l o d (some c) e, M, nx) else none
  | _, _, _=>none
 | _, _, _, _, _=>none
theorem zjG {T:TypeId} {x:Operand} {lo hi mx:Option Operand} (ho:o.op = .slice T x lo hi mx) (h:zgo P fr M nx T x lo hi mx = some (v, M', nx')):OpS P lim fr M nx o v M' nx':=by
 unfold zgo at h
 split at h
 ·rename_i lo hi mx l off n cap0 e size hx hs
  split at h
  ·rename_i p q m hp hq hm'
   cases hc:(Nat.ble p q && Nat.ble q m && Nat.ble m n) with
   | false=>simp [hc] at h
   | true=>
    simp only[hc, cond_true, zck, zLs, zLp] at h
    obtain ⟨rfl, rfl, rfl⟩:=h
    simp only[zLa] at hc
    have c1:=zLb hc.1.1
    have c2:=zLb hc.1.2
    have c3:=zLb hc.2
    refine qM fun B n' ρ w a hm hf=>?_
    have h1:=zY hf hx
    simp only[VRel] at h1
    obtain ⟨b, hb, c', e1, h2, h3, _⟩:=h1
    obtain ⟨el, h4, h5⟩:=zdd hs
    have r1:=zbl (P:=P) hf hm' (show m <= c' by omega) .slice3Acap w
    have r2:=zbl (P:=P) hf hq c2 .slice3B w
    have r3:=zbl (P:=P) hf hp c1 .slice3C w
    refine ⟨.slice (some ⟨b.blk, b.base + (bif Nat.beq m p then off else off + p * size), none⟩) (q - p) (m - p), ?_, ?_⟩
    ·simp only[execOp, ho, e1, Instr.sliceAt, Sem.run_bind, run_underlying h4, Result.andThen_ok, Instr.slice, Option.map_some, Instr.sliceBounds, if_true, r1, r2, r3, Option.isSome_some, h5, Sem.run_pure]
     by_cases hcp:m = p
     ·simp [hcp]
     ·rw [zaq.2 hcp]; simp [hcp, Addr.add_lit, Nat.add_assoc]
    ·simp only[VRel]; exact ⟨b, hb, m - p, rfl, by omega, by omega, rfl⟩
  ·cases h
 ·cases h
def u8s:List VV -> Option (List Int)
 | []=>some []
 | .c (.int .u8 n) :: l=>match u8s l with
  | some r=>some (n :: r)
  | none=>none
 | _=>none
theorem zoI {ρ:Rho}:∀ {cs:List VV} {ns:List Int} {us:List Value}, u8s cs = some ns -> VRelL ρ cs us -> us = ns.map (Value.int .u8)
 | [], ns, us, h, hr=>by
  simp only[u8s, zLs] at h
  subst h
  simp only[VRelL] at hr
  rw [hr]; rfl
 | c :: cs, ns, us, h, hr=>by
  unfold u8s at h
  split at h
  ·rename_i heq; cases heq
  ·rename_i n l heq
   injection heq with h1 h2
   subst h1; subst h2
   split at h
   ·rename_i r hr'
    simp only[zLs] at h
    subst h
    simp only[VRelL, VRel] at hr
    obtain ⟨u, us', rfl, ⟨rfl, _⟩, h3⟩:=hr
    rw [zoI hr' h3]; rfl
   ·cases h
  ·cases h
def zsJ (l:List Int) (K:List UInt8 -> VV):VV:=@List.rec Int (fun _=>(List UInt8 -> VV) -> VV) (fun K=>K []) (fun n _ ih K=>ih fun l'=>K (UInt8.ofNat n.toNat :: l')) l K
theorem zp2 (l:List Int) (K:List UInt8 -> VV):zsJ l K = K (l.map fun n=>UInt8.ofNat n.toNat):=by
 induction l generalizing K with
 | nil=>rfl
 | cons b l ih=>exact ih _
def zsx (fr:Fr) (M:Mem) (size:Nat) (x:Operand):Option (Nat × List VV):=match evV fr x with
 | some (.sl l off m _ _)=>match M.get l with
  | some (.cells cs)=>bif Nat.ble (off + m * size) cs.length then some (m, (cs.drop off).take (m * size)) else none
  | _=>none
 | some (.c (.slice none 0 _))=>some (0, [])
 | _=>none
theorem zq1 {B n:Nat} {ρ:Rho} {w:World} {a:Act} (hm:MRel B ρ M w) (hf:FrRel ρ n fr a.tmps) {size m:Nat} {x:Operand} {cs:List VV} (h:zsx fr M size x = some (m, cs)):
  ∃ (A:Option Addr) (c:Nat) (us:List Value), a.eval x = .slice A m c /\ us.length = m * size /\ VRelL ρ cs us /\ (∀ u ∈ us, u.oneCell' = true) /\ (0 < m -> ∃ b off, A = some ⟨b, off, none⟩ /\ ∀ (j:Nat) (u:Value), us[j]? = some u -> w.cell? ⟨b, off + j, none⟩ = some u):=by
 unfold zsx at h
 split at h
 ·rename_i l off k cap e hx
  split at h
  ·rename_i cs0 hl
   cases hle:Nat.ble (off + k * size) cs0.length with
   | false=>simp [hle] at h
   | true=>
    simp only[hle, cond_true, zLs, zLp] at h
    obtain ⟨rfl, rfl⟩:=h
    have h1:=zY hf hx
    simp only[VRel] at h1
    obtain ⟨b, hb, c, e1, _⟩:=h1
    obtain ⟨b', hb', _, arr, T', fz, h2, hz, h3, h4, h5⟩:=hm.obj l _ hl
    rw [hb] at hb'; injection hb' with hb'; subst hb'
    obtain ⟨us, h6, h7, h8, h9⟩:=cells_at h5 (k * size) off (zLb hle)
    exact ⟨_, c, us, e1, h6, h8, h7, fun _=>⟨_, _, rfl, fun j u hj=>by rw [cell_of_row w b.blk _ arr _ _ h2]; exact h9 j u hj⟩⟩
  ·cases h
 ·rename_i c hx
  simp only[zLs, zLp] at h
  obtain ⟨rfl, rfl⟩:=h
  have h1:=zY hf hx
  simp only[VRel] at h1
  exact ⟨none, c, [], h1.1, by simp, by simp [VRelL], by simp, by simp⟩
 ·cases h
def zfy (P:Program) (fr:Fr) (M:Mem) (nx:Nat) (S T:TypeId) (x:Operand):jE:=match P.underlying S, P.underlying T with
 | some (.slice e), some .string=>match P.underlying e, zsx fr M 1 x with
  | some (.int .u8), some (_, cs)=>match u8s cs with
   | some ns=>some (zsJ ns fun l=>.c (.string ⟨l.toArray⟩), M, nx)
   | none=>none
  | _, _=>none
 | _, _=>none
theorem zjL {S T:TypeId} {x:Operand} (ho:o.op = .convert S T x) (h:zfy P fr M nx S T x = some (v, M', nx')):OpS P lim fr M nx o v M' nx':=by
 unfold zfy at h
 split at h
 ·rename_i e hs hd
  split at h
  ·rename_i m cs he hsrc
   split at h
   ·rename_i ns hns
    simp only[zLs, zLp, zp2] at h
    obtain ⟨rfl, rfl, rfl⟩:=h
    refine qM fun B n ρ w a hm hf=>?_
    obtain ⟨A, c, us, ea, hlen, hrel, h1, hcell⟩:=zq1 hm hf hsrc
    have hus:=zoI hns hrel
    subst hus
    simp only[List.length_map, Nat.mul_one] at hlen
    have hstr:strOfNums ns = ⟨(ns.map fun n=>UInt8.ofNat n.toNat).toArray⟩:=by simp [strOfNums]
    refine ⟨.string ⟨(ns.map fun n=>UInt8.ofNat n.toNat).toArray⟩, ?_, by simp only[VRel]; exact ⟨trivial, rfl⟩⟩
    cases ns with
    | nil=>
     simp only[List.length_nil] at hlen
     subst hlen
     simp only[execOp, ho, ea]
     cases A with
     | none=>simp [run_convert_bytes_nil (w:=w) S e hs he 0 c T hd]; rfl
     | some ad=>
      have:=run_convert_bytes_string w S T e (some ad) 0 c hs he hd
      simp only[Sem.run_bind, this]
      simp [Conv.bytesToString, loadCells, loadCellsFrom]; rfl
    | cons n0 ns=>
     obtain ⟨b, off, rfl, hr⟩:=hcell (by rw [← hlen]; simp)
     have:=run_convert_bytes_arg (P:=P) w S e hs he b off m c (n0 :: ns) hlen (fun i hi=>hr i _ (by
      rw [List.getElem?_map, List.getElem?_eq_getElem (by omega), List.getD_eq_getElem?_getD, List.getElem?_eq_getElem (by omega)]; rfl)) T hd
     rw [hstr] at this
     simp only[execOp, ho, ea, Sem.run_bind, this, Result.andThen_ok]; rfl
   ·cases h
  ·cases h
 ·cases h
theorem zoC {lim B nx:Nat} {ρ:Rho} {M:Mem} {w w':World} {K:Rho -> Prop} {o:VO} {b:RB} (hm:MRel B ρ M w) (hfin:∀ l, nx <= l -> M.get l = none) (hB:B <= w.heap.size) (hlim:lim <= nx) (hnx:nx < 16777215) (hf:Fresh ρ nx (nx + 1)) (hb:b.blk = w.heap.size) (hbel:Below w.heap.size w w')
  (ho:ORel (upd ρ nx b) o b w') (hK:K (upd ρ nx b)):Post lim B nx (nx + 1) ρ M (M.set nx (some o)) w w' K:=by
 have hfr:=hf nx (Nat.le_refl _) (by omega)
 have hget:∀ l, (M.set nx (some o)).get l = if l = nx then some o else M.get l:=fun l=>Tr.get_set M nx l _ hnx
 refine ⟨upd ρ nx b, ⟨fun l hl=>?_, by omega, hbel.mono hB, fun g hg _=>hbel.block g hg, fun l hl=>?_, fun l h1 h2=>?_, fun l b' o' h1 h2 h3=>?_, fun hfin l hl=>?_⟩, ⟨fun l o' h1=>?_, fun l l' o1 o2 b1 b2 h1 h2 h3 h4 h5 hs=>?_⟩, hK⟩
 ·unfold upd; rw [if_neg (by omega)]
 ·rw [hget, if_neg (by omega)]
 ·rw [hget, if_neg (by omega)]; exact h2
 ·rw [hget] at h2
  by_cases e:l = nx
  ·subst e; simp [upd] at h3; subst h3; exact .inl (by omega)
  ·rw [if_neg e, hfin l h1] at h2; cases h2
 ·rw [hget, if_neg (by omega)]; exact hfin l (by omega)
 ·rw [hget] at h1
  by_cases e:l = nx
  ·subst e; simp at h1; subst h1; exact ⟨b, by simp [upd], by omega, ho⟩
  ·rw [if_neg e] at h1
   obtain ⟨b1, h2, h3, h4⟩:=hm.obj l o' h1
   exact ⟨b1, jc hfr _ _ h2, h3, h4.keep (jc hfr) (hbel.block _ h4.lt)⟩
 ·rw [hget] at h1 h2
  by_cases e:l = nx <;> by_cases e':l' = nx
  ·omega
  ·subst e
   rw [if_neg e'] at h2
   simp [upd] at h3; subst h3
   obtain ⟨b3, c2, c3, c4⟩:=hm.obj l' o2 h2
   have:=jc (b:=b) hfr _ _ c2
   rw [this] at h4; injection h4 with h4; subst h4
   have:=c4.lt; omega
  ·subst e'
   rw [if_neg e] at h1
   simp [upd] at h4; subst h4
   obtain ⟨b3, c2, c3, c4⟩:=hm.obj l o1 h1
   have:=jc (b:=b) hfr _ _ c2
   rw [this] at h3; injection h3 with h3; subst h3
   have:=c4.lt; omega
  ·rw [if_neg e] at h1
   rw [if_neg e'] at h2
   simp only[upd, if_neg e, if_neg e'] at h3 h4
   exact hm.dist l l' o1 o2 b1 b2 h1 h2 h3 h4 h5 hs
def znM (l:List UInt8) (K:List VV -> jE):jE:=@List.rec UInt8 (fun _=>(List VV -> jE) -> jE) (fun K=>K []) (fun b _ ih K=>ih fun l'=>K (.c (.int .u8 (Int.ofNat b.toNat)) :: l')) l K
theorem zmr (l:List UInt8) (K:List VV -> jE):znM l K = K (l.map fun b=>.c (.int .u8 (Int.ofNat b.toNat))):=by
 induction l generalizing K with
 | nil=>rfl
 | cons b l ih=>exact ih _
def zfV (P:Program) (fr:Fr) (M:Mem) (nx:Nat) (S T:TypeId) (x:Operand):jE:=match P.underlying S, P.underlying T, xH fr x with
 | some .string, some (.slice e), some (.string s)=>match P.underlying e with
  | some (.int .u8)=>bif Nat.ble 1 s.size && Nat.ble s.size 1000000 && Nat.blt nx 16777215 then znM s.data.toList fun cs=>zbP s.size fun n=>some (.sl nx 0 n none 1, M.set nx (some (.cells cs)), nx + 1) else none
  | _=>none
 | _, _, _=>none
theorem zjb {S T:TypeId} {x:Operand} (ho:o.op = .convert S T x) (h:zfV P fr M nx S T x = some (v, M', nx')):OpS P lim fr M nx o v M' nx':=by
 unfold zfV at h
 split at h
 ·rename_i e s hs hT hx
  split at h
  ·rename_i he
   cases hc:(Nat.ble 1 s.size && Nat.ble s.size 1000000 && Nat.blt nx 16777215) with
   | false=>simp [hc] at h
   | true=>
    simp only[hc, cond_true, zmr, zck, zLs, zLp] at h
    obtain ⟨rfl, rfl, rfl⟩:=h
    simp only[zLa] at hc
    have c1:=zLb hc.1.1
    have c2:=zLb hc.1.2
    intro B n ρ w a hlim hfin hB hf hm hfr
    have hv:=yU hfr hx
    have hconv:=Go.Lib.run_convert_string_bytes (P:=P) w S T e s hs hT he
    have hrun:(execOp a.eval o).run P w = .ok (.value (.slice (some ⟨w.heap.size, 0, none⟩) s.size (grownCap w s.size 0 e))) (Go.Lib.bytesWorld w e s):=by
     simp only[execOp, ho, hv, Sem.run_bind, hconv, Result.andThen_ok]; rfl
    have hge:=grownCap_ge w s.size 0 e
    have hle:=grownCap_le_maxLen w s.size 0 e (by unfold maxLen; omega)
    have hbel:Below w.heap.size w (Go.Lib.bytesWorld w e s):=⟨rfl, rfl, rfl, by rw [Go.Lib.bytesWorld_size]; omega, fun k hk=>Go.Lib.bytesWorld_at_old w e _ k hk⟩
    have hcs:(Go.Lib.bytesCells w e s).size = grownCap w s.size 0 e:=by
     have:s.data.size = s.size:=rfl
     simp only[Go.Lib.bytesCells, Array.size_append, Array.size_map, Array.size_replicate]; omega
    have hat:=Go.Lib.bytesWorld_at_new w e s
    refine ⟨_, _, .inl hrun, zoC (b:=⟨w.heap.size, 0, grownCap w s.size 0 e⟩) hm hfin hB hlim (qo.1 hc.2) hf rfl hbel ⟨_, e, _, hat, .inr (Nat.le_refl _), by rw [hcs]; simp, ?_, fun i y hy=>?_⟩ ?_⟩
    ·simp only[List.length_map, Array.length_toList]
     exact hge
    ·rw [List.getElem?_map, Option.map_eq_some_iff] at hy
     obtain ⟨b, hb, rfl⟩:=hy
     have hil:=(zLg hb).1
     have hbi:s.data.toList[i] = b:=(zLg hb).2
     have hil':i < s.data.size:=by simpa using hil
     refine ⟨.int .u8 (Int.ofNat b.toNat), ?_, rfl, by simp only[VRel]; exact ⟨trivial, rfl⟩⟩
     simp only[Nat.zero_add, Go.Lib.bytesCells]
     rw [Array.getElem?_append_left (by simpa using hil')]
     rw [Array.getElem?_map, Array.getElem?_eq_getElem hil', Option.map_some]
     have:s.data[i] = b:=by rw [← hbi, Array.getElem_toList]
     rw [this]; rfl
    ·simp only[VRel]
     exact ⟨⟨w.heap.size, 0, grownCap w s.size 0 e⟩, by simp [upd], grownCap w s.size 0 e, rfl, hge, hle, by decide, by simp⟩
  ·cases h
 ·cases h
def zfN (P:Program) (fr:Fr) (M:Mem) (nx:Nat) (T:TypeId) (x:Operand) (lo hi mx:Option Operand):jE:=match mx, evV fr x, zkl P T with
 | none, some (.sl _ _ n none e), some size=>match zbE fr 0 lo, zbE fr n hi with
  | some p, some q=>bif Nat.beq p n && Nat.beq q n && Nat.beq e size && Nat.blt nx 16777215 then some (.sl nx 0 0 none e, M, nx + 1) else none
  | _, _=>none
 | _, _, _=>none
theorem zi0 {T:TypeId} {x:Operand} {lo hi mx:Option Operand} (ho:o.op = .slice T x lo hi mx) (h:zfN P fr M nx T x lo hi mx = some (v, M', nx')):OpS P lim fr M nx o v M' nx':=by
 unfold zfN at h
 split at h
 ·rename_i l off n e size hx hs
  split at h
  ·rename_i p q hlo hhi
   cases hc:(Nat.beq p n && Nat.beq q n && Nat.beq e size && Nat.blt nx 16777215) with
   | false=>simp [hc] at h
   | true=>
    simp only[hc, cond_true, zLs, zLp] at h
    obtain ⟨rfl, rfl, rfl⟩:=h
    simp only[zLa] at hc
    have c1:=qI.1 hc.1.1.1
    have c2:=qI.1 hc.1.1.2
    have c3:=qI.1 hc.1.2
    subst c1; subst c2; subst c3
    intro B n' ρ w a hlim hfin hB hf hm hfr
    have h1:=zY hfr hx
    simp only[VRel] at h1
    obtain ⟨b, hb, c', e1, h2, h3, h4, h5⟩:=h1
    obtain ⟨el, h6, h7⟩:=zdd hs
    have hbd:=zbm (P:=P) hfr true hlo hhi (Nat.le_refl _) (show q <= c' by omega) w
    have hfr0:=hf nx (Nat.le_refl _) (by omega)
    have hrun:(execOp a.eval o).run P w = .ok (.value (.slice (some (if c' = q then ⟨b.blk, b.base + off, none⟩ else ⟨b.blk, b.base + off + q * e, none⟩)) 0 (c' - q))) w:=by
     simp only[execOp, ho, e1, Instr.sliceAt, Sem.run_bind, run_underlying h6, Result.andThen_ok, Instr.slice, Option.map_none, hbd, h7, Sem.run_pure]
     by_cases hcp:c' = q
     ·simp [hcp]
     ·simp [hcp, Addr.add_lit, Nat.add_assoc]
    refine ⟨_, w, .inl hrun, upd ρ nx ⟨b.blk, (if c' = q then b.base + off else b.base + off + q * e), (c' - q) * e⟩, ⟨fun l hl=>?_, by omega, Below.refl _ _, fun _ _ _=>rfl, fun _ _=>rfl, fun _ _ h=>h, fun l b' o' h1 h2 _=>(by rw [hfin l h1] at h2; cases h2), fun hfin l hl=>hfin l (by omega)⟩, ⟨fun l o' h1=>?_, fun l l' o1 o2 b1 b2 q1 q2 q3 q4 q5 q6=>?_⟩, ?_⟩
    ·unfold upd; rw [if_neg (by omega)]
    ·obtain ⟨b1, k1, k2, k3⟩:=hm.obj l o' h1
     exact ⟨b1, jc hfr0 _ _ k1, k2, k3.keep (jc hfr0) rfl⟩
    ·have ne:∀ l o, M.get l = some o -> l ≠ nx:=fun l o hl e=>by subst e; rw [hfin l (Nat.le_refl _)] at hl; cases hl
     simp only[upd, if_neg (ne _ _ q1)] at q3
     simp only[upd, if_neg (ne _ _ q2)] at q4
     exact hm.dist l l' o1 o2 b1 b2 q1 q2 q3 q4 q5 q6
    ·simp only[VRel]
     refine ⟨⟨b.blk, (if c' = q then b.base + off else b.base + off + q * e), (c' - q) * e⟩, by simp [upd], c' - q, ?_, by omega, by omega, h4, by simp⟩
     by_cases hcp:c' = q
     ·simp [hcp]
     ·simp [hcp]
  ·cases h
 ·cases h
end
end
end Go.Bv
end
section
namespace Go.Bv
open Go.RowKit
noncomputable section
section
variable {P:Program} {lim:Nat} {fr:Fr} {M:Mem} {nx:Nat} {o:Oper} {v:VV} {M':Mem} {nx':Nat}
def bytesV (s:ByteArray):List VV:=s.data.toList.map fun b=>.c (.int .u8 b.toNat)
theorem yY (ρ:Rho) (s:ByteArray):VRelL ρ (bytesV s) (byteCells s):=by
 unfold byteCells bytesV
 refine zdV (by simp) fun i v u q1 q2=>?_
 rw [List.getElem?_map] at q1 q2
 cases hc:s.data.toList[i]? with
 | none=>rw [hc] at q1; cases q1
 | some c=>
  rw [hc] at q1 q2
  simp only[Option.map_some, zLs] at q1 q2
  subst q1; subst q2
  simp only[VRel]
  exact ⟨trivial, rfl⟩
theorem znN {T':TypeId} (h:zl6 P T' = true):P.underlying T' = some .string:=by
 unfold zl6 at h
 split at h
 ·assumption
 ·cases h
def zed (P:Program) (lim:Nat) (fr:Fr) (M:Mem) (nx:Nat) (T T':TypeId) (s x:Operand):jE:=match zle P T with
 | some (E, size, bytes)=>match evV fr x with
  | some (.c (.string str))=>bif zl6 P T' && Nat.beq size 1 && Nat.blt 0 str.size && Nat.blt nx 16777215 then match evV fr s with
   | some (.c (.slice none 0 0))=>bif Nat.ble (str.size * bytes) 140737488355328 && Nat.ble str.size 4611686018427387904 then some (.sl nx 0 str.size none 1, M.set nx (some (.tc E none (bytesV str))), nx + 1) else none
   | some (.sl l 0 n none 1)=>match M.get l with
    | some (.tc E' _ cs)=>bif Nat.beq E E' && Nat.beq cs.length n && Nat.ble lim l && Nat.ble ((n + str.size) * bytes) 140737488355328 && Nat.ble (n + str.size) 4611686018427387904 then
      some (.sl nx 0 (n + str.size) none 1, (M.set l none).set nx (some (.tc E none (cs ++ bytesV str))), nx + 1) else none
    | _=>none
   | _=>none else none
  | _=>none
 | none=>none
theorem zid {T T':TypeId} {s x:Operand} (ho:o.op = .call { callee:=.builtin .append, args:=#[s, x], argTypes:=#[T, T'] }) (h:zed P lim fr M nx T T' s x = some (v, M', nx')):OpS P lim fr M nx o v M' nx':=by
 unfold zed at h
 split at h
 ·rename_i E size bytes hel
  have hel':=zi5 hel
  split at h
  ·rename_i str hx
   cases hc:(zl6 P T' && Nat.beq size 1 && Nat.blt 0 str.size && Nat.blt nx 16777215) with
   | false=>rw [hc] at h; cases h
   | true=>
    rw [hc] at h
    simp only[cond_true] at h
    simp only[zLa] at hc
    obtain ⟨⟨⟨k1, k2⟩, k3⟩, k4⟩:=hc
    have k2:=qI.1 k2
    subst k2
    have k3:=qo.1 k3
    have k4:=qo.1 k4
    have kT:=znN k1
    split at h
    ·rename_i hs
     cases hc:(Nat.ble (str.size * bytes) 140737488355328 && Nat.ble str.size 4611686018427387904) with
     | false=>rw [hc] at h; cases h
     | true=>
      rw [hc] at h
      simp only[cond_true, zLs, zLp] at h
      obtain ⟨rfl, rfl, rfl⟩:=h
      simp only[zLa] at hc
      have c1:=zLb hc.1
      have c2:=zLb hc.2
      intro B n ρ w a hlim hfin hB hf hm hfr
      have hx1:=zY hfr hx
      simp only[VRel] at hx1
      have h1:=zY hfr hs
      simp only[VRel] at h1
      have hS:=Src.ofString (P:=P) w kT str
      obtain ⟨cap', zs, r1, r2, r3, r4⟩:=append_nil hel' o.type w _ str.size _ hS k3 c1 (by unfold maxLen; omega)
      refine ⟨_, _, .inl (jI ho (by rw [h1.1, hx1.1]; exact r1)), Post.drew (zzS (b:=⟨w.heap.size, 0, cap'⟩) hm.drew hfin hB hlim k4 hf rfl ⟨rfl, _, heap_alloc_new w.drew _, ?_, ?_, ?_, fun _ h=>by cases h⟩ ?_)⟩
      ·simp only[List.size_toArray]; rw [r2, Nat.mul_one]
      ·rw [← (yY ρ str).length, byteCells_length]; exact r3
      ·exact (VRelL.take_app (yY ρ str) hS.one).ext (jc (hf nx (Nat.le_refl _) (by omega)))
      ·simp only[VRel]; exact ⟨⟨w.heap.size, 0, cap'⟩, by simp [upd], cap', rfl, r3, r4, by omega, by simp⟩
    ·rename_i l n hs
     split at h
     ·rename_i E' k cs hl
      cases hc:(Nat.beq E E' && Nat.beq cs.length n && Nat.ble lim l && Nat.ble ((n + str.size) * bytes) 140737488355328 && Nat.ble (n + str.size) 4611686018427387904) with
      | false=>rw [hc] at h; cases h
      | true=>
       rw [hc] at h
       simp only[cond_true, zLs, zLp] at h
       obtain ⟨rfl, rfl, rfl⟩:=h
       simp only[zLa] at hc
       obtain ⟨⟨⟨⟨d1, d2⟩, d3⟩, d4⟩, d5⟩:=hc
       have d1:=qI.1 d1
       have d2:=qI.1 d2
       have d3:=zLb d3
       have d4:=zLb d4
       have d5:=zLb d5
       subst d1; subst d2
       intro B n' ρ w a hlim hfin hB hf hm hfr
       have hx1:=zY hfr hx
       simp only[VRel] at hx1
       have h1:=zY hfr hs
       simp only[VRel] at h1
       obtain ⟨b, hb, c', e2, h2, h3, h4, h5⟩:=h1
       have hS:=Src.ofString (P:=P) w kT str
       have hol:=hm.obj l _ hl
       obtain ⟨b', hb', hB', e0, arr, g2, g3, g4, g5, gk⟩:=hol
       rw [hb] at hb'; injection hb' with hb'; subst hb'
       obtain ⟨os, o1, o3, o2, o4⟩:=zjJ (o:=.tc E k cs) (b:=b) (w:=w) ⟨e0, arr, g2, g3, g4, g5, gk⟩ rfl 0 cs.length (by omega)
       rw [List.drop_zero, List.take_length] at o3
       have hfr0:=hf nx (Nat.le_refl _) (by omega)
       have hone:∀ u ∈ os ++ byteCells str, u.oneCell' = true:=fun u hu=>by
        rcases List.mem_append.1 hu with h | h
        ·exact o2 u h
        ·exact hS.one u h
       have hbl:(byteCells str).length = str.size:=byteCells_length str
       by_cases hroom:cs.length + str.size <= c'
       ·obtain ⟨hu, i, z, hi, hz, hsz, hbt, hzs, _⟩:=hel'
        obtain ⟨cur', r1, r2, r3⟩:=kD (P:=P) o.type E hu hi w b.blk (b.base + 0) cs.length c' arr g2 (.inl rfl) _ str.size (byteCells str) (by rw [hsz]; exact hS) hroom (by rw [hbl, hsz]; omega)
        refine ⟨_, _, .inl (jI ho (by rw [e2, hx1.1]; exact r1)), ?_⟩
        have hother:∀ g, g ≠ b.blk -> (w.setRow b.blk cur').heap[g]? = w.heap[g]?:=fun g hg=>setRow_other w b.blk g _ hg
        refine zaO (b':=⟨b.blk, 0, b.cap⟩) hm hfin hB hlim k4 hf d3 hl hb ⟨rfl, rfl, rfl, by simp, fun k hk=>hother k (by omega)⟩ (fun g _ hg=>hother g hg) (.inl rfl)
         ⟨rfl, cur', setRow_heap w b.blk arr cur' E _ g2, by rw [r2]; exact g3, ?_, ?_, fun _ h=>by cases h⟩ ?_
        ·rw [List.length_append, ← (yY ρ str).length, hbl]; simp only; omega
        ·refine CRel.ext (jc hfr0) fun k v hv=>?_
         obtain ⟨u, q1, q2⟩:=(o3.append (yY ρ str)).get hv
         have hk:=(zLg q1).1
         rw [List.length_append, o1, hbl] at hk
         refine ⟨u, ?_, hone u (List.mem_of_getElem? q1), q2⟩
         show cur'[0 + k]? = some u
         rw [r3, hbl, e0, hsz]
         by_cases hk2:k < cs.length
         ·rw [if_neg (by omega)]
          rw [List.getElem?_append_left (by omega)] at q1
          have q3:=o4 k u q1
          rw [cell_of_row w b.blk _ arr _ _ g2, e0] at q3
          simpa using q3
         ·rw [if_pos (by omega), show 0 + k - (0 + 0 + cs.length * 1) = k - os.length from by omega]
          rw [List.getElem?_append_right (by omega)] at q1
          exact q1
        ·simp only[VRel]; exact ⟨⟨b.blk, 0, b.cap⟩, by simp [upd], c', by simp [e0], hroom, h3, by omega, by simp only; omega⟩
       ·obtain ⟨cap', zs, r1, r2, r3, r4⟩:=za2 hel' o.type w b.blk (b.base + 0) cs.length c' os (by omega) o4 _ str.size _ hS (by omega) h2 d4 (by unfold maxLen; omega)
        refine ⟨_, _, .inl (jI ho (by rw [e2, hx1.1]; exact r1)), Post.drew (zaO (b':=⟨w.heap.size, 0, cap'⟩) hm.drew hfin hB hlim k4 hf d3 hl hb ((Av.below_alloc w.drew _).mono hB) (fun g hg _=>(Av.below_alloc w.drew _).block g hg) (.inr rfl) ⟨rfl, _, heap_alloc_new w.drew _, ?_, ?_, ?_, fun _ h=>by cases h⟩ ?_)⟩
        ·simp only[List.size_toArray]; rw [r2, Nat.mul_one]
        ·rw [List.length_append, ← (yY ρ str).length, hbl]; exact r3
        ·exact (VRelL.take_app (o3.append (yY ρ str)) hone).ext (jc hfr0)
        ·simp only[VRel]; exact ⟨⟨w.heap.size, 0, cap'⟩, by simp [upd], cap', rfl, r3, r4, by omega, by simp⟩
     ·cases h
    ·cases h
  ·cases h
 ·cases h
def zbR (fr:Fr) (M:Mem) (nx:Nat) (x:Operand):jE:=match evV fr x with
 | some (.sl l off n _ _)=>bif Nat.blt 0 n then some (.ptr l off, M, nx) else none
 | _=>none
theorem zfx {T:TypeId} {x:Operand} (ho:o.op = .call { callee:=.builtin .unsafeSliceData, args:=#[x], argTypes:=#[T] }) (h:zbR fr M nx x = some (v, M', nx')):OpS P lim fr M nx o v M' nx':=by
 unfold zbR at h
 split at h
 ·rename_i l off n cap e hx
  cases hc:Nat.blt 0 n with
  | false=>rw [hc] at h; cases h
  | true=>
   rw [hc] at h
   simp only[cond_true, zLs, zLp] at h
   obtain ⟨rfl, rfl, rfl⟩:=h
   have hn:=qo.1 hc
   refine qM fun B n' ρ w a hm hf=>?_
   have h1:=zY hf hx
   simp only[VRel] at h1
   obtain ⟨b, hb, c, e1, h2, _⟩:=h1
   refine ⟨_, ?_, by simp only[VRel]; exact ⟨b, hb, rfl⟩⟩
   have:=Lib.run_unsafeSliceData_row (P:=P) w #[T] o.type ⟨b.blk, b.base + off, none⟩ n c (by omega)
   simp [execOp, ho, resolve, invoke, builtin, e1, this]
 ·cases h
def zfI:List VV -> Option (List UInt8)
 | []=>some []
 | .c (.int .u8 (.ofNat n)) :: l=>bif Nat.blt n 256 then match zfI l with
  | some bs=>some (UInt8.ofNat n :: bs)
  | none=>none else none
 | _=>none
theorem zhj:∀ {cs:List VV} {bs:List UInt8}, zfI cs = some bs -> cs = bs.map fun b=>.c (.int .u8 b.toNat)
 | [], bs, h=>by simp only[zfI, zLs] at h; subst h; rfl
 | x :: cs, bs, h=>by
  unfold zfI at h
  split at h
  ·rename_i e; cases e
  ·rename_i n l e
   injection e with e1 e2
   subst e1; subst e2
   cases hc:Nat.blt n 256 with
   | false=>rw [hc] at h; cases h
   | true=>
    rw [hc] at h
    simp only[cond_true] at h
    have hn:=qo.1 hc
    split at h
    ·rename_i bs' h1
     simp only[zLs] at h
     subst h
     rw [zhj h1]
     have:(UInt8.ofNat n).toNat = n:=by simp; omega
     simp only[List.map_cons, this]
     rfl
    ·cases h
  ·cases h
def zoF (l:List UInt8) (K:List UInt8 -> VV):VV:=@List.rec UInt8 (fun _=>(List UInt8 -> VV) -> VV) (fun K=>K []) (fun b _ ih K=>ih fun l'=>K (b :: l')) l K
theorem znc (l:List UInt8) (K:List UInt8 -> VV):zoF l K = K l:=by
 induction l generalizing K with
 | nil=>rfl
 | cons b l ih=>exact ih _
def xI (P:Program) (lim:Nat) (fr:Fr) (M:Mem) (nx:Nat) (T:TypeId) (p n:Operand):jE:=match evV fr p, evV fr n with
 | some (.ptr l 0), some (.c (.int .i64 (.ofNat k)))=>match M.get l, P.underlying T with
  | some (.tc E _ cs), some (.pointer E')=>bif Nat.beq E' E && Nat.beq (P.cellsOf E) 1 && Nat.beq k cs.length && Nat.blt 0 k && Nat.ble k 140737488355328 && Nat.ble lim l && Nat.blt nx 16777215 then match zfI cs with
    | some bs=>some (zoF bs fun bs=>.c (.string ⟨bs.toArray⟩), (M.set l none).set nx (some (.ro [])), nx + 1)
    | none=>none else none
  | _, _=>none
 | _, _=>none
theorem zdh {T T':TypeId} {p n:Operand} (ho:o.op = .call { callee:=.builtin .unsafeString, args:=#[p, n], argTypes:=#[T, T'] }) (h:xI P lim fr M nx T p n = some (v, M', nx')):OpS P lim fr M nx o v M' nx':=by
 unfold xI at h
 split at h
 ·rename_i l k hp hn
  split at h
  ·rename_i E k0 cs E' hl hu
   cases hc:(Nat.beq E' E && Nat.beq (P.cellsOf E) 1 && Nat.beq k cs.length && Nat.blt 0 k && Nat.ble k 140737488355328 && Nat.ble lim l && Nat.blt nx 16777215) with
   | false=>rw [hc] at h; cases h
   | true=>
    rw [hc] at h
    simp only[cond_true] at h
    simp only[zLa] at hc
    obtain ⟨⟨⟨⟨⟨⟨c1, c2⟩, c3⟩, c4⟩, c5⟩, c6⟩, c7⟩:=hc
    have c1:=qI.1 c1
    have c2:=qI.1 c2
    have c3:=qI.1 c3
    have c4:=qo.1 c4
    have c5:=zLb c5
    have c6:=zLb c6
    have c7:=qo.1 c7
    subst c1
    split at h
    ·rename_i bs hbs
     simp only[zLs, zLp, znc] at h
     obtain ⟨rfl, rfl, rfl⟩:=h
     have hcs:=zhj hbs
     have hbl:cs.length = bs.length:=by rw [hcs, List.length_map]
     intro B n' ρ w a hlim hfin hB hf hm hfr
     have h1:=zY hfr hp
     have h2:=zY hfr hn
     simp only[VRel] at h1 h2
     obtain ⟨b, hb, e1⟩:=h1
     obtain ⟨b', hb', hB', e0, arr, g2, g3, g4, g5, _⟩:=hm.obj l _ hl
     rw [hb] at hb'; injection hb' with hb'; subst hb'
     have hrun:=Lib.run_unsafeString_row (P:=P) w T T' o.type E' hu c2 b.blk arr.size (by simp [World.shape?, g2]) bs (fun e=>by rw [e] at hbl; simp at hbl; rw [hbl] at c3; simp at c3; omega) (by omega) (by omega) (fun j x hj=>by
      obtain ⟨u, q1, q2, q3⟩:=g5 j (.c (.int .u8 x.toNat)) (by rw [hcs, List.getElem?_map, hj]; rfl)
      simp only[VRel] at q3
      rw [Addr.add_lit, cell_of_row w b.blk _ arr _ _ g2]
      simpa [q3.1] using q1)
     have hk:((Int.ofNat k:Int)) = ((bs.length:Nat):Int):=by rw [c3, hbl]; rfl
     have hfz:∀ g, g ≠ b.blk -> (w.freeze ⟨b.blk, 0, none⟩ bs.length).heap[g]? = w.heap[g]?:=fun g hg=>by
      unfold World.freeze
      split
      ·rfl
      ·simp [Array.getElem?_modify, Ne.symm hg]
     refine ⟨.string ⟨bs.toArray⟩, w.freeze ⟨b.blk, 0, none⟩ bs.length, .inl ?_, ?_⟩
     ·have e2:a.eval p = .pointer (some ⟨b.blk, 0, none⟩):=by rw [e1, e0]
      have e3:a.eval n = .int .i64 ((bs.length:Nat):Int):=by rw [h2.1, hk]
      simp [execOp, ho, resolve, invoke, builtin, e2, e3, hrun]
     ·have hsz:(w.freeze ⟨b.blk, 0, none⟩ bs.length).heap.size = w.heap.size:=by unfold World.freeze; split <;> simp
      refine zaO (b':=⟨b.blk, 0, 0⟩) hm hfin hB hlim c7 hf c6 hl hb ⟨by unfold World.freeze; split <;> rfl, by unfold World.freeze; split <;> rfl, by unfold World.freeze; split <;> rfl, by rw [hsz]; exact Nat.le_refl _, fun k hk=>hfz k (by omega)⟩ (fun g _ hg=>hfz g hg) (.inl rfl)
       ⟨by rw [hsz]; exact (Array.getElem?_eq_some_iff.1 g2).1, fun i v hv=>by simp at hv⟩ (by simp only[VRel]; exact ⟨trivial, rfl⟩)
    ·cases h
  ·cases h
 ·cases h
end
end
end Go.Bv
end
section
namespace Go.Bv
open Go.RowKit
noncomputable section
section
variable {P:Program} {lim:Nat} {fr:Fr} {M:Mem} {nx:Nat} {o:Oper} {v:VV} {M':Mem} {nx':Nat}
def orE (a:jE) (b:Unit -> jE):jE:=match a with | some r=>some r | none=>b ()
theorem vk {a:jE} {b:Unit -> jE} {r:VV × Mem × Nat} (h:orE a b = some r):a = some r ∨ b () = some r:=by
 unfold orE at h
 split at h
 ·exact .inl h
 ·exact .inr h
def ziD (P:Program) (lim:Nat) (fr:Fr) (M:Mem) (nx:Nat) (o:Oper) (b:Builtin) (args:List Operand) (tys:List TypeId):jE:=match b, args, tys with
 | .len, [x], [T]=>orE (zoB P fr M nx T x) fun _=>vY P fr M nx o
 | .append, [s, x], [T, T']=>orE (zfB P lim fr M nx T T' s x) fun _=>zed P lim fr M nx T T' s x
 | .unsafeSliceData, [x], [_]=>zbR fr M nx x
 | .unsafeString, [p, n], [T, _]=>xI P lim fr M nx T p n
 | .max, _, _=>vY P fr M nx o
 | .min, _, _=>vY P fr M nx o
 | _, _, _=>none
theorem zgT {b:Builtin} {args:Array Operand} {tys:Array TypeId} (ho:o.op = .call { callee:=.builtin b, args:=args, argTypes:=tys }) (h:ziD P lim fr M nx o b args.toList tys.toList = some (v, M', nx')):OpS P lim fr M nx o v M' nx':=by
 unfold ziD at h
 split at h
 ·rename_i x T ha ht
  have ha':args = #[x]:=by rw [← Array.toArray_toList (xs:=args), ha]
  have ht':tys = #[T]:=by rw [← Array.toArray_toList (xs:=tys), ht]
  subst ha'; subst ht'
  rcases vk h with h | h
  ·exact zog ho h
  ·exact jX h
 ·rename_i s x T T' ha ht
  have ha':args = #[s, x]:=by rw [← Array.toArray_toList (xs:=args), ha]
  have ht':tys = #[T, T']:=by rw [← Array.toArray_toList (xs:=tys), ht]
  subst ha'; subst ht'
  rcases vk h with h | h
  ·exact zj1 ho h
  ·exact zid ho h
 ·rename_i x T ha ht
  have ha':args = #[x]:=by rw [← Array.toArray_toList (xs:=args), ha]
  have ht':tys = #[T]:=by rw [← Array.toArray_toList (xs:=tys), ht]
  subst ha'; subst ht'
  exact zfx ho h
 ·rename_i p n T T' ha ht
  have ha':args = #[p, n]:=by rw [← Array.toArray_toList (xs:=args), ha]
  have ht':tys = #[T, T']:=by rw [← Array.toArray_toList (xs:=tys), ht]
  subst ha'; subst ht'
  exact zdh ho h
 ·exact jX h
 ·exact jX h
 ·cases h
def zqy (P:Program) (lim:Nat) (fr:Fr) (M:Mem) (nx:Nat) (o:Oper):jE:=match o.op with
 | .move x=>zef fr M nx x
 | .assign x=>zef fr M nx x
 | .pick c x y=>zib fr M nx c x y
 | .alloc T=>zeN P M nx T
 | .box _ x=>zlx fr M nx x
 | .load T p=>ziv P fr M nx T p
 | .store T p x=>zeQ P lim fr M nx T p x
 | .fieldAddr T x k=>xZ P fr M nx T x k
 | .indexAddr T x i=>zac P fr M nx T x i
 | .slice T x lo hi mx=>orE (ziA P fr M nx T x lo hi mx) fun _=>orE (zgo P fr M nx T x lo hi mx) fun _=>orE (zfN P fr M nx T x lo hi mx) fun _=>vY P fr M nx o
 | .build T ps=>zhT P fr M nx T ps
 | .buildSlice T n ps=>zbb P fr M nx T n ps
 | .makeFunc f a b=>zbk fr M nx f a b
 | .extract t i=>zcA fr M nx t i
 | .field T x k=>zhC P fr M nx T x k
 | .index T x i=>orE (ziy P fr M nx T x i) fun _=>vY P fr M nx o
 | .makeInterface T x=>kZ P fr M nx T x
 | .makeMap T r=>zd1 P fr M nx T r
 | .lookup T x i ok=>zgc P fr M nx T x i ok
 | .mapUpdate T m k x=>zab P lim fr M nx T m k x
 | .insert T m k x=>zab P lim fr M nx T m k x
 | .mapEntry T m k=>zc3 P lim fr M nx T m k
 | .entryStore _ m s x=>zba lim fr M nx m s x
 | .nilCheck x=>zc5 fr M nx x
 | .range T x=>ziN P fr M nx T x
 | .next y true=>zku lim fr M nx y
 | .makeSlice T x y=>zbQ P fr M nx T x y
 | .binOp op T x y _=>orE (vY P fr M nx o) fun _=>zeU P fr M nx op T x y
 | .unOp _ _ _=>vY P fr M nx o
 | .convert S T x=>orE (zfV P fr M nx S T x) fun _=>orE (vY P fr M nx o) fun _=>zfy P fr M nx S T x
 | .typeAssert _ _ _ _=>vY P fr M nx o
 | .call { callee:=.builtin b, args, argTypes }=>ziD P lim fr M nx o b args.toList argTypes.toList
 | _=>none
theorem zqb (h:zqy P lim fr M nx o = some (v, M', nx')):OpS P lim fr M nx o v M' nx':=by
 unfold zqy at h
 split at h
 ·rename_i ho; exact zct (.inl ho) h
 ·rename_i ho; exact zct (.inr ho) h
 ·rename_i ho; exact zgS ho h
 ·rename_i ho; exact zfA ho h
 ·rename_i ho; exact zjN ho h
 ·rename_i ho; exact zgR ho h
 ·rename_i ho; exact zfQ ho h
 ·rename_i ho; exact zbL ho h
 ·rename_i ho; exact zcd ho h
 ·rename_i ho
  rcases vk h with h | h
  ·exact zk0 ho h
  ·rcases vk h with h | h
   ·exact zjG ho h
   ·rcases vk h with h | h
    ·exact zi0 ho h
    ·exact jX h
 ·rename_i ho; exact zkt ho h
 ·rename_i ho; exact zeH ho h
 ·rename_i ho; exact zcG ho h
 ·rename_i ho; exact zdE ho h
 ·rename_i ho; exact zkK ho h
 ·rename_i ho
  rcases vk h with h | h
  ·exact zkX ho h
  ·exact jX h
 ·rename_i ho; exact zc4 ho h
 ·rename_i ho; exact zhW ho h
 ·rename_i ho; exact zjK ho h
 ·rename_i ho; exact zb0 (.inl ho) h
 ·rename_i ho; exact zb0 (.inr ho) h
 ·rename_i ho; exact zgA ho h
 ·rename_i ho; exact zeF ho h
 ·rename_i ho; exact zgs ho h
 ·rename_i ho; exact zk1 ho h
 ·rename_i ho; exact zng ho h
 ·rename_i ho; exact zff ho h
 ·rename_i ho
  rcases vk h with h | h
  ·exact jX h
  ·exact zfd ho h
 ·exact jX h
 ·rename_i ho
  rcases vk h with h | h
  ·exact zjb ho h
  ·rcases vk h with h | h
   ·exact jX h
   ·exact zjL ho h
 ·exact jX h
 ·rename_i ho; exact zgT ho h
 ·cases h
end
end
end Go.Bv
end
