import Derived.Test.YtaphehlgijlfeaaGreatDoorPlatM
import Derived.Shelf.Slices.Clone
import Derived.Shelf.SlSortCmp.Whole1
import Derived.Shelf.SlSortCmp.NoneTotal
import Derived.Test.YtaphehlgijlfeaaGreatDoorChecked
set_option linter.unusedVariables false
set_option linter.unusedSimpArgs false
section
namespace Go.Proofs
open Go.Shelf
set_option maxRecDepth 100000
def Tryz.laysNm215_ren:Go.Shelf.Ren:=⟨fun | 15=>112 | n=>n, fun | 22=>23 | 3=>3 | 4=>4 | n=>n, fun | n=>n⟩
theorem Tryz.laysNm215:Go.Proofs.Lays2.n15 Tryz.prog Tryz.laysNm215_ren:={
 mixed:=by kernel_rfl
 f15:=Tryz.func112.trans (congrArg some (by kernel_rfl))
 t3:=Tryz.underlying3
 a3:=Tryz.isAgg3
 z3:=Tryz.sizeOf3
 v3:=Tryz.zeroValue3
 t4:=Tryz.underlying4
 a4:=Tryz.isAgg4
 z4:=Tryz.sizeOf4
 v4:=Tryz.zeroValue4
 t22:=Tryz.underlying23
 a22:=Tryz.isAgg23
 z22:=Tryz.sizeOf23
 v22:=Tryz.zeroValue23
 i3:=by kernel_rfl }
def Tryz.laysSlF6_f139_ren:Go.Shelf.Ren:=⟨fun | 6=>139 | 15=>168 | 14=>167 | 28=>189 | 29=>190 | 20=>181 | 21=>182 | 22=>183 | 23=>184 | 24=>185 | 25=>186 | 26=>187 | 27=>188 | 46=>204 | 47=>205 | 48=>206 | 49=>207 | 50=>208 | 57=>222 | n=>n, fun | 22=>30 | 24=>23 | 25=>191 | 3=>3 | 39=>221 | 0=>0 | 53=>237 | 55=>239 | 4=>4 | 46=>231 | 45=>230 | 50=>166 | 5=>5 | 9=>9 | 66=>253 | 70=>257 | 76=>274 | 77=>59 | n=>n, fun | n=>n⟩
theorem Tryz.laysSlF6_f139:Go.Proofs.SlLaysF.n6 Tryz.prog Tryz.laysSlF6_f139_ren:={
 mixed:=by kernel_rfl
 f6:=⟨Tryz.f139.name, by decide, Tryz.func139.trans (congrArg some (by kernel_rfl))⟩
 f14:=⟨Tryz.f167.name, by decide, Tryz.func167.trans (congrArg some (by kernel_rfl))⟩
 f15:=Tryz.func168.trans (congrArg some (by kernel_rfl))
 f20:=⟨Tryz.f181.name, by decide, Tryz.func181.trans (congrArg some (by kernel_rfl))⟩
 f21:=⟨Tryz.f182.name, by decide, Tryz.func182.trans (congrArg some (by kernel_rfl))⟩
 f22:=⟨Tryz.f183.name, by decide, Tryz.func183.trans (congrArg some (by kernel_rfl))⟩
 f23:=⟨Tryz.f184.name, by decide, Tryz.func184.trans (congrArg some (by kernel_rfl))⟩
 f24:=⟨Tryz.f185.name, by decide, Tryz.func185.trans (congrArg some (by kernel_rfl))⟩
 f25:=⟨Tryz.f186.name, by decide, Tryz.func186.trans (congrArg some (by kernel_rfl))⟩
 f26:=⟨Tryz.f187.name, by decide, Tryz.func187.trans (congrArg some (by kernel_rfl))⟩
 f27:=⟨Tryz.f188.name, by decide, Tryz.func188.trans (congrArg some (by kernel_rfl))⟩
 f28:=Tryz.func189.trans (congrArg some (by kernel_rfl))
 f29:=Tryz.func190.trans (congrArg some (by kernel_rfl))
 f46:=⟨Tryz.f204.name, by decide, Tryz.func204.trans (congrArg some (by kernel_rfl))⟩
 f47:=Tryz.func205.trans (congrArg some (by kernel_rfl))
 f48:=Tryz.func206.trans (congrArg some (by kernel_rfl))
 f49:=⟨Tryz.f207.name, by decide, Tryz.func207.trans (congrArg some (by kernel_rfl))⟩
 f50:=⟨Tryz.f208.name, by decide, Tryz.func208.trans (congrArg some (by kernel_rfl))⟩
 f57:=⟨Tryz.f222.name, by decide, Tryz.func222.trans (congrArg some (by kernel_rfl))⟩
 t0:=Tryz.underlying0
 a0:=Tryz.isAgg0
 z0:=Tryz.sizeOf0
 v0:=Tryz.zeroValue0
 t3:=Tryz.underlying3
 a3:=Tryz.isAgg3
 z3:=Tryz.sizeOf3
 v3:=Tryz.zeroValue3
 t4:=Tryz.underlying4
 a4:=Tryz.isAgg4
 z4:=Tryz.sizeOf4
 v4:=Tryz.zeroValue4
 t5:=Tryz.underlying5
 a5:=Tryz.isAgg5
 z5:=Tryz.sizeOf5
 v5:=Tryz.zeroValue5
 t9:=Tryz.underlying9
 a9:=Tryz.isAgg9
 z9:=Tryz.sizeOf9
 v9:=Tryz.zeroValue9
 t22:=Tryz.underlying30
 a22:=Tryz.isAgg30
 z22:=Tryz.sizeOf30
 v22:=Tryz.zeroValue30
 a24:=Tryz.isAgg23
 z24:=Tryz.sizeOf23
 t25:=Tryz.underlying191
 a25:=Tryz.isAgg191
 z25:=Tryz.sizeOf191
 v25:=Tryz.zeroValue191
 t39:=Tryz.underlying221
 a39:=Tryz.isAgg221
 z39:=Tryz.sizeOf221
 v39:=Tryz.zeroValue221
 t45:=Tryz.underlying230
 a45:=Tryz.isAgg230
 z45:=Tryz.sizeOf230
 v45:=Tryz.zeroValue230
 t46:=Tryz.underlying231
 a46:=Tryz.isAgg231
 z46:=Tryz.sizeOf231
 v46:=Tryz.zeroValue231
 t50:=Tryz.underlying166
 a50:=Tryz.isAgg166
 z50:=Tryz.sizeOf166
 v50:=Tryz.zeroValue166
 t53:=Tryz.underlying237
 a53:=Tryz.isAgg237
 z53:=Tryz.sizeOf237
 v53:=Tryz.zeroValue237
 t55:=Tryz.underlying239
 a55:=Tryz.isAgg239
 z55:=Tryz.sizeOf239
 v55:=Tryz.zeroValue239
 t66:=Tryz.underlying253
 a66:=Tryz.isAgg253
 z66:=Tryz.sizeOf253
 v66:=Tryz.zeroValue253
 t70:=Tryz.underlying257
 a70:=Tryz.isAgg257
 z70:=Tryz.sizeOf257
 v70:=Tryz.zeroValue257
 t76:=Tryz.underlying274
 a76:=Tryz.isAgg274
 z76:=Tryz.sizeOf274
 v76:=Tryz.zeroValue274
 t77:=Tryz.underlying59
 a77:=Tryz.isAgg59
 z77:=Tryz.sizeOf59
 v77:=Tryz.zeroValue59 }
end Go.Proofs
namespace Go.Av
open Go.Proofs
theorem n112 (m:List Int) (hm:m.length <= 1000000):NCall Tryz.prog 112 [nums m] (nums m):=
 zm5 ⟨_, Tryz.func112, rfl, rfl⟩ (fun b off n c zs w h1 h2 h3=>Any.slices_Clone_int Tryz.laysNm215 b off n c zs w h1 h2 h3) (fun a c w=>Any.slices_Clone_int_zero Tryz.laysNm215 a c w) (fun n c w=>Any.slices_Clone_int_nil Tryz.laysNm215 n c w) m hm
theorem ztg (p:Int) (w:World):Calls Tryz.prog 191 #[.int .i64 p] w fun e w'=>e = .returned (.bool false) /\ w' = w:=by
 go_enter Tryz.func191, Tryz.ntmps191
 go_wp2
 go_ret
 simp
theorem ztl (p q:Int) (w:World):Calls Tryz.prog 169 #[.int .i64 p, .int .i64 q] w fun e w'=>e = .returned (.int .i64 (if p < q then -1 else if q < p then 1 else 0)) /\ w' = w:=by
 have e191:∀ args w, (callFunc 191 args).run Tryz.prog w = .ok (.enter 191 args) w:=fun args w=>Go.Av.enter_run ⟨_, Tryz.func191, rfl, rfl⟩ args w
 go_enter Tryz.func169, Tryz.ntmps169
 go_wp2_with (go_at_fn 191; refine (ztg _ _).mono ?_; rintro e w' ⟨rfl, rfl⟩)
 ·
  go_ret
  exact ⟨rfl, rfl⟩
 ·
  go_ret
  exact ⟨rfl, rfl⟩
 ·
  go_ret
  exact ⟨rfl, rfl⟩
theorem zmS:∀ {m m':List Int} {k:Nat}, (∀ j, j < k -> m[j]? = m'[j]?) -> k <= m.length -> k <= m'.length -> cmpL m m' = cmpL (m.drop k) (m'.drop k):=by
  intro m
  induction m with
  | nil => intro m' k _ h2 _; have : k = 0 := by simpa using h2
           subst this; simp
  | cons a m ih=>
    intro m' k h h2 h3
    cases k with
    | zero=>simp
    | succ k=>
      cases m' with
      | nil=>simp at h3
      | cons b m'=>
        have h0:=h 0 (by omega)
        simp at h0
        subst h0
        simp only[List.drop_succ_cons]
        rw [← ih (fun j hj=>by have:=h (j + 1) (by omega); simpa using this) (by simpa using h2) (by simpa using h3)]
        simp [cmpL]
theorem ztd:zq4 Tryz.prog 140:=by
  intro w a a' c c' m m' h h'
  have e169:∀ args w, (callFunc 169 args).run Tryz.prog w = .ok (.enter 169 args) w:=fun args w=>Go.Av.enter_run ⟨_, Tryz.func169, rfl, rfl⟩ args w
  go_enter Tryz.func140, Tryz.ntmps140
  go_wp2
  go_loop [5, 6, 7, 8, 11] (fun _ _ _ _ i=>∃ k:Nat, k <= m.length /\ k <= m'.length /\ i = .int .i64 k /\ ∀ j, j < k -> m[j]? = m'[j]?) (fun _ _ _ _ i=>match i with | .int _ x=>m.length - x.toNat | _=>0)
  case atStart=>exact ⟨0, Nat.zero_le _, Nat.zero_le _, rfl, fun j hj=>absurd hj (Nat.not_lt_zero _)⟩
  case round=>
    obtain ⟨k, h1, h2, rfl, hne⟩:=hrel
    have hm:=h.1
    have hm':=h'.1
    have hmx:maxLen = 9223372036854775807:=rfl
    have hcm:=zmS hne h1 h2
    by_cases hk:k < m.length
    · obtain ⟨b, off, rfl, hcell⟩:=h.2 (by omega)
      by_cases hk':k < m'.length
      · obtain ⟨b', off', rfl, hcell'⟩:=h'.2 (by omega)
        have hc1:=hcell k hk
        have hc2:=hcell' k hk'
        rw [List.drop_eq_getElem_cons hk, List.drop_eq_getElem_cons hk'] at hcm
        simp only[cmpL] at hcm
        generalize hpe:m[k] = p at hc1 hcm
        generalize hqe:m'[k] = q at hc2 hcm
        have e1:m[k]? = some p:=by rw [List.getElem?_eq_getElem hk, hpe]
        have e2:m'[k]? = some q:=by rw [List.getElem?_eq_getElem hk', hqe]
        clear hcell hcell' hpe hqe
        go_wp2_with (go_at_fn 169; refine (ztl _ _ _).mono ?_; rintro e w' ⟨rfl, rfl⟩)
        all_goals first
          | (go_ret; exact ⟨rfl, rfl⟩)
          | (rename_i ha hb
             rw [if_neg (by omega), if_neg (by omega)] at ha
             exact absurd ha (by decide))
          | (rename_i ha
             have hpq:p = q:=by
               by_cases x1:p < q
               · rw [if_pos x1] at ha; exact absurd ha (by decide)
               · by_cases x2:q < p
                 · rw [if_neg x1, if_pos x2] at ha; exact absurd ha (by decide)
                 · omega
             refine ⟨⟨k + 1, by omega, by omega, by simp, fun j hj=>?_⟩, by simp; omega⟩
             by_cases hjk:j = k
             · subst hjk
               rw [e1, e2, hpq]
             · exact hne j (by omega))
      · have hd : cmpL m m' = 1 := by
          rw [hcm, List.drop_eq_getElem_cons hk, List.drop_eq_nil_of_le (show m'.length <= k by omega)]; rfl
        clear hcm
        have hcell1:=hcell k hk
        clear hcell
        go_wp2
        all_goals first
          | (go_ret; exact ⟨rfl, rfl⟩)
          | (exfalso; omega)
    · have hkm:k = m.length:=by omega
      have hd:cmpL m m' = if m.length < m'.length then -1 else 0:=by
        rw [hcm, List.drop_eq_nil_of_le (show m.length <= k by omega)]
        by_cases hl:m.length < m'.length
        · rw [if_pos hl, List.drop_eq_getElem_cons (by omega)]; rfl
        · rw [if_neg hl, List.drop_eq_nil_of_le (by omega)]; rfl
      clear hcm
      subst hkm
      go_wp2
      all_goals first
        | (go_ret; exact ⟨rfl, rfl⟩)
        | (exfalso; omega)
theorem ztj (w:World):Calls Tryz.prog 139 #[.slice none 0 0, .func (.func 140) #[] #[]] w fun e w'=>e = .returned (.tuple #[]) /\ w' = w:=
 AnyF.slices_SortFunc_none (P:=Tryz.prog) (ρ:=Tryz.laysSlF6_f139_ren) { Tryz.laysSlF6_f139 with } none 0 _ w
end Go.Av
end
