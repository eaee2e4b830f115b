import Derived.Test.YtgmbdadkbominaaGreatDoorPlatM
import Derived.Shelf.Slices.Clone
import Derived.Shelf.SlSortCmp.Whole1
import Derived.Shelf.SlSortCmp.NoneTotal
import Derived.Test.YtgmbdadkbominaaGreatDoorProg
import Derived.Test.YtgmbdadkbominaaGreatDoorWiE
import Derived.Test.YtgmbdadkbominaaGreatDoorPlatJ
set_option linter.unusedVariables false
set_option linter.unusedSimpArgs false
section
namespace Go.Proofs
namespace Wr
open Go.Shelf
set_option maxRecDepth 100000
def Tryz.laysNm215_ren:Go.Shelf.Ren:=⟨fun | 15=>234 | n=>n, fun | 22=>24 | 3=>3 | 4=>4 | n=>n, fun | n=>n⟩
theorem Tryz.laysNm215:Go.Proofs.Lays2.n15 Tryz.prog Tryz.laysNm215_ren:={
 mixed:=by kernel_rfl
 f15:=Tryz.func234.trans (congrArg some (by kernel_rfl))
 t3:=Tryz.underlying3
 a3:=Tryz.isAgg3
 z3:=Tryz.sizeOf3
 v3:=Tryz.zeroValue3
 t4:=Tryz.underlying4
 a4:=Tryz.isAgg4
 z4:=Tryz.sizeOf4
 v4:=Tryz.zeroValue4
 t22:=Tryz.underlying24
 a22:=Tryz.isAgg24
 z22:=Tryz.sizeOf24
 v22:=Tryz.zeroValue24
 i3:=by kernel_rfl }
def Tryz.laysSlF6_f139_ren:Go.Shelf.Ren:=⟨fun | 6=>237 | 15=>284 | 14=>283 | 28=>328 | 29=>329 | 20=>320 | 21=>321 | 22=>322 | 23=>323 | 24=>324 | 25=>325 | 26=>326 | 27=>327 | 46=>359 | 47=>360 | 48=>361 | 49=>362 | 50=>363 | 57=>403 | n=>n, fun | 22=>82 | 24=>24 | 25=>346 | 3=>3 | 39=>389 | 0=>0 | 53=>417 | 55=>399 | 4=>4 | 46=>411 | 45=>410 | 50=>155 | 5=>5 | 9=>9 | 66=>438 | 70=>442 | 76=>478 | 77=>281 | n=>n, fun | n=>n⟩
theorem Tryz.laysSlF6_f139:Go.Proofs.SlLaysF.n6 Tryz.prog Tryz.laysSlF6_f139_ren:={
 mixed:=by kernel_rfl
 f6:=⟨Tryz.f237.name, by decide, Tryz.func237.trans (congrArg some (by kernel_rfl))⟩
 f14:=⟨Tryz.f283.name, by decide, Tryz.func283.trans (congrArg some (by kernel_rfl))⟩
 f15:=Tryz.func284.trans (congrArg some (by kernel_rfl))
 f20:=⟨Tryz.f320.name, by decide, Tryz.func320.trans (congrArg some (by kernel_rfl))⟩
 f21:=⟨Tryz.f321.name, by decide, Tryz.func321.trans (congrArg some (by kernel_rfl))⟩
 f22:=⟨Tryz.f322.name, by decide, Tryz.func322.trans (congrArg some (by kernel_rfl))⟩
 f23:=⟨Tryz.f323.name, by decide, Tryz.func323.trans (congrArg some (by kernel_rfl))⟩
 f24:=⟨Tryz.f324.name, by decide, Tryz.func324.trans (congrArg some (by kernel_rfl))⟩
 f25:=⟨Tryz.f325.name, by decide, Tryz.func325.trans (congrArg some (by kernel_rfl))⟩
 f26:=⟨Tryz.f326.name, by decide, Tryz.func326.trans (congrArg some (by kernel_rfl))⟩
 f27:=⟨Tryz.f327.name, by decide, Tryz.func327.trans (congrArg some (by kernel_rfl))⟩
 f28:=Tryz.func328.trans (congrArg some (by kernel_rfl))
 f29:=Tryz.func329.trans (congrArg some (by kernel_rfl))
 f46:=⟨Tryz.f359.name, by decide, Tryz.func359.trans (congrArg some (by kernel_rfl))⟩
 f47:=Tryz.func360.trans (congrArg some (by kernel_rfl))
 f48:=Tryz.func361.trans (congrArg some (by kernel_rfl))
 f49:=⟨Tryz.f362.name, by decide, Tryz.func362.trans (congrArg some (by kernel_rfl))⟩
 f50:=⟨Tryz.f363.name, by decide, Tryz.func363.trans (congrArg some (by kernel_rfl))⟩
 f57:=⟨Tryz.f403.name, by decide, Tryz.func403.trans (congrArg some (by kernel_rfl))⟩
 t0:=Tryz.underlying0
 a0:=Tryz.isAgg0
 z0:=Tryz.sizeOf0
 v0:=Tryz.zeroValue0
 t3:=Tryz.underlying3
 a3:=Tryz.isAgg3
 z3:=Tryz.sizeOf3
 v3:=Tryz.zeroValue3
 t4:=Tryz.underlying4
 a4:=Tryz.isAgg4
 z4:=Tryz.sizeOf4
 v4:=Tryz.zeroValue4
 t5:=Tryz.underlying5
 a5:=Tryz.isAgg5
 z5:=Tryz.sizeOf5
 v5:=Tryz.zeroValue5
 t9:=Tryz.underlying9
 a9:=Tryz.isAgg9
 z9:=Tryz.sizeOf9
 v9:=Tryz.zeroValue9
 t22:=Tryz.underlying82
 a22:=Tryz.isAgg82
 z22:=Tryz.sizeOf82
 v22:=Tryz.zeroValue82
 a24:=Tryz.isAgg24
 z24:=Tryz.sizeOf24
 t25:=Tryz.underlying346
 a25:=Tryz.isAgg346
 z25:=Tryz.sizeOf346
 v25:=Tryz.zeroValue346
 t39:=Tryz.underlying389
 a39:=Tryz.isAgg389
 z39:=Tryz.sizeOf389
 v39:=Tryz.zeroValue389
 t45:=Tryz.underlying410
 a45:=Tryz.isAgg410
 z45:=Tryz.sizeOf410
 v45:=Tryz.zeroValue410
 t46:=Tryz.underlying411
 a46:=Tryz.isAgg411
 z46:=Tryz.sizeOf411
 v46:=Tryz.zeroValue411
 t50:=Tryz.underlying155
 a50:=Tryz.isAgg155
 z50:=Tryz.sizeOf155
 v50:=Tryz.zeroValue155
 t53:=Tryz.underlying417
 a53:=Tryz.isAgg417
 z53:=Tryz.sizeOf417
 v53:=Tryz.zeroValue417
 t55:=Tryz.underlying399
 a55:=Tryz.isAgg399
 z55:=Tryz.sizeOf399
 v55:=Tryz.zeroValue399
 t66:=Tryz.underlying438
 a66:=Tryz.isAgg438
 z66:=Tryz.sizeOf438
 v66:=Tryz.zeroValue438
 t70:=Tryz.underlying442
 a70:=Tryz.isAgg442
 z70:=Tryz.sizeOf442
 v70:=Tryz.zeroValue442
 t76:=Tryz.underlying478
 a76:=Tryz.isAgg478
 z76:=Tryz.sizeOf478
 v76:=Tryz.zeroValue478
 t77:=Tryz.underlying281
 a77:=Tryz.isAgg281
 z77:=Tryz.sizeOf281
 v77:=Tryz.zeroValue281 }
end Wr
end Go.Proofs
namespace Go.Av
namespace Wr
open Go.Proofs Go.Proofs.Wr
theorem n112 (m:List Int) (hm:m.length <= 1000000):znz Tryz.prog 234 [nums m] (nums m):=
 zoL ⟨_, Tryz.func234, rfl, rfl⟩ (fun b off n c zs w h1 h2 h3=>Any.slices_Clone_int Tryz.laysNm215 b off n c zs w h1 h2 h3) (fun a c w=>Any.slices_Clone_int_zero Tryz.laysNm215 a c w) (fun n c w=>Any.slices_Clone_int_nil Tryz.laysNm215 n c w) m hm
theorem zue (p:Int) (w:World):Calls Tryz.prog 330 #[.int .i64 p] w fun e w'=>e = .returned (.bool false) /\ w' = w:=by
 go_enter Tryz.func330, Tryz.ntmps330
 go_wp2
 go_ret
 simp
theorem zt1 (p q:Int) (w:World):Calls Tryz.prog 285 #[.int .i64 p, .int .i64 q] w fun e w'=>e = .returned (.int .i64 (if p < q then -1 else if q < p then 1 else 0)) /\ w' = w:=by
 have e191:∀ args w, (callFunc 330 args).run Tryz.prog w = .ok (.enter 330 args) w:=fun args w=>Go.Av.enter_run ⟨_, Tryz.func330, rfl, rfl⟩ args w
 go_enter Tryz.func285, Tryz.ntmps285
 go_wp2_with (go_at_fn 330; refine (zue _ _).mono ?_; rintro e w' ⟨rfl, rfl⟩)
 ·go_ret
  exact ⟨Y, Y⟩
 ·go_ret
  exact ⟨Y, Y⟩
 ·go_ret
  exact ⟨Y, Y⟩
theorem znk:∀ {m m':List Int} {k:Nat}, (∀ j, j < k -> m[j]? = m'[j]?) -> k <= m.length -> k <= m'.length -> cmpL m m' = cmpL (m.drop k) (m'.drop k):=by
  intro m
  induction m with
  | nil => intro m' k _ h2 _; have : k = 0 := by simpa using h2
           subst this; simp
  | cons a m ih=>
    intro m' k h h2 h3
    cases k with
    | zero=>simp
    | succ k=>
      cases m' with
      | nil=>simp at h3
      | cons b m'=>
        have h0:=h 0 (by omega)
        simp at h0
        subst h0
        simp only[List.drop_succ_cons]
        rw [← ih (fun j hj=>by have:=h (j + 1) (by omega); simpa using this) (by simpa using h2) (by simpa using h3)]
        simp [cmpL]
theorem zt9:zrh Tryz.prog 238:=by
  intro w a a' c c' m m' h h'
  have e169:∀ args w, (callFunc 285 args).run Tryz.prog w = .ok (.enter 285 args) w:=fun args w=>Go.Av.enter_run ⟨_, Tryz.func285, rfl, rfl⟩ args w
  go_enter Tryz.func238, Tryz.ntmps238
  go_wp2
  go_loop [5, 6, 7, 8, 11] (fun _ _ _ _ i=>∃ k:Nat, k <= m.length /\ k <= m'.length /\ i = .int .i64 k /\ ∀ j, j < k -> m[j]? = m'[j]?) (fun _ _ _ _ i=>match i with | .int _ x=>m.length - x.toNat | _=>0)
  case atStart=>exact ⟨0, Nat.zero_le _, Nat.zero_le _, rfl, fun j hj=>absurd hj (Nat.not_lt_zero _)⟩
  case round=>
    obtain ⟨k, h1, h2, rfl, hne⟩:=hrel
    have hm:=h.1
    have hm':=h'.1
    have hmx:maxLen = 9223372036854775807:=rfl
    have hcm:=znk hne h1 h2
    by_cases hk:k < m.length
    · obtain ⟨b, off, rfl, hcell⟩:=h.2 (by omega)
      by_cases hk':k < m'.length
      · obtain ⟨b', off', rfl, hcell'⟩:=h'.2 (by omega)
        have hc1:=hcell k hk
        have hc2:=hcell' k hk'
        rw [List.drop_eq_getElem_cons hk, List.drop_eq_getElem_cons hk'] at hcm
        simp only[cmpL] at hcm
        generalize hpe:m[k] = p at hc1 hcm
        generalize hqe:m'[k] = q at hc2 hcm
        have e1:m[k]? = some p:=by rw [List.getElem?_eq_getElem hk, hpe]
        have e2:m'[k]? = some q:=by rw [List.getElem?_eq_getElem hk', hqe]
        clear hcell hcell' hpe hqe
        go_wp2_with (go_at_fn 285; refine (zt1 _ _ _).mono ?_; rintro e w' ⟨rfl, rfl⟩)
        all_goals first
          | (go_ret; exact ⟨rfl, rfl⟩)
          | (rename_i ha hb
             rw [if_neg (by omega), if_neg (by omega)] at ha
             exact absurd ha (by decide))
          | (rename_i ha
             have hpq:p = q:=by
               by_cases x1:p < q
               · rw [if_pos x1] at ha; exact absurd ha (by decide)
               · by_cases x2:q < p
                 · rw [if_neg x1, if_pos x2] at ha; exact absurd ha (by decide)
                 · omega
             refine ⟨⟨k + 1, by omega, by omega, by simp, fun j hj=>?_⟩, by simp; omega⟩
             by_cases hjk:j = k
             · subst hjk
               rw [e1, e2, hpq]
             · exact hne j (by omega))
      · have hd : cmpL m m' = 1 := by
          rw [hcm, List.drop_eq_getElem_cons hk, List.drop_eq_nil_of_le (show m'.length <= k by omega)]; rfl
        clear hcm
        have hcell1:=hcell k hk
        clear hcell
        go_wp2
        all_goals first
          | (go_ret; exact ⟨rfl, rfl⟩)
          | (exfalso; omega)
    · have hkm:k = m.length:=by omega
      have hd:cmpL m m' = if m.length < m'.length then -1 else 0:=by
        rw [hcm, List.drop_eq_nil_of_le (show m.length <= k by omega)]
        by_cases hl:m.length < m'.length
        · rw [if_pos hl, List.drop_eq_getElem_cons (by omega)]; rfl
        · rw [if_neg hl, List.drop_eq_nil_of_le (by omega)]; rfl
      clear hcm
      subst hkm
      go_wp2
      all_goals first
        | (go_ret; exact ⟨rfl, rfl⟩)
        | (exfalso; omega)
theorem zuk (w:World):Calls Tryz.prog 237 #[.slice none 0 0, .func (.func 238) #[] #[]] w fun e w'=>e = .returned (.tuple #[]) /\ w' = w:=
 AnyF.slices_SortFunc_none (P:=Tryz.prog) (ρ:=Tryz.laysSlF6_f139_ren) { Tryz.laysSlF6_f139 with } none 0 _ w
end Wr
end Go.Av
end
section
namespace Go.Av
namespace Wr
open Go.Proofs Go.Proofs.Wr
set_option maxRecDepth 100000
set_option maxHeartbeats 1000000
variable {G:Glob}
theorem zei:tyIs Tryz.prog 82 false 1 = true:=by kernel_rfl
theorem zt5:elemIs Tryz.prog 82 24 1 24:=⟨Tryz.underlying82, Tryz.t24, _, by kernel_rfl, rfl, rfl, rfl, rfl, by decide⟩
theorem zt4:Tryz.prog.info? 24 = some Tryz.t24:=by kernel_rfl
theorem zl0:tyIs Tryz.prog 339 false 1 = true:=by kernel_rfl
theorem zv3:(Tryz.prog.info? 3).bind (·.zero) = some (.int .i64 0):=by kernel_rfl
def kE (m:List Int):List (List EV):=m.map fun x=>[I x]
def zdJ (ls:List (List Int)):List (List EV):=ls.map fun m=>[EV.pub (nums m)]
theorem zhk (m:List Int):kE m = (m.map fun n=>[AV.v (.int .i64 n)]).map (·.map .pub):=by simp [kE]
theorem zm1 (ls:List (List Int)):zdJ ls = (ls.map fun m=>[nums m]).map (·.map .pub):=by simp [zdJ]
theorem xq (m:List Int):(kE m).length = m.length:=by simp [kE]
theorem zej {m:List Int} {a:Nat} (h:a < m.length):(kE m)[a]? = some [I (m.getD a 0)]:=by simp [kE, h]
theorem zg6 (m:List Int) (a:Nat) (x y:Int):(kE m).set a (putCells [I x] 0 [I y]) = kE (m.set a y):=by simp [kE, putCells, List.map_set]
theorem zeb (m:List Int):∀ q ∈ kE m, q.length = 1:=by simp [kE]
theorem znj (ls:List (List Int)):∀ q ∈ zdJ ls, q.length = 1:=by simp [zdJ]
def zht (c:Cod) (l:List (List (List UInt8))):List EV:=[.pub (.ptr (vK c l)), .pp 2 1 0 0, .pp 0 1 0 0, .pub (.ptr [ei (c.fields.length:Int)]), .pp 3 1 0 0]
def zd4 (c:Cod) (l:List (List (List UInt8))) (now:List Int) (ls:List (List Int)):List PO:=[.row [[.psl 4 ls.length]], .row (kE now), .row [[.psl 1 c.fields.length]], .row [[.fnm 232 [] (zht c l)]], .row (zdJ ls)]
theorem zeX {c:Cod} {l:List (List (List UInt8))} {now:List Int} {ls:List (List Int)} {n:Nat} {r1 r2:List (List EV)} (h1:n = ls.length) (h2:r1 = kE now) (h3:r2 = zdJ ls):
  [PO.row [[.psl 4 n]], .row r1, .row [[.psl 1 c.fields.length]], .row [[.fnm 232 [] (zht c l)]], .row r2] = zd4 c l now ls:=by subst h1; subst h2; subst h3; rfl
theorem zcE {c:Cod} {l:List (List (List UInt8))} {now now':List Int} {ls ls':List (List Int)} (h1:now = now') (h2:ls = ls'):zd4 c l now ls = zd4 c l now' ls':=by subst h1; subst h2; rfl
theorem zdc (c:Cod) (l:List (List (List UInt8))) (now:List Int) (ls:List (List Int)):zbM (zd4 c l now ls).length (zd4 c l now ls):=by
 refine ⟨?_, ?_, ?_, ?_, ?_, trivial⟩
 ·intro r hr x hx
  simp at hr; subst hr; simp at hx; subst hx
  show 4 < 5
  omega
 ·intro r hr x hx
  obtain ⟨y, _, rfl⟩:=List.mem_map.1 hr
  simp at hx; subst hx; trivial
 ·intro r hr x hx
  simp at hr; subst hr; simp at hx; subst hx
  show 1 < 5
  omega
 ·intro r hr x hx
  simp at hr; subst hr; simp at hx; subst hx
  refine ⟨trivial, trivial, ?_, ?_, trivial, ?_, trivial⟩ <;> (show _ < 5; omega)
 ·intro r hr x hx
  obtain ⟨y, _, rfl⟩:=List.mem_map.1 hr
  simp at hx; subst hx; trivial
def zgx (now:List Int) (a:Nat) (L:List Nat):Nat -> List Int
 | 0=>now
 | j + 1=>now.set a (10 * now.getD a 0 + ((L.getD j 0:Nat):Int))
def lsJ (c:Cod) (l:List (List (List UInt8))) (fu pz a:Nat) (sum:Int) (n:Int × Int × Int) (now:List Int) (ls:List (List Int)) (j:Nat):List (List Int):=
 ls ++ ((zaU c l a pz n).take j).flatMap fun (f:Nat)=>yc c l fu pz (a + 1) (sum + (f:Int)) (plN l a pz (f:Int) n) (now.set a (10 * now.getD a 0 + (f:Int)))
theorem zaH {now:List Int} {a:Nat} {L:List Nat} (j:Nat):(zgx now a L j).length = now.length:=by cases j <;> simp [zgx]
theorem zjS {now:List Int} {a:Nat} {L:List Nat} (j:Nat) (y:Int):(zgx now a L j).set a y = now.set a y:=by cases j <;> simp [zgx]
theorem zmu {now:List Int} {a:Nat} {L:List Nat} {j f:Nat} (h:L[j]? = some f):zgx now a L (j + 1) = now.set a (10 * now.getD a 0 + (f:Int)):=by simp [zgx, h]
theorem lsJ_0 {c:Cod} {l:List (List (List UInt8))} {fu pz a:Nat} {sum:Int} {n:Int × Int × Int} {now:List Int} {ls:List (List Int)}:lsJ c l fu pz a sum n now ls 0 = ls:=by simp [lsJ]
theorem ziP {c:Cod} {l:List (List (List UInt8))} {fu pz a:Nat} {sum:Int} {n:Int × Int × Int} {now:List Int} {ls:List (List Int)} {j f:Nat} (h:(zaU c l a pz n)[j]? = some f):
  lsJ c l fu pz a sum n now ls (j + 1) = lsJ c l fu pz a sum n now ls j ++ yc c l fu pz (a + 1) (sum + (f:Int)) (plN l a pz (f:Int) n) (now.set a (10 * now.getD a 0 + (f:Int))):=by
 simp [lsJ, List.take_add_one, h]
theorem zrR {c:Cod} {l:List (List (List UInt8))} {fu pz a:Nat} {sum:Int} {n:Int × Int × Int} {now:List Int} {ls:List (List Int)} (j:Nat):
  (lsJ c l fu pz a sum n now ls j).length <= (ls ++ (zaU c l a pz n).flatMap fun (f:Nat)=>yc c l fu pz (a + 1) (sum + (f:Int)) (plN l a pz (f:Int) n) (now.set a (10 * now.getD a 0 + (f:Int)))).length:=by
 unfold lsJ
 conv=>rhs; rw [← List.take_append_drop j (zaU c l a pz n), List.flatMap_append]
 simp only[List.length_append]
 omega
theorem zlA {c:Cod} {l:List (List (List UInt8))} {fu pz a:Nat} {sum:Int} {n:Int × Int × Int} {now:List Int} {ls:List (List Int)} {j:Nat} (h:(zaU c l a pz n).length = j):
  lsJ c l fu pz a sum n now ls j = ls ++ (zaU c l a pz n).flatMap fun (f:Nat)=>yc c l fu pz (a + 1) (sum + (f:Int)) (plN l a pz (f:Int) n) (now.set a (10 * now.getD a 0 + (f:Int))):=by
 unfold lsJ; rw [← h, List.take_length]
theorem zgu (m:List Int) (a:Nat):m.set a (m.getD a 0) = m:=by
 by_cases h:a < m.length
 ·have e:m.getD a 0 = m[a]:=by simp [h]
  rw [e, List.set_getElem_self]
 ·exact List.set_eq_of_length_le (by omega)
theorem zt3 (c:Cod) (l:List (List (List UInt8))) (hc:wL c = true) (hl:l.length <= 3) (hcp:∀ g ∈ l, vI c g = true):∀ (fu pz a:Nat) (sum:Int) (n:Int × Int × Int) (now:List Int) (ls:List (List Int)), pz <= 5 -> a <= c.fields.length -> (pz = 5 -> a = 0) -> zaz c.fields.length pz a <= fu -> now.length = c.fields.length -> sum = zb7 now a -> zek pz a now -> zjT n -> ls.length + (yc c l fu pz a sum n now).length <= 4000000 ->
  zeq Tryz.prog G 232 ([I (pz:Int), I (a:Int), I sum, .pub (.agg (eCn n))] ++ zht c l) (zd4 c l now ls) (.ret (.pub (.tup [])) (zd4 c l now (ls ++ yc c l fu pz a sum n now))):=by
 intro fu
 induction fu with
 | zero=>intro pz a sum n now ls _ _ _ hfu; exfalso; unfold zaz at hfu; omega
 | succ fu ih=>
 intro pz a sum n now ls hpl hat hpa hfu hnl hsu hno hcn hsz
 have hcb:=zcb hc
 have hsb:=zpG now a
 rw [← hsu] at hsb
 refine zo5 Tryz.func232 Y (by kernel_rfl) Y (fun gh hold=>?_)
 refine zn (zf (ql (cs:=[_]) Y (qU Y)) (zf (ql (cs:=[_]) Y (qU Y)) (zf (ql (cs:=[_]) Y (qU Y)) (zf (ql Y (zQ Y)) (zo (zt (zn (zf (zl Y Y Y ty3) ?_))))))))
 refine zf (qR Y Y Y) (zo (zA Y (fun h0=>?_) (fun h0=>?_)))
 ·have hp5:pz = 5:=by simp at h0; omega
  have hsr0:yc c l (fu + 1) pz a sum n now = if msgB c now then [now] else []:=by simp [yc, hp5]
  refine zt (zn (zf (zi Y Y jk) (zf (zK Y Y zbD (by exact zLb Y)) (zf (zX Y Y Y Y Y Y zcX) ?_))))
  refine zf (znr (av:=[.agg (eCod c), nums now]) Y ⟨AVle.refl _, ⟨now.map fun n=>[AV.v (.int .i64 n)], congrArg (fun z=>some (PO.row z)) (zhk now), by simp [hnl], Y⟩, trivial⟩ Y (f117 c now (by omega))) ?_
  refine zo (zA Y (fun h1=>?_) (fun h1=>?_))
  ·have hmb:msgB c now = true:=by simpa using h1
   have hsr:yc c l (fu + 1) pz a sum n now = [now]:=by rw [hsr0, if_pos hmb]
   refine zfD (fun _=>True) (fun k=>match k with | 0=>.rd [0] | 1=>.rd [2] | 2=>.rd [1] | 4=>.rw [] 4 | 5=>.rw [4] 0 | _=>.here) mixed (by kernel_rfl) rfl (by kernel_rfl) trivial ?_
   refine zsH [0] Y Y (fun m hm _=>zX Y Y ((hm.one 0 Y).trans Y) Y Y Y zei) ?_
   refine zsH [2] Y Y (fun m hm _=>zX Y Y ((hm.one 2 Y).trans Y) Y Y Y zcX) ?_
   refine zsH [1] Y Y (fun m hm _=>zpM (av:=[nums now]) Y ⟨⟨now.map fun n=>[AV.v (.int .i64 n)], (hm.one 1 Y).trans (congrArg (fun z=>some (PO.row z)) (zhk now)), by simp [hnl], Y⟩, trivial⟩ (n112 now (by omega))) ?_
   refine znG Y Y (qy (size:=1) (rows:=[[_]]) Y Tryz.underlying82 zt4 Y (by decide) Y (by decide) ⟨_, _, Y, (zjo Y), Y⟩ (by rfl) (by simp [ofV]) Y (by simp)) ?_
   refine zsW [] 4 Y Y (fun _=>trivial) (fun m hm=>zbg (ns:=[[EV.pub (nums now)]]) Y Y ((hm.one 4 Y).trans Y) (by simp [zdJ]) Y zt5 (znj ls) (by simp) (by simp; omega) (by unfold maxLen; simp; omega)) ?_
   refine zsW [4] 0 Y Y (fun _=>trivial) (fun m hm=>zd0 Y Y Y ((hm.one 0 Y).trans Y) Y Y (zc7 Y ((hm.one 4 Y).trans Y) (by simp [zdJ])) zei (by rfl) (by rfl)) ?_
   refine zfa (zk (zN (zP ?_)))
   exact zaE [] (zeX (by rw [hsr]; simp) Y (by rw [hsr]; simp [zdJ])) (zdc ..) (by exact Nat.le_refl _) (.inr Y) trivial ⟨[], Y, Y⟩
  ·have hmb:msgB c now = false:=by simpa using h1
   have hsr:yc c l (fu + 1) pz a sum n now = []:=by rw [hsr0, hmb]; rfl
   refine zH (zk (zN (zP ?_)))
   exact zaE [] (zcE Y (by rw [hsr]; simp)) (zdc ..) (by exact Nat.le_refl _) (.inr Y) trivial ⟨[], Y, Y⟩
 ·have hp5:¬ pz = 5:=by simp at h0; omega
  have hp4:pz < 5:=by omega
  have hcn3:0 <= n.1 /\ n.1 <= 1000 /\ 0 <= n.2.1 /\ n.2.1 <= 1000 /\ 0 <= n.2.2 /\ n.2.2 <= 1000:=by unfold zjT at hcn; omega
  refine zH (zk (zt (zn (zf (zl Y Y Y ty3) (zf (zl Y Y Y ty3) (zf (qR Y Y Y) (zo (zA Y (fun h2=>?_) (fun h2=>?_)))))))))
  ·have hak:a = c.fields.length:=by simp at h2; omega
   have hsr0:yc c l (fu + 1) pz a sum n now = if ve c l a pz (sum % 10) n then yc c l fu (pz + 1) 0 0 (plN l a pz (sum % 10) n) now else []:=by rw [yc, if_neg hp5, if_pos hak]
   have hfu2:zaz c.fields.length (pz + 1) 0 <= fu:=by
    have e:5 - pz = (5 - (pz + 1)) + 1:=by omega
    unfold zaz at hfu ⊢
    rw [e, Nat.add_mul] at hfu
    omega
   have hno2:zek (pz + 1) 0 now:=zkM hno (by omega)
   refine zt (zn (zf (zK Y Y kR (by exact zLb Y)) (zf (zK Y Y qZ (by exact zLb Y)) (zf (zl Y Y Y ty3) (zf (zl Y Y Y ty3) (zf (zl Y Y Y ty3) (zf (ku Y Y Y ⟨by omega, by omega⟩) (zf (zB (av:=[_, _, _, _, _]) Y ⟨Y, Y, Y, Y, Y, trivial⟩ (f137 c l n a pz (sum % 10) hc hl hcp hat hp4 (by omega) hcn3)) (zf (zI Y Y) (zf (zU Y Y Y) ?_))))))))))
   refine zf (zU Y Y Y) ?_
   refine qP  Y Y Y Y Y Y Y zjA qZ Y (by rfl) (zQ Y) Y ?_
   refine zf (zg Y Y) (zo (zn (zf (zh Y Y) (zo (zA Y (fun h3=>?_) (fun h3=>?_))))))
   ·have hpk:ve c l a pz (sum % 10) n = true:=by simpa using h3
    have hsr:yc c l (fu + 1) pz a sum n now = yc c l fu (pz + 1) 0 0 (plN l a pz (sum % 10) n) now:=by rw [hsr0, if_pos hpk]
    have hcn2:=zjB hc hpk hcn
    refine qY (zy (mem':=zd4 c l now ls) [(4, .pub (.ptr (vK c l))), (5, .pp 2 1 0 0), (6, .pp 0 1 0 0), (7, .pub (.ptr [ei (c.fields.length:Int)])), (8, .pp 3 1 0 0), (9, .pub (.ptr [ei (pz:Int)])), (10, .pub (.ptr [ei (a:Int)])), (11, .pub (.ptr [ei sum])), (12, .pub (.ptr (eCn n))), (13, .pub (.ptr (eCn (plN l a pz (sum % 10) n))))] ?_ ?_) ?_
    ·exact ⟨Y, Y, Y, Y, Y, Y, Y, Y, Y, (congrArg (fun z=>EV.pub (.ptr z)) (zoS hpk)), trivial⟩
    ·exact (Y)
    refine zx (zf (zX Y Y Y Y Y Y zl0) (zf (zl Y Y Y ty3) (zf (zW Y Y Y ⟨by omega, by omega⟩) (zf (zK Y Y qZ (by exact zLb Y)) ?_))))
    refine qL Y (zfW (f:=232) (fs:=[]) (cs:=zht c l) (av:=[I ((pz + 1:Nat):Int), I ((0:Nat):Int), I 0, .pub (.agg (eCn (plN l a pz (sum % 10) n)))]) Y Y ⟨Y, Y, Y⟩ ⟨Y, Y, Y, Y, trivial⟩ (ih (pz + 1) 0 0 (plN l a pz (sum % 10) n) now ls (by omega) (by omega) (fun _=>rfl) hfu2 hnl Y hno2 hcn2 (by rw [hsr] at hsz; exact hsz))) ?_
    refine zo (zN (zP ?_))
    exact zaE [] (zcE Y (by rw [hsr])) (zdc ..) (by exact Nat.le_refl _) (.inr Y) trivial ⟨[], Y, Y⟩
   ·have hpk:ve c l a pz (sum % 10) n = false:=by simpa using h3
    have hsr:yc c l (fu + 1) pz a sum n now = []:=by rw [hsr0, hpk]; rfl
    refine zH (zk (zN (zP ?_)))
    exact zaE [] (zcE Y (by rw [hsr]; simp)) (zdc ..) (by exact Nat.le_refl _) (.inr Y) trivial ⟨[], Y, Y⟩
  ·have hak:¬ a = c.fields.length:=by simp at h2; omega
   have hal:a < now.length:=by omega
   have hgd:now.getD a 0 = now[a]:=by simp [hal]
   have hnb:=zob hno hal hp4
   rw [← hgd] at hnb
   have hsr:yc c l (fu + 1) pz a sum n now = (zaU c l a pz n).flatMap fun (f:Nat)=>yc c l fu pz (a + 1) (sum + (f:Int)) (plN l a pz (f:Int) n) (now.set a (10 * now.getD a 0 + (f:Int))):=by rw [yc, if_neg hp5, if_neg hak]
   have hfu3:zaz c.fields.length pz (a + 1) <= fu:=by unfold zaz at hfu ⊢; omega
   refine zH (zk (zn (zf (zX Y Y Y Y Y Y zcX) (zf (zl Y Y Y ty3) ?_))))
   refine zf (jw Y Y Y Y (by rw [xq, hnl]) yR (by omega) (by omega) (zeb _)) ?_
   refine zf (zX (c:=I (now.getD a 0)) Y Y Y (by rw [xq, hnl]) (zej (by omega)) Y ty3) ?_
   refine qP (cs:=[_]) Y Y Y Y Y Y Y zv3 ty3 Y (by rfl) (qU Y) Y ?_
   refine zo (zt (zn (zf (zK Y Y kR (by exact zLb Y)) (zf (zK Y Y qZ (by exact zLb Y)) (zf (zl Y Y Y ty3) (zf (zl Y Y Y ty3) (zf (zB (av:=[_, _, _, _]) Y ⟨Y, Y, Y, Y, trivial⟩ (f138 c l n (a:Int) (pz:Int))) (zo ?_))))))))
   refine zF ?_
   refine zgG (zaU c l a pz n) (fun (f:Nat)=>[ei (f:Int), .agg (eCn (plN l a pz (f:Int) n))]) [4, 5, 6, 7, 8, 9, 10, 11, 12, 15] (fun j=>True) (fun j=>(zd4 c l (zgx now a (zaU c l a pz n) j) (lsJ c l fu pz a sum n now ls j))) (trivial) Y (zsR c l n a pz hc hl hcp hat hp4 hcn3) (zcE Y lsJ_0.symm) (fun _=>rfl) Y Y ?_ ?_
   ·intro j f gh lp hd1 hd2 hq hV
    have hf:=hq
    have hfm:=zjr.1 (List.mem_of_getElem? hf)
    have hfb:0 <= (f:Int) /\ (f:Int) <= 9:=by omega
    have hcn4:=zjB hc hfm.2 hcn
    have hno3:=zkT hno hal hfb
    rw [← hgd] at hno3
    have hls:=zrR (c:=c) (l:=l) (fu:=fu) (pz:=pz) (a:=a) (sum:=sum) (n:=n) (now:=now) (ls:=ls) (j + 1)
    rw [ziP hf, ← hsr] at hls
    simp only[List.length_append] at hls
    have hsz3:=Nat.le_trans hls hsz
    have hsu3:sum + (f:Int) = zb7 (now.set a (10 * now.getD a 0 + (f:Int))) (a + 1):=by
     rw [zhw (by simpa using hal), zja, ← hsu]; simp; omega
    refine zn (zf (zg Y Y) (zo (zx ?_)))
    refine qP  Y Y Y Y Y Y Y zjA qZ Y (by rfl) (zQ Y) Y ?_
    refine zM ?_
    refine ⟨Y, Y, ?_⟩
    refine zF (zn (zf (zX Y Y Y Y Y Y zcX) (zf (zl Y Y Y ty3) (zf (zl Y Y Y ty3) (zf (ya Y Y Y ⟨by omega, by omega⟩) (zf (zh Y Y) (zf (zW Y Y Y ⟨by omega, by omega⟩) ?_)))))))
    refine zf (jw Y Y Y Y (by rw [xq, zaH, hnl]) yR (by omega) (by omega) (zeb _)) ?_
    refine qL Y (qw (r:=[I ((zgx now a (zaU c l a pz n) j).getD a 0)]) Y Y Y Y (by rw [xq, zaH, hnl]) (zej (by rw [zaH]; omega)) (qU Y) ty3 (by rfl) (by exact zLb Y)) ?_
    refine zo ?_
    refine qY (zy (mem':=zd4 c l (now.set a (10 * now.getD a 0 + (f:Int))) (lsJ c l fu pz a sum n now ls j)) [(4, .pub (.ptr (vK c l))), (5, .pp 2 1 0 0), (6, .pp 0 1 0 0), (7, .pub (.ptr [ei (c.fields.length:Int)])), (8, .pp 3 1 0 0), (9, .pub (.ptr [ei (pz:Int)])), (10, .pub (.ptr [ei (a:Int)])), (11, .pub (.ptr [ei sum])), (12, .pub (.ptr (eCn n))), (15, .pub (.ptr [ei (now.getD a 0)])), (16, I (f:Int)), (17, .pub (.ptr (eCn (plN l a pz (f:Int) n))))] ?_ ?_) ?_
    ·exact ⟨Y, Y, Y, Y, Y, Y, Y, Y, Y, Y, Y, Y, trivial⟩
    ·exact (zeX Y ((zg6 _ _ _ _).trans (congrArg kE (zjS _ _))) Y)
    refine zx (zf (zX Y Y Y Y Y Y zl0) (zf (zl Y Y Y ty3) (zf (zl Y Y Y ty3) (zf (zW Y Y Y ⟨by omega, by omega⟩) (zf (zl Y Y Y ty3) (zf (zh Y Y) (zf (zW Y Y Y ⟨by omega, by omega⟩) (zf (zK Y Y qZ (by exact zLb Y)) ?_))))))))
    refine qL Y (zfW (f:=232) (fs:=[]) (cs:=zht c l) (av:=[I (pz:Int), I ((a + 1:Nat):Int), I (sum + (f:Int)), .pub (.agg (eCn (plN l a pz (f:Int) n)))]) Y Y ⟨Y, Y, Y⟩ ⟨Y, Y, Y, Y, trivial⟩ (ih pz (a + 1) (sum + (f:Int)) (plN l a pz (f:Int) n) (now.set a (10 * now.getD a 0 + (f:Int))) (lsJ c l fu pz a sum n now ls j) hpl (by omega) (fun h=>absurd h hp5) hfu3 (by simp [hnl]) hsu3 hno3 hcn4 hsz3)) ?_
    refine zM (zJ ?_)
    exact ⟨Y, trivial, zy (mem':=(zd4 c l (zgx now a (zaU c l a pz n) (j + 1)) (lsJ c l fu pz a sum n now ls (j + 1)))) [] trivial (zcE (zmu hf).symm (ziP hf).symm)⟩
   ·intro hVn
    refine zJ (zk (zx (zf (zX Y Y Y Y Y Y zcX) (zf (zl Y Y Y ty3) (zf (zl Y Y Y ty3) ?_)))))
    refine zf (jw Y Y Y Y (by rw [xq, zaH, hnl]) yR (by omega) (by omega) (zeb _)) ?_
    refine qL Y (qw (r:=[I ((zgx now a (zaU c l a pz n) (zaU c l a pz n).length).getD a 0)]) Y Y Y Y (by rw [xq, zaH, hnl]) (zej (by rw [zaH]; omega)) (qU Y) ty3 (by rfl) (by exact zLb Y)) ?_
    refine zM ?_
    exact zaE [] (zeX (by rw [hsr, zlA Y]) ((zg6 _ _ _ _).trans (congrArg kE ((zjS _ _).trans (zgu now a)))) (by rw [hsr, zlA Y])) (zdc ..) (by exact Nat.le_refl _) (.inl Y) trivial ⟨[], Y, Y⟩
end Wr
end Go.Av
end
