import Derived.Test.YtgmbdadkbominaaGreatDoorChK
import Derived.Test.YtgmbdadkbominaaGreatDoorPlatX
import Derived.Test.YtgmbdadkbominaaGreatDoorWiF
set_option linter.unusedVariables false
set_option linter.unusedSimpArgs false
section
namespace Go.Av
namespace Tp
open Go.Proofs
set_option maxRecDepth 100000
set_option maxHeartbeats 1000000
variable {G:Glob}
theorem zzj:tyIs Tryz.prog 351 false 1 = true:=by kernel_rfl
theorem zwb:elemIs Tryz.prog 82 24 1 24:=⟨Tryz.underlying82, Tryz.t24, _, by kernel_rfl, rfl, rfl, rfl, rfl, by decide⟩
theorem zvl:(Tryz.prog.info? 199).bind (·.zero) = some (.agg #[.slice none 0 0, .int .i64 0, .int .i64 0, .int .i64 0, .int .i64 0, .slice none 0 0]):=by kernel_rfl
theorem zvg:Tryz.prog.info? 24 = some Tryz.t24:=by kernel_rfl
theorem zuw:tyIs Tryz.prog 108 true 2 = true:=by kernel_rfl
theorem zuC:kw Tryz.prog 352 1 = true:=by kernel_rfl
theorem zuG:tyIs Tryz.prog 352 false 1 = true:=by kernel_rfl
theorem zuL:tyIs Tryz.prog 353 false 1 = true:=by kernel_rfl
theorem zu8:tyIs Tryz.prog 354 false 1 = true:=by kernel_rfl
theorem zvp:fldIs Tryz.prog 99 4 4 = true:=by kernel_rfl
theorem zvo:fldIs Tryz.prog 99 3 3 = true:=by kernel_rfl
def bx0:Bx:=⟨0, 0, 0, 0, 0, 0⟩
def zwh (L:List Sp) (r q:Int) (k i:Nat):Bx:=if i < k then frB L r q i else bx0
def cl (g:Nat -> Bx):Nat -> List PO
 | 0=>[]
 | n + 1=>cl g n ++ [.row [[I (lk n)]], .row [(eBx (g n)).map .pub]]
def sR (n:Nat):List (List EV):=(List.range n).map fun i=>[.psl (2 * i + 4) 1]
def cR (n:Nat):List (List EV):=(List.range n).map fun i=>[.psl (2 * i + 5) 1]
def Yv (l:Nat):AV:=.v (.func (.yield l) #[] #[])
def zve (L:List Sp) (r q:Int) (l:Nat):List EV:=[.pub (.ptr (eSu L r q)), .pp 1 1 0 0, .pub (.ptr [Yv l]), .pp (2 * L.length + 4) 1 0 0, .pp 3 1 0 0]
def fnE (L:List Sp) (r q:Int) (l:Nat):EV:=.fnm 247 [] (zve L r q l)
def suE (L:List Sp) (r q:Int) (x:EV):List EV:=[.pub (.sl (L.map eLm)), I r, I q, I 0, I 0, x]
def MM (L:List Sp) (r q:Int) (l k:Nat) (T:List PO):List PO:=
 .row (sR L.length) :: .row [suE L r q (.psl 0 L.length)] :: .row (cR L.length) :: .row [[.psl 2 L.length]] :: (cl (zwh L r q k) L.length ++ (.row [[fnE L r q l]] :: T))
theorem zuK (g:Nat -> Bx):∀ n, (cl g n).length = 2 * n
 | 0=>rfl
 | n + 1=>by simp only[cl, List.length_append, zuK g n, List.length_cons, List.length_nil]; omega
theorem zwM (g:Nat -> Bx):∀ {n i:Nat}, i < n -> (cl g n)[2 * i]? = some (.row [[I (lk i)]])
 | n + 1, i, h=>by
  simp only[cl]
  rw [List.getElem?_append, zuK]
  by_cases hi:i < n
  ·rw [if_pos (by omega)]; exact zwM g hi
  ·obtain rfl:i = n:=by omega
   rw [if_neg (by omega), show 2 * i - 2 * i = 0 by omega]; rfl
theorem zxg (g:Nat -> Bx):∀ {n i:Nat}, i < n -> (cl g n)[2 * i + 1]? = some (.row [(eBx (g i)).map .pub])
 | n + 1, i, h=>by
  simp only[cl]
  rw [List.getElem?_append, zuK]
  by_cases hi:i < n
  ·rw [if_pos (by omega)]; exact zxg g hi
  ·obtain rfl:i = n:=by omega
   rw [if_neg (by omega), show 2 * i + 1 - 2 * i = 1 by omega]; rfl
theorem zwD {g g':Nat -> Bx}:∀ {n:Nat}, (∀ i, i < n -> g i = g' i) -> cl g n = cl g' n
 | 0, _=>rfl
 | n + 1, h=>by simp only[cl]; rw [zwD fun i hi=>h i (by omega), h n (by omega)]
theorem zxi (g:Nat -> Bx) (b:Bx):∀ {n i:Nat}, i < n -> (cl g n).set (2 * i + 1) (.row [(eBx b).map .pub]) = cl (fun j=>if j = i then b else g j) n
 | n + 1, i, h=>by
  simp only[cl]
  by_cases hi:i < n
  ·rw [List.set_append_left _ _ (by rw [zuK]; omega), zxi g b hi, if_neg (by omega)]
  ·obtain rfl:i = n:=by omega
   rw [List.set_append_right _ _ (by rw [zuK]; omega), zuK, show 2 * i + 1 - 2 * i = 1 by omega, if_pos rfl]
   congr 1
   exact zwD fun j hj=>by rw [if_neg (by omega)]
theorem zxS {α:Type} {l:List α} {i:Nat} {x:α} (h:l[i]? = some x):l.set i x = l:=by
 obtain ⟨h1, h2⟩:=zLg h
 subst h2
 exact List.set_getElem_self h1
section
variable {L:List Sp} {r q:Int} {l k:Nat} {T:List PO}
theorem zwd:(MM L r q l k T).length = 2 * L.length + 5 + T.length:=by simp [MM, zuK]; omega
theorem zv5 (i:Nat):(MM L r q l k T)[i + 4]? = (cl (zwh L r q k) L.length ++ (.row [[fnE L r q l]] :: T))[i]?:=rfl
theorem zu6 {i:Nat} (h:i < L.length):(MM L r q l k T)[2 * i + 4]? = some (.row [[I (lk i)]]):=by
 rw [zv5, List.getElem?_append_left (by rw [zuK]; omega), zwM _ h]
theorem zvT {i:Nat} (h:i < L.length):(MM L r q l k T)[2 * i + 5]? = some (.row [(eBx (zwh L r q k i)).map .pub]):=by
 rw [show 2 * i + 5 = (2 * i + 1) + 4 by omega, zv5, List.getElem?_append_left (by rw [zuK]; omega), zxg _ h]
theorem zyf:(MM L r q l k T)[2 * L.length + 4]? = some (.row [[fnE L r q l]]):=by
 rw [zv5, List.getElem?_append_right (by rw [zuK]; omega), zuK, Nat.sub_self]; rfl
theorem zv2 (X:List PO):MM L r q l k T ++ X = MM L r q l k (T ++ X):=by simp [MM]
theorem zyF:(fun j=>if j = k then frB L r q k else zwh L r q k j) = zwh L r q (k + 1):=by
 funext j
 unfold zwh
 by_cases h:j = k
 ·subst h; rw [if_pos rfl, if_pos (by omega)]
 ·rw [if_neg h]
  by_cases h2:j < k
  ·rw [if_pos h2, if_pos (by omega)]
  ·rw [if_neg h2, if_neg (by omega)]
theorem zxW (h:k < L.length):(MM L r q l k T).set (2 * k + 5) (.row [(eBx (frB L r q k)).map .pub]) = MM L r q l (k + 1) T:=by
 show _ :: _ :: _ :: _ :: List.set _ (2 * k + 1) _ = _
 rw [List.set_append_left _ _ (by rw [zuK]; omega), zxi _ _ h, zyF]; rfl
theorem zxZ (h:k < L.length) (v:Int) (hv:v = lk k):(MM L r q l k T).set (2 * k + 4) (.row [[I v]]) = MM L r q l k T:=by
 subst hv; exact zxS (zu6 h)
theorem zwQ {n i:Nat} {j:Int} (h:i < n) (hj:j = (i:Int)):(sR n)[j.toNat]? = some [.psl (2 * i + 4) 1]:=by subst hj; simp [sR, h]
theorem zyr {n i:Nat} {j:Int} (h:i < n) (hj:j = (i:Int)):(cR n)[j.toNat]? = some [.psl (2 * i + 5) 1]:=by subst hj; simp [cR, h]
theorem zvR (n:Nat):(sR n).length = n:=by simp [sR]
theorem zxP (n:Nat):(cR n).length = n:=by simp [cR]
theorem zvY {n:Nat}:∀ q ∈ sR n, q.length = 1:=fun q hq=>by obtain ⟨t, _, rfl⟩:=List.mem_map.1 hq; rfl
theorem zxm {n:Nat}:∀ q ∈ cR n, q.length = 1:=fun q hq=>by obtain ⟨t, _, rfl⟩:=List.mem_map.1 hq; rfl
theorem zuy {α:Type} {A:List α} {x:α} {B:List α}:(A ++ x :: B)[A.length]? = some x:=by simp
theorem zuR {α:Type} {A:List α} {x y:α} {B:List α}:(A ++ x :: B).set A.length y = A ++ y :: B:=by simp
theorem get_end1 {α:Type} {A:List α} {x y:α} {B:List α}:(A ++ x :: y :: B)[A.length + 1]? = some y:=by
 rw [List.getElem?_append_right (by omega), show A.length + 1 - A.length = 1 by omega]; rfl
theorem zuU {α:Type} {A:List α} {x y z:α} {B:List α}:(A ++ x :: y :: B).set (A.length + 1) z = A ++ x :: z :: B:=by
 rw [List.set_append_right _ _ (by omega), show A.length + 1 - A.length = 1 by omega]; rfl
end
section
variable {L:List Sp} {r q:Int} {l k:Nat} {T:List PO}
def outR (n j:Nat):List (List EV):=((zuu (lkL n)).take j).map (·.map .pub)
theorem zw8 {n j:Nat} (h:j <= n):(outR n j).length = j:=by simp [outR, zu0, zu1]; omega
theorem zxB {n j:Nat}:∀ q ∈ outR n j, q.length = 1:=fun q hq=>by
 obtain ⟨t, ht, rfl⟩:=List.mem_map.1 hq
 rw [List.length_map]; exact zus t (List.mem_of_mem_take ht)
theorem zxQ {n j:Nat} (h:j < n):outR n j ++ [[.pub (nums [lk j])]] = outR n (j + 1):=by
 unfold outR
 rw [List.take_succ_eq_append_getElem (by rw [zu0, zu1]; exact h), List.map_append]
 congr 1
 have:=zuM (xs:=lkL n) (i:=j) (k:=(j:Int)) (by rw [zu1]; exact h) rfl
 rw [Int.toNat_natCast, List.getElem?_eq_getElem (by rw [zu0, zu1]; exact h), zxe h] at this
 injection this with this
 rw [List.map_singleton, this]; rfl
theorem zxw {n:Nat}:outR n n = (zuu (lkL n)).map (·.map .pub):=by
 unfold outR; rw [List.take_of_length_le (by rw [zu0, zu1]; exact Nat.le_refl _)]
theorem zzt (n:Nat):Nat.beq n (n + 1) = false:=by
 cases h:Nat.beq n (n + 1) with
 | false=>rfl
 | true=>have:=Nat.eq_of_beq_eq_true h; omega
theorem zzx {A:List PO} {x:List EV} {y:PO}:∃ rows, (A ++ [PO.row [x], y])[A.length]? = some (.row rows) /\ rows.length = 1:=⟨_, zuy, rfl⟩
theorem zzu {A:List PO} {x:List EV} {y z:PO}:∃ rows, ((A ++ [PO.row [x], y]).set (A.length + 1) z)[A.length]? = some (.row rows) /\ rows.length = 1:=⟨_, (by rw [zuU]; exact zuy), rfl⟩
theorem zzc {A:List PO} {x w:List EV} {y z:PO}:∃ rows, (((A ++ [PO.row [x], y]).set (A.length + 1) z).set A.length (.row [w]))[A.length]? = some (.row rows) /\ rows.length = 1:=⟨_, (by rw [zuU, zuR]; exact zuy), rfl⟩
theorem zwK {A:List PO} {z c:List EV}:(A ++ [PO.row [z]]).set A.length (.row [c]) = A ++ [.row [c]]:=by rw [zuR]
theorem zxE {A:List PO}:(A ++ [PO.row [suE L r q (.pub (.v (.slice none 0 0)))]]).set A.length (.row [suE L r q (.psl (A ++ [PO.row [suE L r q (.pub (.v (.slice none 0 0)))]]).length 0)]) ++ [.row []] = A ++ [.row [suE L r q (.psl (A.length + 1) 0)], .row (outR L.length 0)]:=by
 rw [zuR]; simp [outR]
theorem zyN {A:List PO} {j:Nat} (h:j < L.length) {x:EV}:((A ++ [PO.row [suE L r q x], .row (outR L.length j)]).set (A.length + 1) (.row (outR L.length j ++ [[.pub (nums [lk j])]]))).set A.length (.row [suE L r q (.psl (A.length + 1) (j + 1))]) = A ++ [.row [suE L r q (.psl (A.length + 1) (j + 1))], .row (outR L.length (j + 1))]:=by
 rw [zuU, zuR, zxQ h]
theorem zxV {A:List PO}:((A ++ [PO.row [suE L r q (.psl (A.length + 1) L.length)], .row (outR L.length L.length)]).set (A.length + 1) .dead).set A.length (.row [suE L r q (.pub (sV L.length))]) = A ++ [.row [(eLk L r q (sV L.length)).map .pub], .dead]:=by
 rw [zuU, zuR]; rfl
end
theorem zy8 {L:List Sp} {r q:Int} (hs:SuB L r q) {C:Cx Tryz.prog G} (hq:C.qs[0]? = some [.agg (eLk L r q (sV L.length))]) (T:List PO) (k:Int) (hk:k = (L.length:Int)):zvk C 247 ([I k, I 0, I 0, I 0] ++ zve L r q C.l) (MM L r q C.l L.length T) 0:=by
 have h4:=hs.n4
 have hn1:=hs.n1
 refine zvE Tryz.func247 Y (by kernel_rfl) Y (fun gh=>?_)
 refine jU ?_
 refine yf ?_
 refine zx ?_
 refine zf (zg Y Y) ?_
 refine zM ?_
 refine qE ?_
 refine jU ?_
 refine jU ?_
 refine yf ?_
 refine zx ?_
 refine zf (zh Y Y) ?_
 refine zf (zi Y Y zdQ) ?_
 refine zf (zl Y Y Y zuq) ?_
 refine zf (qA Y Y Y Tryz.underlying97) ?_
 refine zf (qR Y Y Y) ?_
 refine zM ?_
 refine qE ?_
 refine vW Y (fun h0=>?_) (fun h0=>?_)
 ·skip
  refine jU ?_
  refine yf ?_
  refine zx ?_
  refine zf (za9 Y Y Y Y Y (by exact zLb Y) Y zup) ?_
  refine qL Y (jr Y Y zvl Y Y) ?_
  refine qL Y (qw Y Y Y zuy Y Y (zkj Y) zup (by rfl) (by exact zLb Y)) ?_
  refine zM ?_
  refine qE ?_
  refine jU ?_
  refine yf ?_
  refine qY (zy (mem':=(MM L r q C.l L.length T) ++ [.row [suE L r q (.psl 0 L.length)]]) [(4, .pub (.ptr (eSu L r q))), (5, .pp 1 1 0 0), (6, .pub (.ptr [Yv C.l])), (7, .pp (2 * L.length + 4) 1 0 0), (8, .pp 3 1 0 0), (13, B false), (14, .pp (MM L r q C.l L.length T).length 1 0 0)] ?_ ?_) ?_
  ·exact ⟨Y, Y, Y, Y, Y, Y, Y, trivial⟩
  ·exact zwK
  refine zx ?_
  refine zf (jJ Y Y zuy Y wF) ?_
  refine qL Y (qw Y Y Y zuy Y Y (qU Y) zum (by rfl) (by exact zLb Y)) ?_
  refine zM ?_
  refine qE ?_
  refine jU ?_
  refine jU ?_
  refine yf ?_
  refine qY (zy (mem':=(MM L r q C.l L.length T) ++ [.row [suE L r q (.pub (.v (.slice none 0 0)))]]) [(4, .pub (.ptr (eSu L r q))), (5, .pp 1 1 0 0), (6, .pub (.ptr [Yv C.l])), (7, .pp (2 * L.length + 4) 1 0 0), (8, .pp 3 1 0 0), (13, B false), (14, .pp (MM L r q C.l L.length T).length 1 0 0)] ?_ ?_) ?_
  ·exact ⟨Y, Y, Y, Y, Y, Y, Y, trivial⟩
  ·exact zwK
  refine qY (zgZ (k:=(MM L r q C.l L.length T).length) (i:=0) (j:=5) zuy Y Y) ?_
  refine qY (zy (mem':=(MM L r q C.l L.length T) ++ [.row [suE L r q (.psl ((MM L r q C.l L.length T).length + 1) 0)], .row (outR L.length 0)]) [(4, .pub (.ptr (eSu L r q))), (5, .pp 1 1 0 0), (6, .pub (.ptr [Yv C.l])), (7, .pp (2 * L.length + 4) 1 0 0), (8, .pp 3 1 0 0), (13, B false), (14, .pp (MM L r q C.l L.length T).length 1 0 0)] ?_ ?_) ?_
  ·exact ⟨Y, Y, Y, Y, Y, Y, Y, trivial⟩
  ·exact zxE
  refine zx ?_
  refine zf (jJ Y Y Y Y wF) ?_
  refine zf (zX Y Y Y Y Y Y zum) ?_
  refine zf (zwU Y Y Y (zvR _) Tryz.underlying82) ?_
  refine zf (zh Y Y) ?_
  refine zM ?_
  refine qE ?_
  refine yf ?_
  refine zF ?_
  refine qm (ι:={ j:Nat // j <= L.length }) (fun j=>⟨⟨Tryz.f247.ntmps, [], ghP gh, false, []⟩, frL [(4, .pub (.ptr (eSu L r q))), (5, .pp 1 1 0 0), (6, .pub (.ptr [Yv C.l])), (7, .pp (2 * L.length + 4) 1 0 0), (8, .pp 3 1 0 0), (13, B false), (14, .pp (MM L r q C.l L.length T).length 1 0 0), (29, .psl 0 L.length), (30, I (L.length:Int)), (31, I (j.1:Int))], (MM L r q C.l L.length T) ++ [.row [suE L r q (.psl ((MM L r q C.l L.length T).length + 1) j.1)], .row (outR L.length j.1)]⟩) (fun j=>L.length - j.1) (⟨0, by omega⟩) ?_ ?_
  ·exact zy _ ⟨Y, Y, Y, Y, Y, Y, Y, Y, Y, Y, trivial⟩ (Y)
  ·rintro ⟨j, hj⟩
   dsimp only
   refine zn ?_
   refine zf (qx Y Y Y) ?_
   refine zo (zt (zA Y (fun h1=>?_) (fun h1=>?_)))
   ·skip
    have hlt:j < L.length:=by have:=h1; simp at this; omega
    refine zH (zk (zt (zF (zn ?_))))
    refine zf (jw Y Y Y Y (zvR _) zla (by omega) (by omega) zvY) ?_
    refine zf (zX Y Y Y (zvR _) (zwQ hlt Y) Y kN) ?_
    refine zf (jm Y Y) ?_
    refine zo ?_
    refine zfD (fun mm=>∃ rows, mm[(MM L r q C.l L.length T).length]? = some (.row rows) /\ rows.length = 1) (fun k=>match k with | 0=>.stable | 2=>.stable | 5=>.writes | 6=>.stable | 7=>.writes | _=>.here) mixed (by kernel_rfl) rfl (by kernel_rfl) (zzx) ?_
    refine jv Y Y (fun m hm=>jJ Y Y hm.choose_spec.1 hm.choose_spec.2 wF) ?_
    refine znG Y Y (zX Y Y zuy Y Y Y zum) ?_
    refine jv Y Y (fun m hm=>jq Y Y) ?_
    refine znG Y Y (zpM (av:=[nums [lk j]]) Y ⟨⟨[[Ct.ei (lk j)]], (by rw [zv2]; exact zu6 hlt), Y, Y⟩, trivial⟩ (Wr.n112 [lk j] (by simp))) ?_
    refine znG Y Y (qy (size:=1) (rows:=[[_]]) Y Tryz.underlying82 zvg Y (by decide) Y (by decide) ⟨_, _, Y, (zjo Y), Y⟩ (by rfl) (by simp [ofV]) Y (by simp)) ?_
    refine zpt Y Y (zbg Y Y get_end1 (zw8 (by omega)) Y zwb zxB (fun r hr=>by simp at hr; subst hr; rfl) (by simp; omega) (by unfold maxLen; simp; omega)) (zzu) ?_
    refine jv Y Y (fun m hm=>jJ Y Y hm.choose_spec.1 hm.choose_spec.2 wF) ?_
    refine zpt Y Y (zd0 Y Y Y (by rw [zuU]; exact zuy) Y Y (zc7 Y (by rw [zuU]; exact get_end1) (by simp [zw8 (show j <= L.length by omega)])) zum (by rfl) (by rfl)) (zzc) ?_
    refine zfa (zJ (zk (zx ?_)))
    refine zf (zW Y Y Y ⟨by omega, by omega⟩) ?_
    refine zf (zh Y Y) ?_
    refine zM ?_
    exact ⟨⟨j + 1, by omega⟩, by dsimp only; omega, zy _ ⟨Y, Y, Y, Y, Y, Y, Y, Y, Y, Y, trivial⟩ ((zyN hlt))⟩
   ·skip
    have hge:j = L.length:=by have:=h1; simp at this; omega
    refine qg (zS (zS (qh ?_)))
    refine qE ?_
    refine jU ?_
    refine zaj (zy (mem':=(MM L r q C.l L.length T) ++ [.row [suE L r q (.psl ((MM L r q C.l L.length T).length + 1) L.length)], .row (outR L.length L.length)]) [(4, .pub (.ptr (eSu L r q))), (5, .pp 1 1 0 0), (6, .pub (.ptr [Yv C.l])), (7, .pp (2 * L.length + 4) 1 0 0), (8, .pp 3 1 0 0), (13, B false), (14, .pp (MM L r q C.l L.length T).length 1 0 0)] ?_ ?_) ?_
    ·exact ⟨Y, Y, Y, Y, Y, Y, Y, trivial⟩
    ·exact (by rw [hge])
    refine zaj (zmE (k:=(MM L r q C.l L.length T).length + 1) (c:=(MM L r q C.l L.length T).length) (i:=0) (j:=5) (rows:=zuu (lkL L.length)) (get_end1.trans (by rw [zxw])) (by rw [zu0, zu1]) zuy Y Y (zzt _)) ?_
    refine zaj (zy (mem':=(MM L r q C.l L.length T) ++ [.row [(eLk L r q (sV L.length)).map .pub], .dead]) [(4, .pub (.ptr (eSu L r q))), (5, .pp 1 1 0 0), (6, .pub (.ptr [Yv C.l])), (7, .pp (2 * L.length + 4) 1 0 0), (8, .pp 3 1 0 0), (13, B false), (14, .pp (MM L r q C.l L.length T).length 1 0 0)] ?_ ?_) ?_
    ·exact ⟨Y, Y, Y, Y, Y, Y, Y, trivial⟩
    ·exact zxV
    refine yT ?_
    refine vX Y Y (zl Y Y Y zzj) ?_
    refine vX Y Y (qV (cs:=eLk L r q (sV L.length)) Y Y zuy Y Y (by exact zLb Y) Y zup) ?_
    refine zw0 (q:=[.agg (eLk L r q (sV L.length))]) Y Y Y Y Y hq ?_ ?_
    ·skip
     refine vX Y Y (zg Y Y) ?_
     refine zas ?_
     refine qE ?_
     refine zhR ?_
     refine zc1 ?_
     exact ⟨.inr Y, _, _, true, Y, AVle.refl _, Y⟩
    ·skip
     refine vX Y Y (zg Y Y) ?_
     refine zas ?_
     refine qE ?_
     refine zhR ?_
     refine zc1 ?_
     exact ⟨.inr Y, _, _, false, Y, AVle.refl _, Y⟩
 ·skip
  exfalso; simp at h0; omega
theorem zyZ {L:List Sp} {r q:Int} (hs:SuB L r q) {C:Cx Tryz.prog G} (T:List PO) (u:Nat) (hk0:1 <= u) (hkn:u < L.length) (hi:zvk C 247 ([I ((u:Int) + 1), I 0, I 0, I 0] ++ zve L r q C.l) (MM L r q C.l (u + 1) T) 0):zvk C 247 ([I (u:Int), I 1, I 0, I 0] ++ zve L r q C.l) (MM L r q C.l (u + 1) T) 0:=by
 have h4:=hs.n4
 have hn1:=hs.n1
 refine zvE Tryz.func247 Y (by kernel_rfl) Y (fun gh=>?_)
 refine jU ?_
 refine yf ?_
 refine zx ?_
 refine zf (zg Y Y) ?_
 refine zM ?_
 refine qE ?_
 refine jU ?_
 refine jU ?_
 refine yf ?_
 refine zx ?_
 refine zf (zh Y Y) ?_
 refine zf (zi Y Y zdQ) ?_
 refine zf (zl Y Y Y zuq) ?_
 refine zf (qA Y Y Y Tryz.underlying97) ?_
 refine zf (qR Y Y Y) ?_
 refine zM ?_
 refine qE ?_
 refine vW Y (fun h0=>?_) (fun h0=>?_)
 ·skip
  exfalso; simp at h0; omega
 ·skip
  refine y5 ?_
  refine qE ?_
  refine jU ?_
  refine jU ?_
  refine yf ?_
  refine zx ?_
  refine zf (zh Y Y) ?_
  refine zf (zi Y Y zdQ) ?_
  refine zf (zl Y Y Y zuq) ?_
  refine zf (zh Y Y) ?_
  refine zf (zD Y Y Y zur (by omega) (zvb hkn Y) zun) ?_
  refine zf (zi Y Y zG) ?_
  refine zf (zl Y Y Y zuo) ?_
  refine zf (qA Y Y Y Tryz.underlying106) ?_
  refine zf (qR Y Y Y) ?_
  refine zM ?_
  refine qE ?_
  refine vW Y (fun h2=>?_) (fun h2=>?_)
  ·skip
   refine jU ?_
   refine jU ?_
   refine yf ?_
   refine zx ?_
   refine zf (zi Y Y zdQ) ?_
   refine zf (zl Y Y Y zuq) ?_
   refine zf (zh Y Y) ?_
   refine zf (vN Y Y Y ⟨by omega, by omega⟩) ?_
   refine zf (zD Y Y Y zur (by omega) (zvb (show u - 1 < L.length by omega) (by omega)) zun) ?_
   refine zf (zi Y Y zG) ?_
   refine zf (zl Y Y Y zuo) ?_
   refine zf (qA Y Y Y Tryz.underlying106) ?_
   refine zf (zh Y Y) ?_
   refine zM ?_
   refine qE ?_
   refine yf ?_
   refine zF ?_
   refine qm (ι:={ k:Nat // k < 2 }) (fun k=>match k.1 with | 0=>⟨⟨Tryz.f247.ntmps, [], ghP gh, false, []⟩, frL [(0, I (u:Int)), (2, I 0), (3, I 0), (4, .pub (.ptr (eSu L r q))), (5, .pp 1 1 0 0), (6, .pub (.ptr [Yv C.l])), (7, .pp (2 * L.length + 4) 1 0 0), (8, .pp 3 1 0 0), (13, B false), (62, I 1), (63, I 0)], (MM L r q C.l (u + 1) T)⟩ | _=>⟨⟨Tryz.f247.ntmps, [], ghP gh, false, []⟩, frL [(0, I (u:Int)), (2, I 0), (3, I 0), (4, .pub (.ptr (eSu L r q))), (5, .pp 1 1 0 0), (6, .pub (.ptr [Yv C.l])), (7, .pp (2 * L.length + 4) 1 0 0), (8, .pp 3 1 0 0), (13, B false), (62, I 1), (63, I 1)], (MM L r q C.l (u + 1) T)⟩) (fun k=>2 - k.1) (⟨0, by omega⟩) ?_ ?_
   ·exact zy _ ⟨Y, Y, Y, Y, Y, Y, Y, Y, Y, Y, Y, trivial⟩ (Y)
   ·rintro ⟨k, hk⟩
    have hk3:k = 0 ∨ k = 1:=by omega
    rcases hk3 with rfl | rfl
    ·dsimp only
     refine zn ?_
     refine zf (qx Y Y Y) ?_
     refine zo (zt (zA Y (fun h3=>?_) (fun h3=>?_)))
     ·skip
      refine zH (zk (zt (zF (zn ?_))))
      refine zf (zh Y Y) ?_
      refine zf (zg Y Y) ?_
      refine zo (zn ?_)
      refine zf (jJ Y Y Y Y wF) ?_
      refine zf (zX Y Y Y Y Y Y zum) ?_
      refine zf (zh Y Y) ?_
      refine zf (jw Y Y Y Y (zvR _) zla (by omega) (by omega) zvY) ?_
      refine zf (zX Y Y Y (zvR _) (zwQ hkn Y) Y kN) ?_
      refine zf (zh Y Y) ?_
      refine zf (znr (av:=[.sl [[Ct.ei (lk u)]], Ct.ei 0]) Y ⟨⟨[[Ct.ei (lk u)]], zu6 hkn, Y, Y⟩, AVle.refl _, trivial⟩ Y (f102 (lk u) 0)) ?_
      refine zf (qJ Y Y) ?_
      refine zo (zA Y (fun h4=>?_) (fun h4=>?_))
      ·skip
       exfalso; simp [zu9 (show 0 < u by omega)] at h4
      ·skip
       refine zH (zJ (zk (zx ?_)))
       refine zf (zW Y Y Y ⟨by omega, by omega⟩) ?_
       refine zf (zh Y Y) ?_
       refine zM ?_
       exact ⟨⟨1, by omega⟩, by dsimp only; omega, (by refine zy (mem':=(MM L r q C.l (u + 1) T)) [(0, I (u:Int)), (2, I 0), (3, I 0), (4, .pub (.ptr (eSu L r q))), (5, .pp 1 1 0 0), (6, .pub (.ptr [Yv C.l])), (7, .pp (2 * L.length + 4) 1 0 0), (8, .pp 3 1 0 0), (13, B false), (62, I 1), (63, I 1)] ?_ ?_; exact ⟨Y, Y, Y, Y, Y, Y, Y, Y, Y, Y, Y, trivial⟩; exact (Y))⟩
     ·skip
      exfalso; simp at h3
    ·dsimp only
     refine zn ?_
     refine zf (qx Y Y Y) ?_
     refine zo (zt (zA Y (fun h3=>?_) (fun h3=>?_)))
     ·skip
      exfalso; simp at h3
     ·skip
      refine qg (zS (zS (qh ?_)))
      refine qE ?_
      refine jU ?_
      refine yT ?_
      refine vX Y Y (zh Y Y) ?_
      refine vX Y Y (zi Y Y zvp) ?_
      refine vX Y Y (zl Y Y Y ty3) ?_
      refine vX Y Y (jB Y Y Y) ?_
      refine vX Y Y (zh Y Y) ?_
      refine qN (c:=true) Y Y Y (fun _=>zX Y Y zyf Y Y Y zu8) ?_
      refine qN (c:=true) Y Y Y (fun _=>zh Y Y) ?_
      refine qN (c:=true) Y Y Y (fun _=>zW Y Y Y ⟨by omega, by omega⟩) ?_
      refine qN (c:=true) Y Y Y (fun _=>zh Y Y) ?_
      refine qN (c:=true) Y Y Y (fun _=>zh Y Y) ?_
      refine zuX (c:=true) (f:=247) (fs:=[]) (cs:=zve L r q C.l) (av:=[I ((u:Int) + 1), I 0, I 0, I 0]) Y Y Y Y (fun _=>⟨Y, Y, Y⟩) (fun _=>⟨Y, Y, Y, Y, trivial⟩) (fun _=>hi) (fun h=>absurd h (by decide)) (fun _=>?_) (fun _=>?_)
      ·skip
       refine vX Y Y (yZ Y Y (fun h=>absurd h (by decide)) (fun _=>rfl)) ?_
       refine vX Y Y (zg Y Y) ?_
       refine zas ?_
       refine qE ?_
       refine zhR ?_
       refine zc1 ?_
       exact ⟨.inr Y, _, _, true, Y, AVle.refl _, Y⟩
      ·skip
       refine vX Y Y (yZ Y Y (fun h=>absurd h (by decide)) (fun _=>rfl)) ?_
       refine vX Y Y (zg Y Y) ?_
       refine zas ?_
       refine qE ?_
       refine zhR ?_
       refine zc1 ?_
       exact ⟨.inr Y, _, _, false, Y, AVle.refl _, Y⟩
  ·skip
   exfalso; simp at h2
section
variable {L:List Sp} {r q:Int} {l u:Nat} {T:List PO}
theorem zyU (h:1 <= u):zwh L r q u (u - 1) = frB L r q (u - 1):=by unfold zwh; rw [if_pos (by omega)]
theorem zwm {x:PO}:(MM L r q l u (T ++ [x]))[(MM L r q l u T).length]? = some x:=by rw [← zv2]; exact zuy
def Cst (L:List Sp) (u N0:Nat) (x:PO) (mm:List PO):Prop:=mm[3]? = some (.row [[.psl 2 L.length]]) /\ mm[2]? = some (.row (cR L.length)) /\ mm[N0]? = some x /\ ∃ rows, mm[2 * u + 5]? = some (.row rows) /\ rows.length = 1 /\ ∀ q ∈ rows, q.length = 6
theorem zzK (h:u < L.length) {x:PO}:Cst L u (MM L r q l u T).length x (MM L r q l u (T ++ [x])):=⟨rfl, rfl, zwm, _, zvT h, rfl, fun q hq=>by rw [List.mem_singleton.1 hq]; rfl⟩
theorem zzH (h:u < L.length) {x y:PO}:Cst L u (MM L r q l u T).length x ((MM L r q l u (T ++ [x])).set (2 * u + 4) y):=by
 have e:=zwd (L:=L) (r:=r) (q:=q) (l:=l) (k:=u) (T:=T)
 refine ⟨by rw [List.getElem?_set_ne (by omega)]; rfl, by rw [List.getElem?_set_ne (by omega)]; rfl, by rw [List.getElem?_set_ne (by omega)]; exact zwm, _, by rw [List.getElem?_set_ne (by omega)]; exact zvT h, Y, fun q hq=>by rw [List.mem_singleton.1 hq]; rfl⟩
theorem zzF (h:u < L.length) {x y:PO} {b:Bx}:Cst L u (MM L r q l u T).length x (((MM L r q l u (T ++ [x])).set (2 * u + 4) y).set (2 * u + 5) (.row [(eBx b).map .pub])):=by
 have e:=zwd (L:=L) (r:=r) (q:=q) (l:=l) (k:=u) (T:=T)
 have e2:=zwd (L:=L) (r:=r) (q:=q) (l:=l) (k:=u) (T:=T ++ [x])
 refine ⟨by rw [List.getElem?_set_ne (by omega), List.getElem?_set_ne (by omega)]; rfl, by rw [List.getElem?_set_ne (by omega), List.getElem?_set_ne (by omega)]; rfl, by rw [List.getElem?_set_ne (by omega), List.getElem?_set_ne (by omega)]; exact zwm, _, by rw [List.getElem?_set_self (by rw [List.length_set, e2, List.length_append]; omega)], Y, fun q hq=>by rw [List.mem_singleton.1 hq]; rfl⟩
theorem zyC (h:u < L.length) {x:PO} {v:Int} (hv:v = lk u):((MM L r q l u (T ++ [x])).set (2 * u + 4) (.row [[I v]])).set (2 * u + 5) (.row [(eBx (frB L r q u)).map .pub]) = MM L r q l (u + 1) (T ++ [x]):=by
 rw [zxZ h v hv, zxW h]
def Cs0 (L:List Sp) (r q:Int) (l u:Nat) (mm:List PO):Prop:=mm[1]? = some (.row [suE L r q (.psl 0 L.length)]) /\ mm[3]? = some (.row [[.psl 2 L.length]]) /\ mm[2]? = some (.row (cR L.length)) /\ mm[2 * (u - 1) + 5]? = some (.row [(eBx (frB L r q (u - 1))).map .pub])
theorem zyc (h0:1 <= u) (h:u < L.length) {X:List PO}:Cs0 L r q l u (MM L r q l u T ++ X):=⟨rfl, rfl, rfl, by rw [zv2, zvT (show u - 1 < L.length by omega), zyU h0]⟩
theorem zv8 {mm:List PO} (h:u < L.length) (hC:Cs0 L r q l u mm) {x:PO}:Cs0 L r q l u (mm.set (MM L r q l u T).length x):=by
 have e:=zwd (L:=L) (r:=r) (q:=q) (l:=l) (k:=u) (T:=T)
 obtain ⟨a, b, c, d⟩:=hC
 exact ⟨by rw [List.getElem?_set_ne (by omega)]; exact a, by rw [List.getElem?_set_ne (by omega)]; exact b, by rw [List.getElem?_set_ne (by omega)]; exact c, by rw [List.getElem?_set_ne (by omega)]; exact d⟩
theorem zzm {A:List PO} {x:PO} {z:PO}:((A ++ [x]).set A.length z)[A.length]? = some z:=by rw [zuR]; exact zuy
theorem zx5 {b:Bx} (h:frB L r q u = b):((MM L r q l u T ++ [PO.row []]).set (MM L r q l u T).length (.row [[I 0, I 0, I 0, I 0, I 0, I 0]])).set (MM L r q l u T).length (.row [(eBx b).map .pub]) = MM L r q l u (T ++ [.row [(eBx (frB L r q u)).map .pub]]):=by
 rw [zuR, zuR, zv2, h]
end
theorem zzB {L:List Sp} {r q:Int} {D:List Int} (hs:SuB L r q) (ht:TrB L r q D) {C:Cx Tryz.prog G} (T:List PO) (u:Nat) (hk0:1 <= u) (hkn:u < L.length) (hi:∀ T, zvk C 247 ([I (u:Int), I 1, I 0, I 0] ++ zve L r q C.l) (MM L r q C.l (u + 1) T) 0):zvk C 247 ([I (u:Int), I 0, I 0, I 0] ++ zve L r q C.l) (MM L r q C.l u T) 0:=by
 have h4:=hs.n4
 have hn1:=hs.n1
 have hfr:=zwe (L:=L) (r:=r) (q:=q) (i:=u) (by omega)
 have hb:=zyk hs ht (i:=u - 1) (by omega)
 have hne:=hfr ▸ zyo ht hkn
 refine zvE Tryz.func247 Y (by kernel_rfl) Y (fun gh=>?_)
 refine jU ?_
 refine yf ?_
 refine zx ?_
 refine zf (zg Y Y) ?_
 refine zM ?_
 refine qE ?_
 refine jU ?_
 refine jU ?_
 refine yf ?_
 refine zx ?_
 refine zf (zh Y Y) ?_
 refine zf (zi Y Y zdQ) ?_
 refine zf (zl Y Y Y zuq) ?_
 refine zf (qA Y Y Y Tryz.underlying97) ?_
 refine zf (qR Y Y Y) ?_
 refine zM ?_
 refine qE ?_
 refine vW Y (fun h0=>?_) (fun h0=>?_)
 ·skip
  exfalso; simp at h0; omega
 ·skip
  refine y5 ?_
  refine qE ?_
  refine jU ?_
  refine jU ?_
  refine yf ?_
  refine zx ?_
  refine zf (zh Y Y) ?_
  refine zf (zi Y Y zdQ) ?_
  refine zf (zl Y Y Y zuq) ?_
  refine zf (zh Y Y) ?_
  refine zf (zD Y Y Y zur (by omega) (zvb hkn Y) zun) ?_
  refine zf (zi Y Y zG) ?_
  refine zf (zl Y Y Y zuo) ?_
  refine zf (qA Y Y Y Tryz.underlying106) ?_
  refine zf (qR Y Y Y) ?_
  refine zM ?_
  refine qE ?_
  refine vW Y (fun h2=>?_) (fun h2=>?_)
  ·skip
   exfalso; simp at h2
  ·skip
   refine y5 ?_
   refine qE ?_
   refine jU ?_
   refine jU ?_
   refine yf ?_
   refine zx ?_
   refine zf (zh Y Y) ?_
   refine zf (zi Y Y zvo) ?_
   refine zf (zl Y Y Y ty3) ?_
   refine zf (qx Y Y Y) ?_
   refine zM ?_
   refine qE ?_
   refine vW Y (fun h5=>?_) (fun h5=>?_)
   ·skip
    exfalso; simp at h5
   ·skip
    refine y5 ?_
    refine qE ?_
    refine jU ?_
    refine jU ?_
    refine yf ?_
    refine zx ?_
    refine zf (zi Y Y zdQ) ?_
    refine zf (zl Y Y Y zuq) ?_
    refine zf (zh Y Y) ?_
    refine zf (vN Y Y Y ⟨by omega, by omega⟩) ?_
    refine zf (zD Y Y Y zur (by omega) (zvb (show u - 1 < L.length by omega) (by omega)) zun) ?_
    refine zf (zi Y Y zG) ?_
    refine zf (zl Y Y Y zuo) ?_
    refine zf (qA Y Y Y Tryz.underlying106) ?_
    refine zf (zh Y Y) ?_
    refine zM ?_
    refine qE ?_
    refine xG ?_
    refine zeM (ι:={ k:Nat // k < 2 }) (fun k=>match k.1 with | 0=>⟨⟨Tryz.f247.ntmps, [], ghP gh, false, []⟩, frL [(0, I (u:Int)), (1, I 0), (2, I 0), (3, I 0), (4, .pub (.ptr (eSu L r q))), (5, .pp 1 1 0 0), (6, .pub (.ptr [Yv C.l])), (7, .pp (2 * L.length + 4) 1 0 0), (8, .pp 3 1 0 0), (13, B false), (126, I 1), (127, I 0)], (MM L r q C.l u T)⟩ | _=>⟨⟨Tryz.f247.ntmps, [], ghP gh, false, []⟩, frL [(126, I 1), (127, I 1)], []⟩) (fun k=>match k.1 with | 0=>.on 0 | _=>.on 1) (fun k=>2 - k.1) (⟨0, by omega⟩) rfl ?_ ?_
    ·exact zy _ ⟨Y, Y, Y, Y, Y, Y, Y, Y, Y, Y, Y, Y, trivial⟩ (Y)
    ·rintro ⟨k, hkk⟩
     have hk3:k = 0 ∨ k = 1:=by omega
     rcases hk3 with rfl | rfl
     ·dsimp only
      refine jU ?_
      refine yf ?_
      refine zx ?_
      refine zf (qx Y Y Y) ?_
      refine zM ?_
      refine qE ?_
      refine jU ?_
      refine vW Y (fun h7=>?_) (fun h7=>?_)
      ·skip
       refine y5 ?_
       refine qE ?_
       refine jU ?_
       refine xG ?_
       refine jU ?_
       refine yf ?_
       refine zx ?_
       refine zf (zh Y Y) ?_
       refine zf (zg Y Y) ?_
       refine zM ?_
       refine qE ?_
       refine jU ?_
       refine jU ?_
       refine yf ?_
       refine zx ?_
       refine zf (jJ Y Y Y Y wF) ?_
       refine zf (zX Y Y Y Y Y Y zum) ?_
       refine zf (zh Y Y) ?_
       refine zf (jw Y Y Y Y (zvR _) zla (by omega) (by omega) zvY) ?_
       refine zf (zX Y Y Y (zvR _) (zwQ hkn Y) Y kN) ?_
       refine zf (zh Y Y) ?_
       refine zf (zw6 Y Y (zu6 hkn) Y Y zjc) ?_
       refine zf (zh Y Y) ?_
       refine zf (zB (av:=[_, _]) Y ⟨Y, Y, trivial⟩ (zyp 0)) ?_
       refine zM ?_
       refine qE ?_
       refine vW Y (fun h8=>?_) (fun h8=>?_)
       ·skip
        exfalso; simp at h8
       ·skip
        refine y5 ?_
        refine qE ?_
        refine jU ?_
        refine yf ?_
        refine qY zgO ?_
        refine zfD (Cs0 L r q C.l u) (fun k=>match k with | 0=>.stable | 1=>.stable | 2=>.stable | 3=>.stable | 4=>.stable | 5=>.stable | 6=>.stable | 7=>.stable | 8=>.stable | 9=>.stable | 10=>.stable | 11=>.stable | 12=>.stable | 13=>.stable | 14=>.stable | 15=>.own ((MM L r q C.l u T).length + 0) | 16=>.writes | 17=>.stable | _=>.here) mixed (by kernel_rfl) rfl (by kernel_rfl) (zyc hk0 hkn) ?_
        refine jv Y Y (fun m hm=>za9 (cs:=suE L r q (.psl 0 L.length)) Y Y hm.1 Y Y (by exact zLb Y) Y zup) ?_
        refine jv Y Y (fun m hm=>zh Y Y) ?_
        refine jv Y Y (fun m hm=>zh Y Y) ?_
        refine jv Y Y (fun m hm=>zX Y Y hm.2.1 Y Y Y zuG) ?_
        refine jv Y Y (fun m hm=>zh Y Y) ?_
        refine jv Y Y (fun m hm=>vN Y Y Y ⟨by omega, by omega⟩) ?_
        refine jv Y Y (fun m hm=>jw Y Y Y hm.2.2.1 (zxP _) zuC (by omega) (by omega) zxm) ?_
        refine jv Y Y (fun m hm=>zX Y Y hm.2.2.1 (zxP _) (zyr (i:=u - 1) (by omega) (by omega)) Y zuL) ?_
        refine jv Y Y (fun m hm=>zh Y Y) ?_
        refine jv Y Y (fun m hm=>jw Y Y Y hm.2.2.2 Y zva (by omega) (by omega) (fun q hq=>by rw [List.mem_singleton.1 hq]; rfl)) ?_
        refine jv Y Y (fun m hm=>qV (cs:=eBx (frB L r q (u - 1))) Y Y hm.2.2.2 Y Y (by exact zLb Y) Y wX) ?_
        refine jv Y Y (fun m hm=>zeO (av:=[.agg (eLk L r q .top), Ct.ei (u:Int), Ct.ei 0, .agg (eBx (frB L r q (u - 1)))]) Y ⟨_, _, Y, AVle.refl _, _, _, Y, AVle.refl _, _, _, Y, AVle.refl _, _, _, Y, AVle.refl _, Y⟩ (f248 hs .top u (by omega) hkn (u:Int) Y _ hb hne)) ?_
        refine jv Y Y (fun m hm=>zI Y Y) ?_
        refine jv Y Y (fun m hm=>zU Y Y Y) ?_
        refine jv Y Y (fun m hm=>zU Y Y Y) ?_
        refine ztC Y Y (fun m hm hC=>⟨(zmH Y zuO Y Y zuy m hm trivial).1, zv8 hkn hC⟩) ?_
        refine zpt Y Y (zd0 Y Y Y zzm Y Y (zQ Y) wX (by rfl) (by rfl)) (zv8 hkn (zv8 hkn (zyc hk0 hkn))) ?_
        refine jv Y Y (fun m hm=>zg Y Y) ?_
        refine zfa ?_
        refine qE ?_
        refine jU ?_
        refine jU ?_
        refine yf ?_
        refine zx ?_
        refine zf (zh Y Y) ?_
        refine zf (qJ Y Y) ?_
        refine zM ?_
        refine qE ?_
        refine vW Y (fun h9=>?_) (fun h9=>?_)
        ·skip
         exfalso; simp at h9
        ·skip
         refine y5 ?_
         refine qE ?_
         refine jU ?_
         refine zaj (zy (mem':=MM L r q C.l u (T ++ [.row [(eBx (frB L r q u)).map .pub]])) [(0, I (u:Int)), (1, I 0), (2, I 0), (3, I 0), (4, .pub (.ptr (eSu L r q))), (5, .pp 1 1 0 0), (6, .pub (.ptr [Yv C.l])), (7, .pp (2 * L.length + 4) 1 0 0), (8, .pp 3 1 0 0), (13, B false), (126, I 1), (127, I 0), (18, I 0), (19, .pp (MM L r q C.l u T).length 1 0 0)] ?_ ?_) ?_
         ·exact ⟨Y, Y, Y, Y, Y, Y, Y, Y, Y, Y, Y, Y, Y, Y, trivial⟩
         ·exact zx5 hfr
         refine yf ?_
         refine zfD (Cst L u (MM L r q C.l u T).length (.row [(eBx (frB L r q u)).map .pub])) (fun k=>match k with | 6=>.stable | 7=>.stable | 8=>.stable | 10=>.stable | 12=>.stable | 14=>.writes | 15=>.stable | 16=>.writes | _=>.here) mixed (by kernel_rfl) rfl (by kernel_rfl) (zzK hkn) ?_
         refine znG Y Y (jJ Y Y Y Y wF) ?_
         refine znG Y Y (zX Y Y Y Y Y Y zum) ?_
         refine znG Y Y (zh Y Y) ?_
         refine znG Y Y (jw Y Y Y Y (zvR _) zla (by omega) (by omega) zvY) ?_
         refine znG Y Y (zX Y Y Y (zvR _) (zwQ hkn Y) Y kN) ?_
         refine znG Y Y (zh Y Y) ?_
         refine jv Y Y (fun m hm=>zX Y Y hm.1 Y Y Y zuG) ?_
         refine jv Y Y (fun m hm=>zh Y Y) ?_
         refine jv Y Y (fun m hm=>jw Y Y Y hm.2.1 (zxP _) zuC (by omega) (by omega) zxm) ?_
         refine znG Y Y (zX Y Y Y (zxP _) (zyr hkn Y) Y zuL) ?_
         refine jv Y Y (fun m hm=>zh Y Y) ?_
         refine znG Y Y (zh Y Y) ?_
         refine jv Y Y (fun m hm=>qV (cs:=eBx (frB L r q u)) Y Y hm.2.2.1 Y Y (by exact zLb Y) Y wX) ?_
         refine znG Y Y (jw Y Y Y (zu6 hkn) Y zjc (by omega) (by omega) (fun q hq=>by rw [List.mem_singleton.1 hq]; rfl)) ?_
         refine zpt Y Y (zd0 Y Y Y (zu6 hkn) Y Y (qU Y) ty3 (by rfl) (by rfl)) (zzH hkn) ?_
         refine jv Y Y (fun m hm=>jw Y Y Y hm.2.2.2.choose_spec.1 hm.2.2.2.choose_spec.2.1 zva (by omega) (by omega) hm.2.2.2.choose_spec.2.2) ?_
         refine zpt Y Y (zd0 Y Y Y (by rw [List.getElem?_set_ne (by omega)]; exact zvT hkn) Y Y (zQ Y) wX (by rfl) (by rfl)) (zzF hkn) ?_
         refine zfa ?_
         refine qE ?_
         refine jU ?_
         refine zaj (zy (mem':=MM L r q C.l (u + 1) (T ++ [.row [(eBx (frB L r q u)).map .pub]])) [(0, I (u:Int)), (1, I 0), (2, I 0), (3, I 0), (4, .pub (.ptr (eSu L r q))), (5, .pp 1 1 0 0), (6, .pub (.ptr [Yv C.l])), (7, .pp (2 * L.length + 4) 1 0 0), (8, .pp 3 1 0 0), (13, B false), (126, I 1), (127, I 0), (18, I 0), (19, .pp (MM L r q C.l u T).length 1 0 0)] ?_ ?_) ?_
         ·exact ⟨Y, Y, Y, Y, Y, Y, Y, Y, Y, Y, Y, Y, Y, Y, trivial⟩
         ·exact zyC hkn (zu9 (by omega)).symm
         refine yT ?_
         refine vX Y Y (zX Y Y zyf Y Y Y zu8) ?_
         refine vX Y Y (zh Y Y) ?_
         refine vX Y Y (zh Y Y) ?_
         refine vX Y Y (zW Y Y Y ⟨by omega, by omega⟩) ?_
         refine vX Y Y (zh Y Y) ?_
         refine vX Y Y (zh Y Y) ?_
         refine zuX (c:=true) (f:=247) (fs:=[]) (cs:=zve L r q C.l) (av:=[I (u:Int), I 1, I 0, I 0]) Y Y Y Y (fun _=>⟨Y, Y, Y⟩) (fun _=>⟨Y, Y, Y, Y, trivial⟩) (fun _=>(hi _)) (fun h=>absurd h (by decide)) (fun _=>?_) (fun _=>?_)
         ·skip
          refine vX Y Y (qJ Y Y) ?_
          refine zas ?_
          refine qE ?_
          refine vW Y (fun h10=>?_) (fun h10=>?_)
          ·skip
           exfalso; simp at h10
          ·skip
           refine y5 ?_
           refine yS ?_
           refine qE ?_
           refine yf ?_
           refine zx ?_
           refine zf (zW Y Y Y ⟨by omega, by omega⟩) ?_
           refine zf (zh Y Y) ?_
           refine zM ?_
           exact ⟨⟨1, by omega⟩, by dsimp only; omega, Y, (by refine zy (mem':=[]) [(126, I 1), (127, I 1)] ?_ ?_; exact ⟨Y, Y, trivial⟩; exact (Y))⟩
         ·skip
          refine vX Y Y (qJ Y Y) ?_
          refine zas ?_
          refine qE ?_
          refine vW Y (fun h10=>?_) (fun h10=>?_)
          ·skip
           refine jU ?_
           refine yf ?_
           refine zx ?_
           refine zf (zg Y Y) ?_
           refine zM ?_
           refine qE ?_
           refine zhR ?_
           refine zc9 ?_
           refine zc1 ?_
           refine zc1 ?_
           refine zc9 ?_
           refine zc1 ?_
           exact ⟨.inr Y, _, _, false, Y, AVle.refl _, Y⟩
          ·skip
           exfalso; simp at h10
      ·skip
       exfalso; simp at h7
     ·dsimp only
      refine jU ?_
      refine yf ?_
      refine zx ?_
      refine zf (qx Y Y Y) ?_
      refine zM ?_
      refine qE ?_
      refine jU ?_
      refine vW Y (fun h7=>?_) (fun h7=>?_)
      ·skip
       exfalso; simp at h7
      ·skip
       refine zeV ?_
       refine zbc ?_
       refine zbc ?_
       refine zeP ?_
       refine qE ?_
       refine jU ?_
       refine yf ?_
       refine zx ?_
       refine zf (zg Y Y) ?_
       refine zM ?_
       refine qE ?_
       refine zhR ?_
       exact ⟨.inr Y, _, _, true, Y, AVle.refl _, Y⟩
theorem zw5 {L:List Sp} {r q:Int} {D:List Int} (hs:SuB L r q) (ht:TrB L r q D) {C:Cx Tryz.prog G} (hq:C.qs[0]? = some [.agg (eLk L r q (sV L.length))]):∀ (m u:Nat), 1 <= u -> u + m = L.length -> ∀ T, zvk C 247 ([I (u:Int), I 0, I 0, I 0] ++ zve L r q C.l) (MM L r q C.l u T) 0
 | 0, u, h1, h2, T=>by
  obtain rfl:u = L.length:=by omega
  exact zy8 hs hq T _ Y
 | m + 1, u, h1, h2, T=>zzB hs ht T u h1 (by omega) fun T'=>zyZ hs T' u h1 (by omega) (by have:=zw5 hs ht hq m (u + 1) (by omega) (by omega) T'; rwa [show ((u + 1:Nat):Int) = (u:Int) + 1 by omega] at this)
def CB (n:Nat) (x1 x3:PO) (mm:List PO):Prop:=mm[1]? = some x1 /\ mm[3]? = some x3 /\ (∃ R:List (List EV), mm[0]? = some (.row R) /\ R.length = n /\ ∀ q ∈ R, q.length = 1) /\ ∃ R:List (List EV), mm[2]? = some (.row R) /\ R.length = n /\ ∀ q ∈ R, q.length = 1
theorem zuI {n:Nat} {x1 x3:PO} {mm:List PO} {R:List (List EV)} (h:CB n x1 x3 mm) (h1:R.length = n) (h2:∀ q ∈ R, q.length = 1):CB n x1 x3 (mm.set 0 (.row R)):=by
 obtain ⟨a, b, ⟨R0, c, _⟩, d⟩:=h
 exact ⟨by rw [List.getElem?_set_ne (by omega)]; exact a, by rw [List.getElem?_set_ne (by omega)]; exact b, ⟨R, by rw [List.getElem?_set_self (zLg c).1], h1, h2⟩, by rw [List.getElem?_set_ne (by omega)]; exact d⟩
def CB2 (n:Nat) (x1 x3:PO) (mm:List PO):Prop:=CB n x1 x3 mm /\ ∃ R:List (List EV), mm[5]? = some (.row R) /\ R.length = 1 /\ ∀ q ∈ R, q.length = 6
theorem zuv {n l:Nat} {x1 x3 x:PO} {mm:List PO} (hl:4 <= l) (h:CB n x1 x3 mm):CB n x1 x3 (mm.set l x):=by
 obtain ⟨a, b, c, d⟩:=h
 refine ⟨by rw [List.getElem?_set_ne (by omega)]; exact a, by rw [List.getElem?_set_ne (by omega)]; exact b, by rw [List.getElem?_set_ne (by omega)]; exact c, by rw [List.getElem?_set_ne (by omega)]; exact d⟩
end Tp
end Go.Av
end
