import Derived.Test.YtgmbdadkbominaaGreatDoorPlatX
import Derived.Test.YtgmbdadkbominaaGreatDoorPlatN
import Derived.ChangeKeysEq
import Derived.Laws.StructEq
import Derived.Test.YtgmbdadkbominaaGreatDoorProg
import Derived.Test.YtgmbdadkbominaaGreatDoorChM
set_option linter.unusedVariables false
set_option linter.unusedSimpArgs false
section
namespace Go.Av
namespace Tp
open Go.Proofs
set_option maxRecDepth 100000
def zux (a:Int):Value:=.agg #[.int .i64 0, .int .i64 a, .int .i64 0, .int .i64 0]
theorem zvh:Tryz.prog.underlying 218 = some (.struct (Tryz.prog.fieldsOf 218)):=by kernel_rfl
theorem zxK:Tryz.prog.stoodInHeld 218 = false:=by kernel_rfl
def fW:Field:=⟨"what", 3, 0, false, "", "isobar/low", 0⟩
def fA:Field:=⟨"at", 3, 1, false, "", "isobar/low", 8⟩
def fL:Field:=⟨"low", 3, 2, false, "", "isobar/low", 16⟩
def fB:Field:=⟨"before", 3, 3, false, "", "isobar/low", 24⟩
theorem zvD:(Tryz.prog.fieldsOf 218).toList = [fW, fA, fL, fB]:=by kernel_rfl
theorem pk3:Tryz.prog.plainKey 3 = true:=by kernel_rfl
theorem pt3 {xs:Array Value} {off:Nat} {v:Value} (w:World) (hx:xs[off]? = some v):(part 3 xs off).run Tryz.prog w = .ok v w:=run_part_plain w pk3 hx
theorem eqF (a b:Int) (w:World):(Op.equal 218 (zux a) (zux b)).run Tryz.prog w = .ok (decide (b = a)) w:=by
 show (Op.equalIn 10000 218 (zux a) (zux b)).run Tryz.prog w = _
 unfold zux
 rw [run_equalIn_struct w 9999 218 _ _ zvh zxK, zvD]
 have h1:∀ p q:Int, (Op.equalIn 9999 3 (.int .i64 p) (.int .i64 q)).run Tryz.prog w = .ok (p == q) w:=fun p q=>run_equalIn_int w 9998 3 .i64 .i64 p q Tryz.underlying3
 have p0:∀ x y z u:Value, (part 3 #[x, y, z, u] 0).run Tryz.prog w = .ok x w:=fun x y z u=>pt3 w rfl
 have p1:∀ x y z u:Value, (part 3 #[x, y, z, u] 1).run Tryz.prog w = .ok y w:=fun x y z u=>pt3 w rfl
 have p2:∀ x y z u:Value, (part 3 #[x, y, z, u] 2).run Tryz.prog w = .ok z w:=fun x y z u=>pt3 w rfl
 have p3:∀ x y z u:Value, (part 3 #[x, y, z, u] 3).run Tryz.prog w = .ok u w:=fun x y z u=>pt3 w rfl
 have key:decide (b = a) = (a == b):=by
  rw [Bool.eq_iff_iff]; simp only[beq_iff_eq, decide_eq_true_eq]; exact eq_comm
 rw [key]
 simp only[Op.eqFields, fW, fA, fL, fB, ne_eq, String.reduceEq, not_false_eq_true, if_true, Sem.run_bind, p0, p1, p2, p3, h1, Result.andThen_ok, BEq.rfl, Bool.not_true, Bool.false_eq_true, if_false]
 cases a == b with
 | false=>rfl
 | true=>
  simp only[Bool.not_true, Bool.false_eq_true, if_false, Sem.run_bind, p2, p3, h1, Result.andThen_ok, BEq.rfl, Sem.run_pure]
theorem ckI (b:Bool) (d:Nat) (x:Int) (w:World):(Instr.checkKey b (d + 1) 3 (.int .i64 x)).run Tryz.prog w = .ok () w:=by
 simp only[Instr.checkKey, Sem.run_bind, run_underlying Tryz.underlying3, Result.andThen_ok, Sem.run_pure]
theorem ckF (b:Bool) (c:Int) (w:World):(Instr.checkKey b 10000 218 (zux c)).run Tryz.prog w = .ok () w:=by
 have p0:∀ (x y z u:Value) (w:World), (part 3 #[x, y, z, u] 0).run Tryz.prog w = .ok x w:=fun x y z u w=>pt3 w rfl
 have p1:∀ (x y z u:Value) (w:World), (part 3 #[x, y, z, u] 1).run Tryz.prog w = .ok y w:=fun x y z u w=>pt3 w rfl
 have p2:∀ (x y z u:Value) (w:World), (part 3 #[x, y, z, u] 2).run Tryz.prog w = .ok z w:=fun x y z u w=>pt3 w rfl
 have p3:∀ (x y z u:Value) (w:World), (part 3 #[x, y, z, u] 3).run Tryz.prog w = .ok u w:=fun x y z u w=>pt3 w rfl
 unfold zux
 rw [show (10000:Nat) = 9998 + 2 from rfl, Instr.checkKey]
 simp only[Sem.run_bind, run_underlying zvh, Result.andThen_ok]
 rw [← Array.forIn_toList, zvD]
 simp only[List.forIn_cons, List.forIn_nil, fW, fA, fL, fB, ne_eq, String.reduceEq, not_false_eq_true, if_true, Sem.run_bind, p0, p1, p2, p3, ckI, Result.andThen_ok, Sem.run_pure]
theorem zyX:KeyT Tryz.prog 218 zux:=zxc zvh (fun _ _=>rfl) eqF ckF (fun a=>by simp [zux, Instr.sameBits])
theorem zxl (a:Int):zrF (.agg [.v (.int .i64 0), .v (.int .i64 a), .v (.int .i64 0), .v (.int .i64 0)]) (zux a):=zxq (l:=[.int .i64 0, .int .i64 a, .int .i64 0, .int .i64 0]) rfl
def esF (k:Nat):List (Int × Value):=(List.range (k - 1)).map fun i=>(((i + 1:Nat):Int), .int .i64 1)
theorem zwR {es:List (Int × Value)} {a:Int} {d:Value} (h:∀ p ∈ es, p.1 ≠ a):ziF a d es = d:=by
 induction es with
 | nil=>rfl
 | cons p es ih=>
  obtain ⟨b, x⟩:=p
  unfold ziF
  rw [if_neg (h _ (List.mem_cons_self ..))]
  exact ih fun q hq=>h q (List.mem_cons_of_mem _ hq)
theorem zwX {es:List (Int × Value)} {a:Int} {d:Value} (h:∀ p ∈ es, p.1 ≠ a):zgD a d es = es ++ [(a, d)]:=by
 induction es with
 | nil=>rfl
 | cons p es ih=>
  obtain ⟨b, x⟩:=p
  unfold zgD
  rw [if_neg (h _ (List.mem_cons_self ..)), ih fun q hq=>h q (List.mem_cons_of_mem _ hq)]; rfl
theorem zxj {k:Nat} (h:1 <= k):∀ p ∈ esF k, p.1 ≠ (k:Int):=fun p hp=>by
 obtain ⟨i, hi, rfl⟩:=List.mem_map.1 hp
 rw [List.mem_range] at hi
 show ((i + 1:Nat):Int) ≠ (k:Int)
 omega
theorem zxU {k:Nat} (h:1 <= k) {z:Value}:ziF (k:Int) z (esF k) = z:=zwR (zxj h)
theorem zxO {k:Nat} (h:1 <= k):zgD (k:Int) (.int .i64 1) (esF k) = esF (k + 1):=by
 rw [zwX (zxj h)]
 unfold esF
 rw [show k + 1 - 1 = (k - 1) + 1 by omega, List.range_succ, List.map_append, List.map_singleton, show k - 1 + 1 = k by omega]
theorem zx4 {n k:Nat} (h1:1 <= k) (h2:k < n) {z:Value}:ziF (k:Int) z (esF n) = .int .i64 1:=by
 have:∀ (l:List Nat), k - 1 ∈ l -> ziF (k:Int) z (l.map fun i=>(((i + 1:Nat):Int), Value.int .i64 1)) = .int .i64 1:=by
  intro l
  induction l with
  | nil=>intro h; cases h
  | cons i l ih=>
   intro h
   simp only[List.map_cons]
   unfold ziF
   by_cases e:((i + 1:Nat):Int) = (k:Int)
   ·rw [if_pos e]
   ·rw [if_neg e]
    rcases List.mem_cons.1 h with h | h
    ·exact absurd (by omega) e
    ·exact ih h
 exact this _ (List.mem_range.2 (by omega))
theorem zxY {k:Nat}:∀ p ∈ esF k, p.2.oneCell' = true:=fun p hp=>by
 obtain ⟨i, _, rfl⟩:=List.mem_map.1 hp; rfl
theorem zyR:(Tryz.prog.info? 3).bind (·.zero) = some (.int .i64 0):=by kernel_rfl
section
variable {G:Glob} {fr:Nat -> EV} {mem:List PO} {o:Oper}
theorem zxt {x i:Operand} {l d k:Nat} {m:List PO} (hm:Agree [d] m mem) (hf:mem[d]? = some (.row [])) (hC:zwl zux l d (k:Int) (.int .i64 0) (esF k) m) (hk1:1 <= k) (ho:o.op = .lookup 213 x i false) (hx:evO fr x = .mpv l)
  (hi:evO fr i = .pub (.agg [.v (.int .i64 0), .v (.int .i64 (k:Int)), .v (.int .i64 0), .v (.int .i64 0)])):OpY Tryz.prog G fr m o (I 0):=by
 have:=zwZ (P:=Tryz.prog) (G:=G) (enc:=zux) hm hf hC ho hx hi (zxl _) Tryz.underlying213 zyX zyR rfl
 rw [zxU hk1] at this
 exact this
theorem zxF {x i:Operand} {l d k:Nat} {m:List PO} (hm:Agree [l] m mem) (hml:mem[l]? = some (zuE zux (esF k))) (hld:l ≠ d) (hC:zwl zux l d (k:Int) (.int .i64 0) (esF k) m) (ho:o.op = .mapEntry 213 x i) (hx:evO fr x = .mpv l)
  (hi:evO fr i = .pub (.agg [.v (.int .i64 0), .v (.int .i64 (k:Int)), .v (.int .i64 0), .v (.int .i64 0)])):
  OpB Tryz.prog G fr m o (.pub (.tup [.v (ziF (k:Int) (.int .i64 0) (esF k)), .v (goInt (ixV (k:Int) (esF k)))])) (m.set l (zuE zux (zgD (k:Int) (ziF (k:Int) (.int .i64 0) (esF k)) (esF k)))) /\ zwl zux l d (k:Int) (.int .i64 0) (esF k) (m.set l (zuE zux (zgD (k:Int) (ziF (k:Int) (.int .i64 0) (esF k)) (esF k)))):=
 zxp (P:=Tryz.prog) (G:=G) (enc:=zux) hm hml hld hC ho hx hi (zxl _) Tryz.underlying213 zyX zyR rfl zxY
theorem zzb {x i:Operand} {l k n:Nat} (hml:mem[l]? = some (zuE zux (esF n))) (h1:1 <= k) (h2:k < n) (ho:o.op = .lookup 213 x i false) (hx:evO fr x = .mpv l)
  (hi:evO fr i = .pub (.agg [.v (.int .i64 0), .v (.int .i64 (k:Int)), .v (.int .i64 0), .v (.int .i64 0)])):OpY Tryz.prog G fr mem o (I 1):=by
 have:=zmk (P:=Tryz.prog) (G:=G) (fr:=fr) (mem:=mem) (enc:=zux) ho hx hml hi (zxl _) Tryz.underlying213 zyX zyR
 rw [show EV.pub (ofV (.int .i64 0)) = .pub (.v (.int .i64 0)) from rfl, zvc, zx4 h1 h2] at this
 exact this
end
def Fm (u:Nat):List PO:=zuE zux (esF u) :: .row [[.mpv 0]] :: .row [[I 1]] :: List.replicate (u - 1) .dead
theorem zwo {u:Nat} (h:1 <= u):(Fm u).length = u + 2:=by simp [Fm]; omega
theorem zya {u:Nat} (h:1 <= u):(Fm u ++ [PO.row []])[u + 2]? = some (.row []):=by
 rw [List.getElem?_append_right (by rw [zwo h]; exact Nat.le_refl _), zwo h, Nat.sub_self]; rfl
theorem zza {u:Nat} (h:1 <= u) {x y:PO} (hx:x = zuE zux (zgD (u:Int) (.int .i64 1) (esF u))):(((Fm u ++ [PO.row []]).set 0 y).set 0 x).set (u + 2) .dead = Fm (u + 1):=by
 subst hx
 rw [zxO h]
 obtain ⟨m, rfl⟩:∃ m, u = m + 1:=⟨u - 1, by omega⟩
 show _ :: _ :: _ :: List.set (List.replicate m PO.dead ++ [PO.row []]) m .dead = _ :: _ :: _ :: List.replicate (m + 1) .dead
 rw [List.set_append_right _ _ (by simp)]
 simp [List.replicate_succ']
theorem zxv {u:Nat} (h:1 <= u) {v:Value}:(((Fm u ++ [PO.row []]).set 0 (zuE zux (zgD (u:Int) v (esF u)))).set 0 (zuE zux (zgD (u:Int) (.int .i64 1) (esF u)))).set (u + 2) .dead = Fm (u + 1):=zza h rfl
theorem zxT {u:Nat} (h:1 <= u) {x y:PO} (hh:((((Fm u ++ [PO.row []]).set 0 y).set 0 x).set (u + 2) .dead)[u + 2]? = some (.row [])):(some PO.dead:Option PO) = some (.row []):=by
 rw [List.getElem?_set_self (by simp [zwo h])] at hh
 exact hh
theorem zwy {k:Nat} {es:List (Int × Value)}:PO.okL k (zuE zux es):=by
 unfold zuE zkO PO.okL
 intro p hp
 obtain ⟨q, hq, rfl⟩:=List.mem_map.1 hp
 obtain ⟨s, _, rfl⟩:=List.mem_map.1 hq
 simp [EV.lt]
end Tp
end Go.Av
end
section
namespace Go.Av
namespace Tp
open Go.Proofs
set_option maxRecDepth 100000
set_option maxHeartbeats 1000000
variable {G:Glob}
theorem zy1:(Tryz.prog.info? 99).bind (·.zero) = some (.agg #[.slice none 0 0, .int .i64 0, .int .i64 0, .int .i64 0, .int .i64 0]):=by kernel_rfl
theorem f196 (L:List Sp) (r q:Int):ACall Tryz.prog G 196 [.agg (eSu L r q)] (.fn 246 [] [.ptr (eSu L r q)]):=by
 refine zO Tryz.func196 Y (by kernel_rfl) Y ?_
 refine zn (zf (ql Y (zQ Y)) (zf (zg Y Y) (zo (zn (zf (wC (fs:=[]) (cs:=[_]) Y Y Y) (zf (qG Y Y) (zo ?_)))))))
 refine zN ?_
 exact ⟨.inr Y, AVle.refl _⟩
theorem zxk {L:List Sp} {r q:Int} {D:List Int} (hs:SuB L r q) (ht:TrB L r q D):zcM Tryz.prog G 246 [] [.ptr (eSu L r q)] [[.agg (eLk L r q (sV L.length))]]:=
 match L, hs, ht with
 | [], hs, _=>absurd hs.n1 (by simp)
 | [a], hs, ht=>zx0 a hs ht
 | [a, b], hs, ht=>zxX a b hs ht
 | [a, b, c], hs, ht=>zxJ a b c hs ht
 | [a, b, c, d], hs, ht=>zxM a b c d hs ht
 | _ :: _ :: _ :: _ :: _ :: _, hs, _=>absurd hs.n4 (by simp)
theorem zzh {L:List Sp} {r q:Int} (hs:SuB L r q) {i:Nat} (h:i < L.length):zuB L[i] = true:=by
 have:=hs.sp i h
 rwa [List.getD_eq_getElem?_getD, List.getElem?_eq_getElem h] at this
theorem zy9 {L:List Sp} {r q:Int} (hs:SuB L r q) {i:Nat} (h:i < L.length):0 <= L[i].h /\ L[i].h <= 1000:=by
 have:=hs.hr i h
 rwa [List.getD_eq_getElem?_getD, List.getElem?_eq_getElem h] at this
structure SuP (L:List Sp) (r q:Int):Prop extends SuB L r q where
 r50:r <= 50
 h200:∀ i, i < L.length -> (L.getD i sp0).h <= 200
theorem zx9 {L:List Sp} {r q:Int} (hs:SuP L r q) {k:Nat} (h0:1 <= k) (hk:k <= L.length):SuP (L.take k) r q:=by
 have hl:(L.take k).length = k:=by rw [List.length_take]; omega
 have e:∀ i, i < k -> (L.take k).getD i sp0 = L.getD i sp0:=fun i hi=>by rw [List.getD_eq_getElem?_getD, List.getD_eq_getElem?_getD, List.getElem?_take, if_pos hi]
 have h4:=hs.n4
 exact { n1:=by omega, n4:=by omega, r0:=hs.r0, q0:=hs.q0, sp:=fun i hi=>by rw [e i (by omega)]; exact hs.sp i (by omega), hr:=fun i hi=>by rw [e i (by omega)]; exact hs.hr i (by omega), up:=fun i hi=>by rw [e i (by omega), e (i + 1) (by omega)]; exact hs.up i (by omega), r50:=hs.r50, h200:=fun i hi=>by rw [e i (by omega)]; exact hs.h200 i (by omega) }
theorem zx8 {L:List Sp} {r q:Int} {D:List Int} (ht:TrB L r q D) {k:Nat} (hk:k <= L.length):TrB (L.take k) r q (D.take k):=by
 have hl:(L.take k).length = k:=by rw [List.length_take]; omega
 have e:∀ i, i < k -> (L.take k).getD i sp0 = L.getD i sp0:=fun i hi=>by rw [List.getD_eq_getElem?_getD, List.getD_eq_getElem?_getD, List.getElem?_take, if_pos hi]
 have e2:∀ i, i < k -> (D.take k).getD i 0 = D.getD i 0:=fun i hi=>by rw [List.getD_eq_getElem?_getD, List.getD_eq_getElem?_getD, List.getElem?_take, if_pos hi]
 have e3:∀ i, i + 1 < k -> hrL (L.take k) (i + 1) = hrL L (i + 1):=fun i hi=>by unfold hrL; rw [e (i + 1) hi, e (i + 1 - 1) (by omega)]
 have hd:=ht.len
 refine ⟨by rw [List.length_take, hl]; omega, fun i hi=>?_, fun i hi=>?_, fun i hi=>?_, fun i hi=>?_⟩
 ·rw [hl] at hi; rw [e i hi, e2 i hi]; exact ht.dep i (by omega)
 ·rw [hl] at hi; rw [e i (by omega), e (i + 1) hi, e3 i hi]; exact ht.mx i (by omega)
 ·rw [hl] at hi; rw [e i (by omega), e (i + 1) hi, e3 i hi]; exact ht.my i (by omega)
 ·rw [hl] at hi; rw [e2 i (by omega), e2 (i + 1) hi, e3 i hi]; exact ht.md i (by omega)
theorem zw7 {L:List Sp} {r q:Int} {k:Nat}:([.sl ((L.map eLm).take k), .v (.int .i64 r), .v (.int .i64 q), .v (.int .i64 0), .v (.int .i64 0)]:List AV) = eSu (L.take k) r q:=by simp [eSu, List.map_take]
theorem f105 {L:List Sp} {r q:Int} {D:List Int} (hs:SuB L r q) (ht:TrB L r q D):ACall Tryz.prog G 105 [.agg (eSu L r q)] (.v (.bool true)):=by
 refine zO Tryz.func105 Y (by kernel_rfl) Y ?_
 refine zn (zf (ql Y (zQ Y)) (qL Y (jr Y Y zv4 Y Y) (zo (zt (zn (zf (zK Y Y yw (by exact zLb Y)) (zf (zB (av:=[_]) Y ⟨Y, trivial⟩ (f196 L r q)) (zM ?_))))))))
 refine zk (zF ?_)
 refine zvi (q:=[.agg (eLk L r q (sV L.length))]) [2] ([.row [[B false]]]) ([.row [[B false]]]) (False) Y (zxk hs ht) Y Y Y Y ?_ ?_
 ·intro gh lp hd1 hd2
  refine zH ?_
  refine ⟨Y, Y, ?_⟩
  refine zF (zn ?_)
  refine qL Y (qw Y Y Y Y Y Y (qU Y) ty4 (by rfl) (by exact zLb Y)) ?_
  refine zo (zN (zZ ?_))
  refine ⟨Y, ?_⟩
  refine zZ (zP ?_)
  exact ⟨.inr Y, zcp Y (wH Y Y Y Y ty4 Y (AVle.refl _))⟩
 ·intro hVn
  exact hVn.elim
def bfH (L:List Sp) (k:Nat):Int:=if k = 0 then -1 else (L.getD (k - 1) sp0).h
theorem zzf {L:List Sp} {r q:Int} (hs:SuB L r q) {k:Nat} (h:k < L.length):bfH L k < L[k].h:=by
 have h1:=zy9 hs h
 unfold bfH
 split
 ·omega
 ·have:=hs.up (k - 1) (by omega)
  rw [show k - 1 + 1 = k by omega] at this
  rwa [show L.getD k sp0 = L[k] by simp [h]] at this
theorem zzs {L:List Sp} {k:Nat} {s:Sp} (h:L.getD k sp0 = s):bfH L (k + 1) = s.h:=by unfold bfH; rw [if_neg (by omega), Nat.add_sub_cancel, h]
theorem f96 {L:List Sp} {r q:Int} (hs:SuP L r q):ACall Tryz.prog G 96 [.agg (eSu L r q)] (.v (.bool true)):=by
 have h4:=hs.n4
 have hn1:=hs.n1
 have hln:((L.map eLm).length:Int) = L.length:=by simp
 have hr0:=hs.r0
 have hq0:=hs.q0
 have hr5:=hs.r50
 have hbf:∀ k, 0 < k -> k < L.length -> (L.getD (k - 1) sp0).h < (L.getD k sp0).h:=fun k h0 h1=>by have:=hs.up (k - 1) (by omega); rwa [show k - 1 + 1 = k by omega] at this
 refine zO Tryz.func96 Y (by kernel_rfl) Y ?_
 refine zn (zf (ql Y (zQ Y)) (zf (zg Y Y) (zo (zn (zf (zg Y Y) (zo (zt ?_)))))))
 refine zn (zf (zi Y Y zdQ) (zf (zl Y Y Y zuq) (zf (qA Y Y Y Tryz.underlying97) (zf (zh Y Y) (zo (zF ?_))))))
 refine qm (ι:={ k:Nat // k <= L.length }) (fun k=>⟨Tryz.f96.ntmps, frL [(1, .pub (.ptr (eSu L r q))), (3, I (bfH L k.1)), (7, .pub (.sl (L.map eLm))), (8, I (((L.map eLm).length:Nat):Int)), (9, I (k.1:Int))], []⟩) (fun k=>L.length - k.1) (⟨0, by omega⟩) ?_ ?_
 ·exact zy _ ⟨Y, Y, Y, Y, Y, trivial⟩ (Y)
 ·rintro ⟨k, hk⟩
  dsimp only
  refine zn (zf (qx Y Y Y) (zo (zt (zA Y (fun h0=>?_) (fun h0=>?_)))))
  ·have hlt:k < L.length:=by simpa using h0
   have hok:=zy9 hs.toSuB hlt
   have hspo:=zzh hs.toSuB hlt
   have h200:=hs.h200 k hlt
   have hgk:L.getD k sp0 = L[k]:=by simp [hlt]
   rw [hgk] at h200
   have hbk:bfH L k < L[k].h:=zzf hs.toSuB hlt
   refine zH (zk (zt (zF (zn ?_))))
   refine zf (zD Y Y Y zur (by omega) (by exact zyq hlt) zun) ?_
   refine zf (zK Y Y zuw (by exact zLb Y)) ?_
   refine qP  Y Y Y Y Y Y Y zuT zuw Y (by rfl) (zQ Y) Y ?_
   refine zo (zt (zn (zf (zi Y Y zuJ) (zf (zl Y Y Y ty3) (zf (zh Y Y) (zf (zbt Y Y Y) (zf (zh Y Y) (zC Y (fun hg=>zi Y Y zuJ) (zC Y (fun hg=>zl Y (if_pos hg) Y ty3) ?_)))))))))
   refine zC Y (fun hg=>jB Y (if_pos hg) Y) (zf (jf Y Y Y Y) (zf (zh Y Y) (zC Y (fun hg=>zi Y Y zG) (zC Y (fun hg=>zl Y (if_pos hg) Y zuo) (zC Y (fun hg=>qA Y Y (if_pos hg) Tryz.underlying106) (zC Y (fun hg=>jB Y (if_pos hg) Y) (zf (jf Y Y Y Y) (zf (zh Y Y) (zC Y (fun hg=>zi Y Y zG) (zC Y (fun hg=>zl Y (if_pos hg) Y zuo) (zC Y (fun hg=>zB (av:=[_, _]) Y ⟨((if_pos hg)), Y, trivial⟩ (f189 L[k])) ?_)))))))))))
   refine zf (jf Y Y Y Y) (zo (zA Y (fun h1=>?_) (fun h1=>?_)))
   ·exfalso; simp [hspo] at h1; omega
   ·refine zH (zk (zx (zf (zi Y Y zuJ) (zf (zl Y Y Y ty3) (zf (zg Y Y) (zM (zJ (zk (zx (zf (zW Y Y Y ⟨by omega, by omega⟩) (zf (zh Y Y) ?_)))))))))))
    refine zM ?_
    exact ⟨⟨k + 1, by omega⟩, by dsimp only; omega, zy _ ⟨Y, (congrArg I (zzs hgk).symm), Y, Y, Y, trivial⟩ (Y)⟩
  ·refine qg (zS (zS (qh (zk (zn (zf (zi Y Y zdQ) (zf (zl Y Y Y zuq) (zf (qA Y Y Y Tryz.underlying97) (zf (zB (av:=[_, _, _]) Y ⟨Y, Y, Y, trivial⟩ (f98 _ _ _)) (zf (zh Y Y) ?_))))))))))
   refine zC Y (fun hg=>zi Y Y ziE) (zC Y (fun hg=>zl Y (if_pos hg) Y ty3) (zC Y (fun hg=>zB (av:=[_, _, _]) Y ⟨((if_pos hg)), Y, Y, trivial⟩ (f98 _ _ _)) (zf (jg Y Y Y Y) (zf (zh Y Y) (zC Y (fun hg=>zi Y Y zv6) (zC Y (fun hg=>zl Y (if_pos hg) Y ty3) (zC Y (fun hg=>zB (av:=[_, _, _]) Y ⟨((if_pos hg)), Y, Y, trivial⟩ (f98 _ _ _)) (zf (jg Y Y Y Y) (zf (zh Y Y) (zC Y (fun hg=>zi Y Y zvo) (zC Y (fun hg=>zl Y (if_pos hg) Y ty3) ?_)))))))))))
   refine zC Y (fun hg=>zB (av:=[_, _, _]) Y ⟨((if_pos hg)), Y, Y, trivial⟩ (f98 _ _ _)) (zf (jg Y Y Y Y) (zf (zh Y Y) (zC Y (fun hg=>zi Y Y zvp) (zC Y (fun hg=>zl Y (if_pos hg) Y ty3) (zC Y (fun hg=>zB (av:=[_, _, _]) Y ⟨((if_pos hg)), Y, Y, trivial⟩ (f98 _ _ _)) (zf (jg Y Y Y Y) (zf (zg Y Y) (zo (zN ?_)))))))))
   exact ⟨.inr Y, AVle.of (by simp [Ct.inB]; omega)⟩
theorem f106 {L:List Sp} {r q:Int} {D:List Int} (hs:SuP L r q) (ht:TrB L r q D):ACall Tryz.prog G 106 [.agg (eSu L r q), .v (.bool true)] (Ct.ei 0):=by
 refine zO Tryz.func106 Y (by kernel_rfl) Y ?_
 refine zn (zf (ql Y (zQ Y)) (zf (zg Y Y) (zo (zt (zF (zn (zf (zK Y Y yw (by exact zLb Y)) (zf (zB (av:=[_]) Y ⟨Y, trivial⟩ (f96 hs)) ?_))))))))
 refine zf (qJ Y Y) (zf (zh Y Y) (zC Y (fun hg=>zh Y Y) (zC Y (fun hg=>qJ Y Y) ?_)))
 refine zf (yZ Y Y (fun h=>absurd h (by decide)) (fun _=>rfl)) ?_
 refine zf (zg Y Y) (zo (zA Y (fun h0=>?_) (fun h0=>?_)))
 ·exfalso; simp at h0
 ·refine zn (zf (zK Y Y yw (by exact zLb Y)) (zf (zB (av:=[_]) Y ⟨Y, trivial⟩ (f105 hs.toSuB ht)) (zf (qJ Y Y) (zf (zg Y Y) (zo (zA Y (fun h1=>?_) (fun h1=>?_)))))))
  ·exfalso; simp at h1
  ·refine zH (zJ (zk (zn (zf (zg Y Y) (zo (zN ?_))))))
   exact ⟨.inr Y, AVle.refl _⟩
theorem zy3 {L:List Sp} {r q:Int} {D:List Int} (hs:SuB L r q) (ht:TrB L r q D) (i:Nat) (hi:i < L.length) (z:Int) (hz:z = (i:Int)) (b:Bx) (hb:meet (frB L r q i) (toB L r q (L.length - 1 - i) i) = b):ACall Tryz.prog G 109 [.agg (eSu L r q), Ct.ei z, Ct.ei 0] (.agg (eBx b)):=by
 refine zO Tryz.func109 Y (by kernel_rfl) Y ?_
 refine zn (zf (ql Y (zQ Y)) (zf (ql (cs:=[_]) Y (qU Y)) (zf (ql (cs:=[_]) Y (qU Y)) (qL Y (jr Y Y zuO Y Y) (zo (zn (qL Y (jr Y Y zuO Y Y) (zM ?_))))))))
 refine zk (zn (qL Y (jr Y Y zv4 Y Y) ?_))
 refine qL Y (qw Y Y Y Y Y Y (qU Y) ty4 (by rfl) (by exact zLb Y)) ?_
 refine zo (zt (zn (zf (zK Y Y yw (by exact zLb Y)) (zf (zB (av:=[_]) Y ⟨Y, trivial⟩ (f196 L r q)) (zo (zF ?_))))))
 refine zvi (q:=[.agg (eLk L r q (sV L.length))]) [3, 4, 5, 6, 7, 8] ([.row [[I 0, I 0, I 0, I 0, I 0, I 0]], .row [[I 0, I 0, I 0, I 0, I 0, I 0]], .row [[B false]]]) ([.row [[I 0, I 0, I 0, I 0, I 0, I 0]], .row [[I b.x0, I b.x1, I b.y0, I b.y1, I b.p0, I b.p1]], .row [[B true]], .row [[I b.x0, I b.x1, I b.y0, I b.y1, I b.p0, I b.p1]]]) (True) Y (zxk hs ht) Y Y Y Y ?_ ?_
 ·intro gh lp hd1 hd2
  refine zx ?_
  refine qP  Y Y Y Y Y Y Y zvl zup Y (by rfl) (zQ Y) Y ?_
  refine zM ?_
  refine ⟨Y, Y, ?_⟩
  refine zF (zt ?_)
  refine qY zgO ?_
  refine zfD (fun _=>True) (fun k=>match k with | 0=>.stable | 1=>.stable | 2=>.stable | 3=>.stable | 4=>.stable | 5=>.stable | 6=>.stable | 7=>.stable | 8=>.stable | 9=>.stable | 10=>.own 3 | 11=>.writes | _=>.here) mixed (by kernel_rfl) rfl (by kernel_rfl) trivial ?_
  refine jv Y Y (fun m hm=>zK Y Y zup (by exact zLb Y)) (jv Y Y (fun m hm=>zl Y Y Y ty3) (jv Y Y (fun m hm=>zl Y Y Y ty3) (jv Y Y (fun m hm=>zB (av:=[_, _, _]) Y ⟨Y, Y, Y, trivial⟩ (f198 hs ht i hi z hz)) (jv Y Y (fun m hm=>zK Y Y zup (by exact zLb Y)) (jv Y Y (fun m hm=>zl Y Y Y ty3) (jv Y Y (fun m hm=>zl Y Y Y ty3) (jv Y Y (fun m hm=>zB (av:=[_, _, _]) Y ⟨Y, Y, Y, trivial⟩ (f199 hs ht (L.length - 1 - i) i (by omega) z hz)) ?_)))))))
  refine jv Y Y (fun m hm=>qy (size:=6) (rows:=[[_, _, _, _, _, _]]) Y Tryz.underlying353 zuS Y (by decide) Y (by decide) ⟨_, _, Y, (zQ Y), Y⟩ (by rfl) (by simp [ofV]) Y (by simp)) ?_
  refine jv Y Y (fun m hm=>zB (av:=[_, _]) Y ⟨Y, Y, trivial⟩ (hb ▸ f197 _ _ (zvA (zw2 ht hi)))) ?_
  refine ztC Y Y (zmH Y zuO Y Y Y) ?_
  refine zpt Y Y (zd0 Y Y Y Y Y Y (zQ Y) wX (by rfl) (by rfl)) trivial ?_
  refine zfa (zk (zt (zn (zf (zX Y Y Y Y Y Y ty4) (zf (qJ Y Y) (zo (zA Y (fun h0=>?_) (fun h0=>?_))))))))
  ·refine zx (zf (qV (cs:=[_, _, _, _, _, _]) Y Y Y Y Y (by exact zLb Y) Y wX) ?_)
   refine qL Y (qw Y Y Y Y Y Y (zQ Y) wX (by rfl) (by exact zLb Y)) ?_
   refine qL Y (qw Y Y Y Y Y Y (qU Y) ty4 (by rfl) (by exact zLb Y)) ?_
   refine zo (zn (zf (zh Y Y) (zo (zF ?_))))
   refine qm (ι:={ k:Nat // k < 4 }) (fun k=>match k.1 with | 0=>⟨NS.round Tryz.f109.ntmps gh hd2, frL [(3, .pub (.ptr (eSu L r q))), (4, .pub (.ptr [Ct.ei z])), (5, .pub (.ptr [Ct.ei 0])), (6, .pp 0 1 0 0), (7, .pp 1 1 0 0), (8, .pp 2 1 0 0), (10, .pp 3 1 0 0), (28, I 0)], [.row [[I 0, I 0, I 0, I 0, I 0, I 0]], .row [[I b.x0, I b.x1, I b.y0, I b.y1, I b.p0, I b.p1]], .row [[B true]], .row [[I b.x0, I b.x1, I b.y0, I b.y1, I b.p0, I b.p1]]]⟩ | 1=>⟨NS.round Tryz.f109.ntmps gh hd2, frL [(3, .pub (.ptr (eSu L r q))), (4, .pub (.ptr [Ct.ei z])), (5, .pub (.ptr [Ct.ei 0])), (6, .pp 0 1 0 0), (7, .pp 1 1 0 0), (8, .pp 2 1 0 0), (10, .pp 3 1 0 0), (28, I 1)], [.row [[I 0, I 0, I 0, I 0, I 0, I 0]], .row [[I (min b.x0 b.x0), I (max b.x1 b.x1), I b.y0, I b.y1, I b.p0, I b.p1]], .row [[B true]], .row [[I b.x0, I b.x1, I b.y0, I b.y1, I b.p0, I b.p1]]]⟩ | 2=>⟨NS.round Tryz.f109.ntmps gh hd2, frL [(3, .pub (.ptr (eSu L r q))), (4, .pub (.ptr [Ct.ei z])), (5, .pub (.ptr [Ct.ei 0])), (6, .pp 0 1 0 0), (7, .pp 1 1 0 0), (8, .pp 2 1 0 0), (10, .pp 3 1 0 0), (28, I 2)], [.row [[I 0, I 0, I 0, I 0, I 0, I 0]], .row [[I (min b.x0 b.x0), I (max b.x1 b.x1), I (min b.y0 b.y0), I (max b.y1 b.y1), I b.p0, I b.p1]], .row [[B true]], .row [[I b.x0, I b.x1, I b.y0, I b.y1, I b.p0, I b.p1]]]⟩ | _=>⟨NS.round Tryz.f109.ntmps gh hd2, frL [(3, .pub (.ptr (eSu L r q))), (4, .pub (.ptr [Ct.ei z])), (5, .pub (.ptr [Ct.ei 0])), (6, .pp 0 1 0 0), (7, .pp 1 1 0 0), (8, .pp 2 1 0 0), (10, .pp 3 1 0 0), (28, I 3)], [.row [[I 0, I 0, I 0, I 0, I 0, I 0]], .row [[I (min b.x0 b.x0), I (max b.x1 b.x1), I (min b.y0 b.y0), I (max b.y1 b.y1), I (min b.p0 b.p0), I (max b.p1 b.p1)]], .row [[B true]], .row [[I b.x0, I b.x1, I b.y0, I b.y1, I b.p0, I b.p1]]]⟩) (fun k=>4 - k.1) (⟨0, by omega⟩) ?_ ?_
   ·exact zy _ ⟨Y, Y, Y, Y, Y, Y, Y, Y, trivial⟩ (Y)
   ·rintro ⟨k, hk⟩
    have hk3:k = 0 ∨ k = 1 ∨ k = 2 ∨ k = 3:=by omega
    rcases hk3 with rfl | rfl | rfl | rfl
    ·dsimp only
     refine zn (zf (qx Y Y Y) (zo (zt (zA Y (fun h1=>?_) (fun h1=>?_)))))
     ·refine zH (zk (zt (zF (zn (zf (zh Y Y) (zf (zg Y Y) (zo ?_)))))))
      refine zfD (fun mm=>∃ rows, mm[1]? = some (.row rows) /\ rows.length = 1) (fun k=>match k with | 21=>.writes | _=>.here) mixed (by kernel_rfl) rfl (by kernel_rfl) ⟨_, rfl, rfl⟩ ?_
      refine znG Y Y (zh Y Y) (znG Y Y (zh Y Y) (znG Y Y (zV Y Y Y Y Y qf (by omega) (by omega)) (znG Y Y (jJ Y Y Y Y zqK) (znG Y Y (zX Y Y Y Y Y Y ty3) (znG Y Y (zh Y Y) (znG Y Y (zV Y Y Y Y Y qf (by omega) (by omega)) (znG Y Y (jJ Y Y Y Y zqK) (znG Y Y (zX Y Y Y Y Y Y ty3) (znG Y Y (zsQ Y Y Y) (znG Y Y (zh Y Y) (znG Y Y (zV Y Y Y Y Y qf (by omega) (by omega)) ?_)))))))))))
      refine znG Y Y (jJ Y Y Y Y zqc) (znG Y Y (zX Y Y Y Y Y Y ty3) (znG Y Y (zh Y Y) (znG Y Y (zV Y Y Y Y Y qf (by omega) (by omega)) (znG Y Y (jJ Y Y Y Y zqc) (znG Y Y (zX Y Y Y Y Y Y ty3) (znG Y Y (zrp Y Y Y) ?_))))))
      refine znG Y Y (yl (cs:=[_, _]) Y ztP Y ⟨_, _, Y, (qU Y), ⟨_, _, Y, (qU Y), Y⟩⟩ (by rfl) (by simp [ofV])) ?_
      refine znG Y Y (zV Y Y Y Y Y qf (by omega) (by omega)) ?_
      refine zpt Y Y (zd0 Y Y Y Y Y Y (zQ Y) zuz (by rfl) (by rfl)) ⟨_, Y, Y⟩ ?_
      refine zfa (zJ (zk (zx (zf (zW Y Y Y ⟨by omega, by omega⟩) (zf (zh Y Y) (zM ?_))))))
      exact ⟨⟨1, by omega⟩, by dsimp only; omega, (by refine zy (mem':=[.row [[I 0, I 0, I 0, I 0, I 0, I 0]], .row [[I (min b.x0 b.x0), I (max b.x1 b.x1), I b.y0, I b.y1, I b.p0, I b.p1]], .row [[B true]], .row [[I b.x0, I b.x1, I b.y0, I b.y1, I b.p0, I b.p1]]]) [(3, .pub (.ptr (eSu L r q))), (4, .pub (.ptr [Ct.ei z])), (5, .pub (.ptr [Ct.ei 0])), (6, .pp 0 1 0 0), (7, .pp 1 1 0 0), (8, .pp 2 1 0 0), (10, .pp 3 1 0 0), (28, I 1)] ?_ ?_; exact ⟨Y, Y, Y, Y, Y, Y, Y, Y, trivial⟩; exact (Y))⟩
     ·exfalso; simp at h1
    ·dsimp only
     refine zn (zf (qx Y Y Y) (zo (zt (zA Y (fun h1=>?_) (fun h1=>?_)))))
     ·refine zH (zk (zt (zF (zn (zf (zh Y Y) (zf (zg Y Y) (zo ?_)))))))
      refine zfD (fun mm=>∃ rows, mm[1]? = some (.row rows) /\ rows.length = 1) (fun k=>match k with | 21=>.writes | _=>.here) mixed (by kernel_rfl) rfl (by kernel_rfl) ⟨_, rfl, rfl⟩ ?_
      refine znG Y Y (zh Y Y) (znG Y Y (zh Y Y) (znG Y Y (zV Y Y Y Y Y qf (by omega) (by omega)) (znG Y Y (jJ Y Y Y Y zqK) (znG Y Y (zX Y Y Y Y Y Y ty3) (znG Y Y (zh Y Y) (znG Y Y (zV Y Y Y Y Y qf (by omega) (by omega)) (znG Y Y (jJ Y Y Y Y zqK) (znG Y Y (zX Y Y Y Y Y Y ty3) (znG Y Y (zsQ Y Y Y) (znG Y Y (zh Y Y) (znG Y Y (zV Y Y Y Y Y qf (by omega) (by omega)) ?_)))))))))))
      refine znG Y Y (jJ Y Y Y Y zqc) (znG Y Y (zX Y Y Y Y Y Y ty3) (znG Y Y (zh Y Y) (znG Y Y (zV Y Y Y Y Y qf (by omega) (by omega)) (znG Y Y (jJ Y Y Y Y zqc) (znG Y Y (zX Y Y Y Y Y Y ty3) (znG Y Y (zrp Y Y Y) ?_))))))
      refine znG Y Y (yl (cs:=[_, _]) Y ztP Y ⟨_, _, Y, (qU Y), ⟨_, _, Y, (qU Y), Y⟩⟩ (by rfl) (by simp [ofV])) ?_
      refine znG Y Y (zV Y Y Y Y Y qf (by omega) (by omega)) ?_
      refine zpt Y Y (zd0 Y Y Y Y Y Y (zQ Y) zuz (by rfl) (by rfl)) ⟨_, Y, Y⟩ ?_
      refine zfa (zJ (zk (zx (zf (zW Y Y Y ⟨by omega, by omega⟩) (zf (zh Y Y) (zM ?_))))))
      exact ⟨⟨2, by omega⟩, by dsimp only; omega, (by refine zy (mem':=[.row [[I 0, I 0, I 0, I 0, I 0, I 0]], .row [[I (min b.x0 b.x0), I (max b.x1 b.x1), I (min b.y0 b.y0), I (max b.y1 b.y1), I b.p0, I b.p1]], .row [[B true]], .row [[I b.x0, I b.x1, I b.y0, I b.y1, I b.p0, I b.p1]]]) [(3, .pub (.ptr (eSu L r q))), (4, .pub (.ptr [Ct.ei z])), (5, .pub (.ptr [Ct.ei 0])), (6, .pp 0 1 0 0), (7, .pp 1 1 0 0), (8, .pp 2 1 0 0), (10, .pp 3 1 0 0), (28, I 2)] ?_ ?_; exact ⟨Y, Y, Y, Y, Y, Y, Y, Y, trivial⟩; exact (Y))⟩
     ·exfalso; simp at h1
    ·dsimp only
     refine zn (zf (qx Y Y Y) (zo (zt (zA Y (fun h1=>?_) (fun h1=>?_)))))
     ·refine zH (zk (zt (zF (zn (zf (zh Y Y) (zf (zg Y Y) (zo ?_)))))))
      refine zfD (fun mm=>∃ rows, mm[1]? = some (.row rows) /\ rows.length = 1) (fun k=>match k with | 21=>.writes | _=>.here) mixed (by kernel_rfl) rfl (by kernel_rfl) ⟨_, rfl, rfl⟩ ?_
      refine znG Y Y (zh Y Y) (znG Y Y (zh Y Y) (znG Y Y (zV Y Y Y Y Y qf (by omega) (by omega)) (znG Y Y (jJ Y Y Y Y zqK) (znG Y Y (zX Y Y Y Y Y Y ty3) (znG Y Y (zh Y Y) (znG Y Y (zV Y Y Y Y Y qf (by omega) (by omega)) (znG Y Y (jJ Y Y Y Y zqK) (znG Y Y (zX Y Y Y Y Y Y ty3) (znG Y Y (zsQ Y Y Y) (znG Y Y (zh Y Y) (znG Y Y (zV Y Y Y Y Y qf (by omega) (by omega)) ?_)))))))))))
      refine znG Y Y (jJ Y Y Y Y zqc) (znG Y Y (zX Y Y Y Y Y Y ty3) (znG Y Y (zh Y Y) (znG Y Y (zV Y Y Y Y Y qf (by omega) (by omega)) (znG Y Y (jJ Y Y Y Y zqc) (znG Y Y (zX Y Y Y Y Y Y ty3) (znG Y Y (zrp Y Y Y) ?_))))))
      refine znG Y Y (yl (cs:=[_, _]) Y ztP Y ⟨_, _, Y, (qU Y), ⟨_, _, Y, (qU Y), Y⟩⟩ (by rfl) (by simp [ofV])) ?_
      refine znG Y Y (zV Y Y Y Y Y qf (by omega) (by omega)) ?_
      refine zpt Y Y (zd0 Y Y Y Y Y Y (zQ Y) zuz (by rfl) (by rfl)) ⟨_, Y, Y⟩ ?_
      refine zfa (zJ (zk (zx (zf (zW Y Y Y ⟨by omega, by omega⟩) (zf (zh Y Y) (zM ?_))))))
      exact ⟨⟨3, by omega⟩, by dsimp only; omega, (by refine zy (mem':=[.row [[I 0, I 0, I 0, I 0, I 0, I 0]], .row [[I (min b.x0 b.x0), I (max b.x1 b.x1), I (min b.y0 b.y0), I (max b.y1 b.y1), I (min b.p0 b.p0), I (max b.p1 b.p1)]], .row [[B true]], .row [[I b.x0, I b.x1, I b.y0, I b.y1, I b.p0, I b.p1]]]) [(3, .pub (.ptr (eSu L r q))), (4, .pub (.ptr [Ct.ei z])), (5, .pub (.ptr [Ct.ei 0])), (6, .pp 0 1 0 0), (7, .pp 1 1 0 0), (8, .pp 2 1 0 0), (10, .pp 3 1 0 0), (28, I 3)] ?_ ?_; exact ⟨Y, Y, Y, Y, Y, Y, Y, Y, trivial⟩; exact (Y))⟩
     ·exfalso; simp at h1
    ·dsimp only
     refine zn (zf (qx Y Y Y) (zo (zt (zA Y (fun h1=>?_) (fun h1=>?_)))))
     ·exfalso; simp at h1
     ·refine qY (zy (mem':=[.row [[I 0, I 0, I 0, I 0, I 0, I 0]], .row [[I b.x0, I b.x1, I b.y0, I b.y1, I b.p0, I b.p1]], .row [[B true]], .row [[I b.x0, I b.x1, I b.y0, I b.y1, I b.p0, I b.p1]]]) [(6, .pp 0 1 0 0), (7, .pp 1 1 0 0), (8, .pp 2 1 0 0)] ?_ ?_) ?_
      ·exact ⟨Y, Y, Y, trivial⟩
      ·exact by simp only[Int.min_self, Int.max_self]
      refine qg (zS (zS (qh (zJ ?_))))
      exact ⟨Y, trivial, zy (mem':=[.row [[I 0, I 0, I 0, I 0, I 0, I 0]], .row [[I b.x0, I b.x1, I b.y0, I b.y1, I b.p0, I b.p1]], .row [[B true]], .row [[I b.x0, I b.x1, I b.y0, I b.y1, I b.p0, I b.p1]]]) [] trivial (Y)⟩
  ·exfalso; simp at h0
 ·intro hVn
  refine zJ (zk (zn (zf (qV (cs:=[_, _, _, _, _, _]) Y Y Y Y Y (by exact zLb Y) Y wX) ?_)))
  refine qL Y (qw Y Y Y Y Y Y (zQ Y) wX (by rfl) (by exact zLb Y)) ?_
  refine zo (zN ?_)
  exact ⟨.inr Y, zcp Y (jd Y Y Y Y wX Y ⟨_, _, Y, AVle.refl _, ⟨_, _, Y, AVle.refl _, ⟨_, _, Y, AVle.refl _, ⟨_, _, Y, AVle.refl _, ⟨_, _, Y, AVle.refl _, ⟨_, _, Y, AVle.refl _, Y⟩⟩⟩⟩⟩⟩)⟩
theorem f109 {L:List Sp} {r q:Int} {D:List Int} (hs:SuB L r q) (ht:TrB L r q D) (i:Nat) (hi:i < L.length):ACall Tryz.prog G 109 [.agg (eSu L r q), Ct.ei (i:Int), Ct.ei 0] (.agg (eBx (whB L r q i))):=zy3 hs ht i hi _ rfl _ rfl
theorem f36 {L:List Sp} {r q:Int} {D:List Int} (hs:SuP L r q) (ht:TrB L r q D) (i:Nat) (hi:i < L.length):ACall Tryz.prog G 36 [.agg (eSu L r q), Ct.ei (i:Int), Ct.ei 0] (.tup [.agg (eBx (whB L r q i)), Ct.ei 0]):=by
 refine zO Tryz.func36 Y (by kernel_rfl) Y ?_
 refine zn (zf (ql Y (zQ Y)) (qL Y (jr Y Y zbX Y Y) (zf (zg Y Y) (zo (zt (zt ?_))))))
 refine qp mixed (by kernel_rfl) Y ?_
 refine zu Y (zK Y Y yw (by exact zLb Y)) (zu Y (zK Y Y yw (by exact zLb Y)) (zu Y (zh Y Y) (zu Y (zh Y Y) (zu Y (zB (av:=[_, _, _]) Y ⟨Y, Y, Y, trivial⟩ (f107 L r q hs.n4 i hi _ Y)) (zu Y (zB (av:=[_, _]) Y ⟨Y, Y, trivial⟩ (f106 hs ht)) (zu Y (zg Y Y) (qF (zk (zn (zf (zh Y Y) ?_))))))))))
 refine zf (wE Y Y Y) (zo (zA Y (fun h0=>?_) (fun h0=>?_)))
 ·exfalso; simp at h0
 ·refine zH (zk (zn (zf (zK Y Y yw (by exact zLb Y)) (zf (zh Y Y) (zf (zh Y Y) (zf (zB (av:=[_, _, _]) Y ⟨Y, Y, Y, trivial⟩ (f109 hs.toSuB ht i hi)) (zf (zB (av:=[_]) Y ⟨Y, trivial⟩ (f108 _)) ?_)))))))
  refine qL Y (qw Y Y Y Y Y Y (zQ Y) zby (by rfl) (by exact zLb Y)) ?_
  refine zf (zg Y Y) (zo (zN ?_))
  exact ⟨.inr Y, ⟨_, Y, ⟨_, _, Y, (jd Y Y Y Y zby Y (by exact ⟨_, _, Y, (AVle.refl _), ⟨_, _, Y, (AVle.refl _), ⟨_, _, Y, (AVle.refl _), ⟨_, _, Y, (AVle.refl _), ⟨_, _, Y, (AVle.refl _), ⟨_, _, Y, (AVle.refl _), Y⟩⟩⟩⟩⟩⟩)), ⟨_, _, Y, AVle.refl _, Y⟩⟩⟩⟩
theorem f104 {L:List Sp} {r q:Int} {D:List Int} (hs:SuP L r q) (ht:TrB L r q D) (i:Nat) (hi:i < L.length):ACall Tryz.prog G 104 [Ct.ei (i:Int), .ptr (eSu L r q)] (.tup [.v (.bool true), .v (.bool false)]):=by
 have h4:=hs.n4
 have hsu:([.sl (((L.map eLm).take ((i:Int) + 1).toNat).drop (0:Int).toNat), .v (.int .i64 r), .v (.int .i64 q), .v (.int .i64 0), .v (.int .i64 0)]:List AV) = eSu (L.take (i + 1)) r q:=by
  rw [show ((i:Int) + 1).toNat = i + 1 by omega, show (0:Int).toNat = 0 from rfl, List.drop_zero]; exact zw7
 refine zO Tryz.func104 Y (by kernel_rfl) Y ?_
 refine zn (zf (zg Y Y) (zf (zg Y Y) (zo (zn (zf (zK Y Y yw (by exact zLb Y)) (qL Y (jr Y Y zy1 Y Y) ?_))))))
 refine qL Y (qw Y Y Y Y Y Y (zQ Y) yw (by rfl) (by exact zLb Y)) ?_
 refine zo (zn (zf (zi Y Y zdQ) (zf (zl Y Y Y zuq) (zf (zh Y Y) (zf (zW Y Y Y ⟨by omega, by omega⟩) ?_)))))
 refine zf (zwJ Y Y Y Y zur zun (by omega) (by omega) (by simp; omega)) ?_
 refine zf (jJ Y Y Y Y zdQ) ?_
 refine qL Y (qw Y Y Y Y Y Y (zjo Y) zuq (by rfl) (by exact zLb Y)) ?_
 refine zo (zn (zf (qV (cs:=[_, _, _, _, _]) Y Y Y Y Y (by exact zLb Y) Y yw) ?_))
 refine zf (zB (av:=[_]) Y ⟨Y, trivial⟩ (by rw [hsu]; exact f105 (zx9 hs (by omega) (by omega)).toSuB (zx8 ht (by omega)))) ?_
 refine zf (qJ Y Y) (zf (zg Y Y) (zf (zg Y Y) (zo (zN ?_))))
 exact ⟨.inr Y, ⟨_, Y, ⟨_, _, Y, AVle.refl _, ⟨_, _, Y, AVle.refl _, Y⟩⟩⟩⟩
theorem f103 {L:List Sp} {r q:Int} {D:List Int} (hs:SuP L r q) (ht:TrB L r q D) (z:Int) (hz:z = (L.length:Int) - 1):ACall Tryz.prog G 103 [Ct.ei 0, Ct.ei z, .fn 104 [] [.ptr (eSu L r q)]] (.tup [.v (.bool false), Ct.ei 0, .v (.bool false)]):=by
 have h4:=hs.n4
 have hn1:=hs.n1
 refine zO Tryz.func103 Y (by kernel_rfl) Y ?_
 refine zn (zf (zg Y Y) (zf (zg Y Y) (zf (zg Y Y) (zo (zt (zn (zf (zh Y Y) (zf (zg Y Y) ?_))))))))
 refine zo (zF ?_)
 refine qm (ι:={ k:Nat // k <= L.length }) (fun k=>⟨Tryz.f103.ntmps, frL [(0, I 0), (1, I z), (2, .pub (.fn 104 [] [.ptr (eSu L r q)])), (9, I (k.1:Int))], []⟩) (fun k=>L.length - k.1) (⟨0, by omega⟩) ?_ ?_
 ·exact zy _ ⟨Y, Y, Y, Y, trivial⟩ (Y)
 ·rintro ⟨k, hk⟩
  dsimp only
  refine zt (zn (zf (zh Y Y) (zf (zh Y Y) (zf (zbt Y Y Y) (zo (zA Y (fun h0=>?_) (fun h0=>?_)))))))
  ·have hlt:k < L.length:=by simp at h0; omega
   refine zH (zk (zt (zF (zn (zf (zI Y Y) (zf (zh Y Y) (zf (vH (av:=[_]) Y Y ⟨Y, trivial⟩ (f104 hs ht k hlt)) (zf (zI Y Y) (zf (zU Y Y Y) (zf (zU Y Y Y) ?_))))))))))
   refine zf (zg Y Y) (zf (zg Y Y) (zo (zn (zf (zh Y Y) (zo (zA Y (fun h1=>?_) (fun h1=>?_)))))))
   ·exfalso; simp at h1
   ·refine zH (zJ (zk (zx (zf (zh Y Y) (zf (zW Y Y Y ⟨by omega, by omega⟩) (zf (zg Y Y) (zM ?_)))))))
    exact ⟨⟨k + 1, by omega⟩, by dsimp only; omega, zy _ ⟨Y, Y, Y, Y, trivial⟩ (Y)⟩
  ·refine qg (zS (zS (qh (zk (zn (zf (zg Y Y) (zo (zn ?_))))))))
   refine zf (zh Y Y) (zf (zg Y Y) (zf (zg Y Y) (zf (zg Y Y) (zo (zN ?_)))))
   exact ⟨.inr Y, ⟨_, Y, ⟨_, _, Y, AVle.refl _, ⟨_, _, Y, AVle.refl _, ⟨_, _, Y, AVle.refl _, Y⟩⟩⟩⟩⟩
theorem f35 {L:List Sp} {r q:Int} {D:List Int} (hs:SuP L r q) (ht:TrB L r q D):ACall Tryz.prog G 35 [.agg (eSu L r q)] (.tup [Ct.ei 0, Ct.ei 5]):=by
 have h4:=hs.n4
 have hn1:=hs.n1
 have hln:(L.map eLm).length = L.length:=by simp
 refine zO Tryz.func35 Y (by kernel_rfl) Y ?_
 refine zn (zf (ql Y (zQ Y)) (zf (zg Y Y) (zf (zg Y Y) (zo (zt (zn (zf (zK Y Y yw (by exact zLb Y)) (zf (zB (av:=[_]) Y ⟨Y, trivial⟩ (f96 hs)) ?_))))))))
 refine zf (qJ Y Y) (zo (zA Y (fun h0=>?_) (fun h0=>?_)))
 ·exfalso; simp at h0
 ·refine zH (zk (zn (zf (zi Y Y zdQ) (zf (zl Y Y Y zuq) (zf (qA Y Y Y Tryz.underlying97) (zf (vN Y Y Y ⟨by omega, by omega⟩) (zf (wC (fs:=[]) (cs:=[_]) Y Y Y) ?_)))))))
  refine zf (zB (av:=[_, _, _]) Y ⟨Y, Y, Y, trivial⟩ (f103 hs ht _ (by rw [hln]))) ?_
  refine zf (zI Y Y) (zf (zU Y Y Y) (zf (zU Y Y Y) (zf (zU Y Y Y) (zf (zg Y Y) (zf (zg Y Y) (zf (zg Y Y) (zo (zt (zn ?_)))))))))
  refine zf (zh Y Y) (zf (qJ Y Y) (zo (zA Y (fun h1=>?_) (fun h1=>?_))))
  ·refine zn (zf (zg Y Y) (zf (zg Y Y) (zo (zN (zP ?_)))))
   exact ⟨.inr Y, ⟨_, Y, ⟨_, _, Y, AVle.refl _, ⟨_, _, Y, AVle.refl _, Y⟩⟩⟩⟩
  ·exfalso; simp at h1
theorem f192 (xs:List Int) (L:List Sp) (hx:xs.length = L.length) (h4:L.length <= 4):ACall Tryz.prog G 192 [.sl (zuu xs), .sl (L.map eLm), .fn 193 [] []] (.v (.bool true)):=by
 have hln:(L.map eLm).length = L.length:=by simp
 have hxn:=zu0 xs
 refine zO Tryz.func192 Y (by kernel_rfl) Y ?_
 refine zn (zf (zg Y Y) (zo (zt (zn (zf (zI Y Y) (zf (qA Y Y Y Tryz.underlying82) (zf (zI Y Y) (zf (qA Y Y Y Tryz.underlying97) ?_))))))))
 refine zf (wE Y Y Y) (zo (zA Y (fun h0=>?_) (fun h0=>?_)))
 ·exfalso; simp at h0; omega
 ·refine zH (zk (zt (zn (zf (zI Y Y) (zf (qA Y Y Y Tryz.underlying82) (zf (zh Y Y) (zo (zF ?_))))))))
  refine qm (ι:={ k:Nat // k <= xs.length }) (fun k=>⟨Tryz.f192.ntmps, frL [(0, .pub (.sl (zuu xs))), (1, .pub (.sl (L.map eLm))), (2, .pub (.fn 193 [] [])), (15, .pub (.sl (zuu xs))), (16, I (((zuu xs).length:Nat):Int)), (17, I (k.1:Int))], []⟩) (fun k=>xs.length - k.1) (⟨0, by omega⟩) ?_ ?_
  ·exact zy _ ⟨Y, Y, Y, Y, Y, Y, trivial⟩ (Y)
  ·rintro ⟨k, hk⟩
   dsimp only
   refine zn (zf (qx Y Y Y) (zo (zt (zA Y (fun h1=>?_) (fun h1=>?_)))))
   ·have hlt:k < xs.length:=by simp at h1; omega
    refine zH (zk (zt (zF (zn (zf (zh Y Y) ?_)))))
    refine zf (zD Y Y Y zla (by omega) (by exact zuM (k:=(k:Int)) (show k < xs.length by omega) Y) zus) ?_
    refine zf (zl Y Y Y kN) (zf (zg Y Y) (zf (qG Y Y) (zo (zn (zf (zI Y Y) (zf (zh Y Y) ?_))))))
    refine zf (zD Y Y Y zur (by omega) (zvb (show k < L.length by omega) Y) zun) ?_
    refine zf (zK Y Y zuw (by exact zLb Y)) ?_
    refine qP  Y Y Y Y Y Y Y zuT zuw Y (by rfl) (zQ Y) Y ?_
    refine zo (zn (zf (zI Y Y) (zf (zI Y Y) (zf (zK Y Y zuw (by exact zLb Y)) (zf (vH (av:=[_, _]) Y Y ⟨Y, Y, trivial⟩ (f193 _ _)) (zf (qJ Y Y) (zo (zA Y (fun h2=>?_) (fun h2=>?_)))))))))
    ·exfalso; simp at h2
    ·refine zH (zJ (zk (zx (zf (zW Y Y Y ⟨by omega, by omega⟩) (zf (zh Y Y) (zM ?_))))))
     exact ⟨⟨k + 1, by omega⟩, by dsimp only; omega, zy _ ⟨Y, Y, Y, Y, Y, Y, trivial⟩ (Y)⟩
   ·refine qg (zS (zS (qh (zk (zn (zf (zg Y Y) (zo (zN ?_))))))))
    exact ⟨.inr Y, AVle.refl _⟩
theorem f97 (xs:List Int) (L:List Sp) (r q:Int) (hx:xs.length = L.length) (h4:L.length <= 4):ACall Tryz.prog G 97 [.agg (eSu L r q), .sl (zuu xs)] (.v (.bool true)):=by
 refine zO Tryz.func97 Y (by kernel_rfl) Y ?_
 refine zn (zf (ql Y (zQ Y)) (zf (zg Y Y) (zo (zn (zf (zI Y Y) (zf (zi Y Y zdQ) (zf (zl Y Y Y zuq) (zf (zB (av:=[_, _, _]) Y ⟨Y, Y, Y, trivial⟩ (f192 xs L hx h4)) ?_))))))))
 refine zf (zg Y Y) (zo (zN ?_))
 exact ⟨.inr Y, AVle.refl _⟩
end Tp
end Go.Av
end
