import Derived.Test.YtaphehlgijlfeaaGreatDoorWiX5
import Derived.Test.YtaphehlgijlfeaaGreatDoorWiW
import Derived.Test.YtaphehlgijlfeaaGreatDoorWiK
set_option linter.unusedVariables false
set_option linter.unusedSimpArgs false
section
namespace Go.Av
open Go.Proofs
set_option maxRecDepth 100000
set_option maxHeartbeats 1000000
variable {G:Glob}
theorem f41 (l:List (List (List UInt8))) (x:List Int) (hxl:x.length <= 1000) (hbd:∀ y ∈ x, 0 <= y /\ y < (l.length:Int)):ACall Tryz.prog G 41 [qO l, zO x] (qO (zuT l x)):=by
 refine zS Tryz.func41 Y (by kernel_rfl) Y ?_
 refine zuy (zh (zE8 (zn Y Y) (zo (zf (zuy (zh (zE8 (zn Y Y) (zo (zf (zuy (zuy ?_)))))))))))
 refine zh (zE8 (zn Y Y) (zo (zf (zB ?_))))
 refine qx (kG 5 Y) ?_
 refine qy (ι:={ i:Nat // i <= x.length }) (fun i=>⟨Tryz.f41.ntmps, frL [(0, .pub (qO l)), (1, .pub (zO x)), (5, .psl 0 i.1), (6, I (i.1:Int))], [.row ((x.take i.1).map fun j=>[EV.pub (jD (l.getD j.toNat []))])]⟩) (fun i=>x.length - i.1) (⟨0, Nat.zero_le _⟩) ?_ ?_
 ·
  exact zt _ ⟨Y, Y, Y, Y, trivial⟩ (Y)
 ·
  rintro ⟨i, hi⟩
  dsimp only
  refine zuy (zuy (zh (zE8 (zi Y Y) (zE8 (zq Y Y) (zE8 (zuB Y Y Tryz.underlying23) (zE8 (qi Y Y Y) (zo (zf (zx Y (fun h_0=>?_) (fun h_0=>?_))))))))))
  ·
   have hi2:i < x.length:=by simp only[decide_eq_true_eq] at h_0; omega
   have hb2:=hbd (x.getD i 0) (by simp [hi2])
   have hrow:((x.take i).map fun j=>[EV.pub (jD (l.getD j.toNat []))]) ++ [[EV.pub (jD (l.getD (x.getD i 0).toNat []))]] = ((x.take (i + 1)).map fun j=>[EV.pub (jD (l.getD j.toNat []))]):=zwY _ x 0 hi2
   have hln:((x.take i).map fun j=>[EV.pub (jD (l.getD j.toNat []))]).length = i:=by rw [List.length_map, List.length_take]; omega
   have hr1:∀ r ∈ ((x.take i).map fun j=>[EV.pub (jD (l.getD j.toNat []))]), r.length = 1:=fun r hr=>by obtain ⟨z, _, rfl⟩:=List.mem_map.1 hr; rfl
   refine zC (zf (zuy (zB (zh (zE8 (zI Y Y) (zE8 (zq Y Y) (zE8 (zq Y Y) (zE8 (zi Y Y) (zE8 (zG Y Y Y jv (by omega) (ztu (k:=i) hi2) jC) (zE8 (zA Y Y Y ty3) ?_))))))))))
   refine zE8 (zG Y Y Y zbo hb2.1 (zym hb2) (by simp)) ?_
   refine zE8 (zA Y Y Y zfC) ?_
   refine zE8 (qg (size:=1) (rows:=[[_]]) Y Tryz.underlying26 zj9 Y (by decide) Y (by decide) ⟨_, _, Y, (kQ Y), Y⟩ (by rfl) (by simp [ofV]) Y (by simp)) ?_
   refine jb Y (vS Y Y Y Y hln Y zwh hr1 (by simp) (by simp; omega) (by unfold maxLen; simp; omega)) ?_
   refine zE8 (qo Y Y) (zo (zD (zf (zh (zE8 (zi Y Y) (zE8 (zV Y Y Y ⟨(by omega), (by omega)⟩) (zE8 (zn Y Y) (zo ?_))))))))
   exact ⟨⟨i + 1, by omega⟩, by dsimp only; omega, zt _ ⟨Y, Y, Y, Y, trivial⟩ (congrArg (fun z:List (List EV)=>[PO.row z]) hrow)⟩
  ·
   have hi2:i = x.length:=by simp only[decide_eq_false_iff_not] at h_0; omega
   have hpx:((x.take i).map fun j=>[EV.pub (jD (l.getD j.toNat []))]) = ((zuT l x).map fun s=>[EV.pub (jD s)]):=by rw [hi2, List.take_length]; simp [zuT]
   refine qp (zL (zL (qw (zf (zuy (zh (zE8 (zI Y Y) (zE8 (qo Y Y) (zo (zf (zP ?_)))))))))))
   exact ⟨.inr Y, ⟨(zuT l x).map fun s=>[jD s], by show some (PO.row _) = some (PO.row _); rw [hpx, zxj], by rw [zxq, hi2], Y⟩⟩
theorem zGh {P:Program} {fr:Nat -> EV} {mem:List PO} {o:Oper} {x y:AV} (h:AVle x y) (ho:OpY P G fr mem o (.pub x)):OpY P G fr mem o (.pub y):=fun n ok bs w a hG hn hm hf K Q hK=>ho n ok bs w a hG hn hm hf K Q fun u w' hb hx=>hK u w' hb (by
 simp only[FitsE] at hx ⊢
 exact h _ _ _ hx)
theorem zFU {x y:AV} (h:AVle x y):AVle (.sl [[x]]) (.sl [[y]]):=fun ok w u hf=>by
 simp only[Fits] at hf ⊢
 obtain ⟨a, c, size, h1, h2, h3, h4, h5⟩:=hf
 refine ⟨a, c, size, h1, h2, h3, fun r hr=>?_, fun hp=>?_⟩
 ·
  rw [List.mem_singleton] at hr; subst hr
  have:=h4 [x] (List.mem_singleton.2 rfl)
  simpa using this
 ·
  obtain ⟨b, off, e1, e2, e3⟩:=h5 hp
  refine ⟨b, off, e1, e2, ?_⟩
  simp only[FitsR, FitsC] at e3 ⊢
  obtain ⟨⟨⟨v, q1, q2, q3⟩, _⟩, _⟩:=e3
  exact ⟨⟨⟨v, q1, q2, h _ _ _ q3⟩, trivial⟩, trivial⟩
def nxt (b n i:Nat):List (List Int):=((sets b n).take i).flatMap (kids b)
def zl (L:List (List Int)):List (List EV):=L.map fun q=>[EV.pub (zO q)]
theorem zFz (L:List (List Int)):(zl L).length = L.length:=List.length_map ..
theorem zFS (L:List (List Int)):∀ r ∈ zl L, r.length = 1:=fun r hr=>by obtain ⟨z, _, rfl⟩:=List.mem_map.1 hr; rfl
theorem zFV (L:List (List Int)):zl L = (L.map fun q=>[zO q]).map (·.map .pub):=by rw [List.map_map]; rfl
theorem zFO {k:Nat} (L:List (List Int)):PO.okL k (.row (zl L)):=zF0
theorem zF7 (b n:Nat):nxt b n (sets b n).length = sets b (n + 1):=by unfold nxt; rw [List.take_length]; rfl
theorem zFg {b n i:Nat} (h:i < (sets b n).length):nxt b n (i + 1) = nxt b n i ++ kids b ((sets b n).getD i []):=by
 unfold nxt
 rw [List.take_add_one, List.getElem?_eq_getElem h, List.flatMap_append]
 simp [h]
theorem zFi {b m:Nat} (hb:b <= 3) (hm:m <= 3):(sets b m).length <= 27:=by
 match b, m, hb, hm with
 | 0, 0, _, _=>decide
 | 0, 1, _, _=>decide
 | 0, 2, _, _=>decide
 | 0, 3, _, _=>decide
 | 1, 0, _, _=>decide
 | 1, 1, _, _=>decide
 | 1, 2, _, _=>decide
 | 1, 3, _, _=>decide
 | 2, 0, _, _=>decide
 | 2, 1, _, _=>decide
 | 2, 2, _, _=>decide
 | 2, 3, _, _=>decide
 | 3, 0, _, _=>decide
 | 3, 1, _, _=>decide
 | 3, 2, _, _=>decide
 | 3, 3, _, _=>decide
 | b + 4, _, h, _=>omega
 | _, m + 4, _, h=>omega
theorem zFx {α β:Type} (f:α -> List β) (L:List α) (i:Nat):((L.take i).flatMap f).length <= (L.flatMap f).length:=by
 have:L.flatMap f = (L.take i).flatMap f ++ (L.drop i).flatMap f:=by rw [← List.flatMap_append, List.take_append_drop]
 rw [this, List.length_append]; omega
theorem zFY {b n i j:Nat} (hb:b <= 3) (hn:n < 3) (hi:i < (sets b n).length) (hj:j <= (kids b ((sets b n).getD i [])).length):(nxt b n i).length + j <= 27:=by
 have h1:=zFi (m:=n + 1) hb (by omega)
 have h2:(nxt b n (i + 1)).length <= (sets b (n + 1)).length:=zFx (kids b) (sets b n) (i + 1)
 rw [zFg hi, List.length_append] at h2
 omega
theorem zFE {b n i:Nat} (hi:i < (sets b n).length):((sets b n).getD i []).length = n /\ ∀ y ∈ (sets b n).getD i [], 0 <= y /\ y < (b:Int):=by
 have hm:(sets b n).getD i [] ∈ sets b n:=by rw [List.getD_eq_getElem?_getD, List.getElem?_eq_getElem hi]; exact List.getElem_mem hi
 rw [zFh] at hm
 obtain ⟨t, ht, h1, h2⟩:=zyn.1 hm
 rw [zFh]
 simp only[List.nil_append] at ht
 rw [ht]
 exact ⟨h1, zCu (by simp [frm]) h2⟩
theorem last_at {l:List Int} {n:Nat} (h:l.length = n) (hn:0 < n):(l.map fun q=>[AV.v (.int .i64 q)])[((n:Int) - 1).toNat]? = some [ei (l.getD (n - 1) 0)]:=by
 rw [show ((n:Int) - 1).toNat = n - 1 from by omega]
 exact ztu (by omega)
theorem zFq {l:List Int} {n:Nat} (h:l.length = n) (hn:0 < n):frm l = l.getD (n - 1) 0 + 1:=by
 unfold frm
 rw [List.getLast?_eq_getElem?, h, List.getElem?_eq_getElem (by omega)]
 simp [show n - 1 < l.length by omega]
theorem zFN {l:List Int} {n:Nat} (h:l.length = n) (hn:n = 0):frm l = 0:=by
 have:l = []:=List.eq_nil_of_length_eq_zero (by omega)
 subst this; rfl
theorem zGa {b n i:Nat} (hi:i < (sets b n).length):0 <= frm ((sets b n).getD i []) /\ frm ((sets b n).getD i []) <= (b:Int):=by
 obtain ⟨h1, h2⟩:=zFE hi
 by_cases hn:n = 0
 ·
  rw [zFN h1 hn]; omega
 ·
  rw [zFq h1 (by omega)]
  have:=h2 (((sets b n).getD i []).getD (n - 1) 0) (by
   generalize (sets b n).getD i [] = q at *
   rw [List.getD_eq_getElem?_getD, List.getElem?_eq_getElem (by omega)]; exact List.getElem_mem _)
  omega
theorem zFA {b:Nat} {l:List Int} {j:Nat} (h:j < ((b:Int) - frm l).toNat):(kids b l).take j ++ [l ++ [frm l + (j:Int)]] = (kids b l).take (j + 1):=by
 rw [List.take_add_one, zAB h]; rfl
theorem zFK (l:List Int) (v:Int):((l.map fun q=>[AV.v (.int .i64 q)]).map (·.map EV.pub)) ++ [[EV.pub (.v (.int .i64 v))]] = ((l ++ [v]).map fun q=>[AV.v (.int .i64 q)]).map (·.map .pub):=by simp
theorem zGe:Tryz.prog.info? 23 = some Tryz.t23:=by kernel_rfl
theorem zFp (A:List (List Int)) (q:List Int):zl A ++ [[EV.pub (zO q)]] = zl (A ++ [q]):=by simp [zl]
theorem f98 (b m:Nat) (hb:b <= 3) (hm:m <= 3):ACall Tryz.prog G 98 [ei (b:Int), ei (m:Int)] (jc (sets b m)):=by
 refine zS Tryz.func98 Y (by kernel_rfl) Y ?_
 refine zuy (zh (zE8 (zn Y Y) (zo (zf (zuy (zh ?_))))))
 refine zE8 (zGh (zFU AVle.nil) (qg (size:=1) (rows:=[[_]]) Y Tryz.underlying30 zGe Y (by decide) Y (by decide) ⟨_, _, Y, jF Y, Y⟩ (by rfl) (by simp [ofV]) Y (by simp))) ?_
 refine zE8 (zW Y Y) (zo (zf (zuy (zuy (zh (zE8 (zn Y Y) (zo (zf (zB ?_)))))))))
 refine qy (ι:={ n:Nat // n <= m }) (fun n=>⟨Tryz.f98.ntmps, frL [(0, I (b:Int)), (1, I (m:Int)), (5, .pub (jc (sets b n.1))), (6, I (n.1:Int))], []⟩) (fun n=>m - n.1) (⟨0, Nat.zero_le _⟩) ?_ ?_
 ·
  exact zt _ ⟨Y, Y, Y, Y, trivial⟩ (Y)
 ·
  rintro ⟨n, hn⟩
  dsimp only
  refine zuy (zuy (zh (zE8 (zi Y Y) (zE8 (zi Y Y) (zE8 (qi Y Y Y) (zo (zf (zx Y (fun h_0=>?_) (fun h_0=>?_)))))))))
  ·
   have hnm2:n < m:=by simp only[decide_eq_true_eq] at h_0; omega
   have hn3:n < 3:=by omega
   have hsl:=zFi (m:=n) hb (by omega)
   refine zC (zf (zuy (zB (zuy (zh (zE8 (zn Y Y) (zo (zf (zuy (zuy (zh ?_)))))))))))
   refine zE8 (zn Y Y) (zo (zf (zB ?_)))
   refine qx (kG 7 Y) ?_
   refine qy (ι:={ i:Nat // i <= (sets b n).length }) (fun i=>⟨Tryz.f98.ntmps, frL [(0, I (b:Int)), (1, I (m:Int)), (5, .pub (jc (sets b n))), (6, I (n:Int)), (7, .psl 0 (nxt b n i.1).length), (8, I (i.1:Int))], [.row (zl (nxt b n i.1))]⟩) (fun i=>(sets b n).length - i.1) (⟨0, Nat.zero_le _⟩) ?_ ?_
   ·
    exact zt _ ⟨Y, Y, Y, Y, Y, Y, trivial⟩ (Y)
   ·
    rintro ⟨i, hi⟩
    dsimp only
    refine zuy (zuy (zh (zE8 (zi Y Y) (zE8 (zq Y Y) (zE8 (zuB Y Y Tryz.underlying30) (zE8 (qi Y Y Y) (zo (zf (zx Y (fun h_1=>?_) (fun h_1=>?_))))))))))
    ·
     have hi2:i < (sets b n).length:=by simp only[decide_eq_true_eq] at h_1; omega
     have hsa:=zFE hi2
     have hfb:=zGa hi2
     have hkl:=zCr b ((sets b n).getD i [])
     refine zC (zf (zuy (zB (zuy (zh (zE8 (zn Y Y) (zo (zf (zuy (zuy (zh ?_)))))))))))
     refine zE8 (zi Y Y) (zE8 (qR Y Y Y) (zo (zf (zx Y (fun h_2=>?_) (fun h_2=>?_)))))
     ·
      have hn0:0 < n:=by simp only[decide_eq_true_eq] at h_2; omega
      have hfr:((sets b n).getD i []).getD (n - 1) 0 + 1 = frm ((sets b n).getD i []) + ((0:Nat):Int):=by rw [zFq hsa.1 hn0]; simp
      have hgb:0 <= ((sets b n).getD i []).getD (n - 1) 0 + 1 /\ ((sets b n).getD i []).getD (n - 1) 0 + 1 <= (b:Int):=by rw [← zFq hsa.1 hn0]; exact hfb
      refine zh (zE8 (zq Y Y) (zE8 (zi Y Y) (zE8 (zG Y Y Y zea (by omega) (zdm (k:=i) hi2) kz) (zE8 (zA Y Y Y jO) (zE8 (zi Y Y) (zE8 (ze5 Y Y Y ⟨(by omega), (by omega)⟩) (zE8 (zG Y Y Y jv (by omega) (last_at hsa.1 hn0) jC) (zE8 (zA Y Y Y ty3) (zE8 (zV Y Y Y ⟨(by omega), (by omega)⟩) (zE8 (zn Y Y) (zo ?_)))))))))))
      refine zf (zuy (zh (zE8 (zi Y Y) (zE8 (zn Y Y) (zo (zf (zB ?_)))))))
      refine qy (ι:={ j:Nat // j <= (kids b ((sets b n).getD i [])).length }) (fun j=>⟨Tryz.f98.ntmps, frL [(0, I (b:Int)), (1, I (m:Int)), (5, .pub (jc (sets b n))), (6, I (n:Int)), (7, .psl 0 ((nxt b n i).length + j.1)), (8, I (i:Int)), (10, I (frm ((sets b n).getD i []) + (j.1:Int)))], [.row (zl (nxt b n i ++ (kids b ((sets b n).getD i [])).take j.1))]⟩) (fun j=>(kids b ((sets b n).getD i [])).length - j.1) (⟨0, Nat.zero_le _⟩) ?_ ?_
      ·
       exact zt _ ⟨Y, Y, Y, Y, Y, Y, (congrArg I hfr), trivial⟩ (congrArg (fun z=>[PO.row (zl z)]) (by simp))
      ·
       rintro ⟨j, hj⟩
       dsimp only
       refine zuy (zuy (zh (zE8 (zi Y Y) (zE8 (zi Y Y) (zE8 (qi Y Y Y) (zo (zf (zx Y (fun h_3=>?_) (fun h_3=>?_)))))))))
       ·
        have hjb:j < ((b:Int) - frm ((sets b n).getD i [])).toNat:=by simp only[decide_eq_true_eq] at h_3; omega
        have hbd:=zFY (j:=j + 1) hb hn3 hi2 (by omega)
        have hln:(zl (nxt b n i ++ (kids b ((sets b n).getD i [])).take j)).length = (nxt b n i).length + j:=by rw [zFz, List.length_append, List.length_take]; omega
        have hrow:zl (nxt b n i ++ (kids b ((sets b n).getD i [])).take j) ++ [[EV.pub (zO (((sets b n).getD i []) ++ [frm ((sets b n).getD i []) + (j:Int)]))]] = zl (nxt b n i ++ (kids b ((sets b n).getD i [])).take (j + 1)):=(zFp _ _).trans (congrArg zl (by rw [List.append_assoc, zFA hjb]))
        refine zC (zf (zuy (zB (zh (zE8 (zI Y Y) (zE8 (zq Y Y) (zE8 (zi Y Y) (zE8 (zG Y Y Y zea (by omega) (zdm (k:=i) hi2) kz) (zE8 (zA Y Y Y jO) ?_)))))))))
        refine jb Y (ztU Y Y Y Y Y zvE (by simp) (by rw [List.length_map, List.length_map, hsa.1]; omega) (by unfold maxLen; rw [List.length_map, List.length_map, hsa.1]; omega)) ?_
        refine zE8 (zi Y Y) ?_
        refine zE8 (qg (size:=1) (rows:=[[_]]) Y Tryz.underlying23 ti3 Y (by decide) Y (by decide) ⟨_, _, Y, (jF Y), Y⟩ (by rfl) (by simp [ofV]) Y (by simp)) ?_
        refine jb Y (vS Y Y Y Y (by simp) Y zvE (by simp) (by simp) (by rw [List.length_map, List.length_map, hsa.1]; simp; omega) (by unfold maxLen; rw [List.length_map, List.length_map, hsa.1]; simp; omega)) ?_
        refine wo (zcT (k:=1) (rows:=(((sets b n).getD i []) ++ [frm ((sets b n).getD i []) + (j:Int)]).map fun q=>[AV.v (.int .i64 q)]) [48] (congrArg (fun z=>some (PO.row z)) (zFK _ _)) (by simp) (fun d hd=>match d, hd with | _, List.Mem.head _=>rfl)) ?_
        refine zE8 (qg (size:=1) (rows:=[[_]]) Y Tryz.underlying30 zmt Y (by decide) Y (by decide) ⟨_, _, Y, (kQ Y), Y⟩ (by rfl) (by simp [ofV]) Y (by simp)) ?_
        refine jb Y (vS Y Y Y Y hln Y zo9 (zFS _) (by simp) (by simp; omega) (by unfold maxLen; simp; omega)) ?_
        refine zE8 (qo Y Y) (zo (zD (zf (zh (zE8 (zi Y Y) (zE8 (zV Y Y Y ⟨(by omega), (by omega)⟩) (zE8 (zn Y Y) (zo ?_))))))))
        exact ⟨⟨j + 1, by omega⟩, by dsimp only; omega, Weak.trans (zt (mem':=[.row (zl (nxt b n i ++ (kids b ((sets b n).getD i [])).take (j + 1))), .dead]) [(0, I (b:Int)), (1, I (m:Int)), (5, .pub (jc (sets b n))), (6, I (n:Int)), (7, .psl 0 ((nxt b n i).length + (j + 1))), (8, I (i:Int)), (10, I (frm ((sets b n).getD i []) + ((j + 1:Nat):Int)))] ⟨Y, Y, Y, Y, Y, Y, (congrArg I (by rw [Int.natCast_add, Int.natCast_one, ← Int.add_assoc])), trivial⟩ (congrArg (fun z=>[PO.row z, PO.dead]) hrow)) (vO 1 ⟨trivial, trivial, trivial, trivial, (show 0 < 1 by omega), trivial, trivial, trivial⟩ ⟨zFO _, trivial⟩)⟩
       ·
        have hjb:j = (kids b ((sets b n).getD i [])).length:=by simp only[decide_eq_false_iff_not] at h_3; omega
        have hL:(nxt b n i).length + j = (nxt b n (i + 1)).length:=by rw [zFg hi2, List.length_append, hjb]
        have hM:zl (nxt b n i ++ (kids b ((sets b n).getD i [])).take j) = zl (nxt b n (i + 1)):=by rw [zFg hi2, hjb, List.take_length]
        refine qp (zL (zL (qw (zD (zf (zh (zE8 (zi Y Y) (zE8 (zV Y Y Y ⟨(by omega), (by omega)⟩) (zE8 (zn Y Y) (zo ?_))))))))))
        exact ⟨⟨i + 1, by omega⟩, by dsimp only; omega, zt _ ⟨Y, Y, Y, Y, (congrArg (EV.psl 0) hL), Y, trivial⟩ (congrArg (fun z=>[PO.row z]) hM)⟩
     ·
      have hn0:n = 0:=by simp only[decide_eq_false_iff_not] at h_2; omega
      have hfr:(0:Int) = frm ((sets b n).getD i []) + ((0:Nat):Int):=by rw [zFN hsa.1 hn0]; rfl
      refine zC (zf (zuy (zh (zE8 (zi Y Y) (zE8 (zn Y Y) (zo (zf (zB ?_))))))))
      refine qy (ι:={ j:Nat // j <= (kids b ((sets b n).getD i [])).length }) (fun j=>⟨Tryz.f98.ntmps, frL [(0, I (b:Int)), (1, I (m:Int)), (5, .pub (jc (sets b n))), (6, I (n:Int)), (7, .psl 0 ((nxt b n i).length + j.1)), (8, I (i:Int)), (10, I (frm ((sets b n).getD i []) + (j.1:Int)))], [.row (zl (nxt b n i ++ (kids b ((sets b n).getD i [])).take j.1))]⟩) (fun j=>(kids b ((sets b n).getD i [])).length - j.1) (⟨0, Nat.zero_le _⟩) ?_ ?_
      ·
       exact zt _ ⟨Y, Y, Y, Y, Y, Y, (congrArg I hfr), trivial⟩ (congrArg (fun z=>[PO.row (zl z)]) (by simp))
      ·
       rintro ⟨j, hj⟩
       dsimp only
       refine zuy (zuy (zh (zE8 (zi Y Y) (zE8 (zi Y Y) (zE8 (qi Y Y Y) (zo (zf (zx Y (fun h_3=>?_) (fun h_3=>?_)))))))))
       ·
        have hjb:j < ((b:Int) - frm ((sets b n).getD i [])).toNat:=by simp only[decide_eq_true_eq] at h_3; omega
        have hbd:=zFY (j:=j + 1) hb hn3 hi2 (by omega)
        have hln:(zl (nxt b n i ++ (kids b ((sets b n).getD i [])).take j)).length = (nxt b n i).length + j:=by rw [zFz, List.length_append, List.length_take]; omega
        have hrow:zl (nxt b n i ++ (kids b ((sets b n).getD i [])).take j) ++ [[EV.pub (zO (((sets b n).getD i []) ++ [frm ((sets b n).getD i []) + (j:Int)]))]] = zl (nxt b n i ++ (kids b ((sets b n).getD i [])).take (j + 1)):=(zFp _ _).trans (congrArg zl (by rw [List.append_assoc, zFA hjb]))
        refine zC (zf (zuy (zB (zh (zE8 (zI Y Y) (zE8 (zq Y Y) (zE8 (zi Y Y) (zE8 (zG Y Y Y zea (by omega) (zdm (k:=i) hi2) kz) (zE8 (zA Y Y Y jO) ?_)))))))))
        refine jb Y (ztU Y Y Y Y Y zvE (by simp) (by rw [List.length_map, List.length_map, hsa.1]; omega) (by unfold maxLen; rw [List.length_map, List.length_map, hsa.1]; omega)) ?_
        refine zE8 (zi Y Y) ?_
        refine zE8 (qg (size:=1) (rows:=[[_]]) Y Tryz.underlying23 ti3 Y (by decide) Y (by decide) ⟨_, _, Y, (jF Y), Y⟩ (by rfl) (by simp [ofV]) Y (by simp)) ?_
        refine jb Y (vS Y Y Y Y (by simp) Y zvE (by simp) (by simp) (by rw [List.length_map, List.length_map, hsa.1]; simp; omega) (by unfold maxLen; rw [List.length_map, List.length_map, hsa.1]; simp; omega)) ?_
        refine wo (zcT (k:=1) (rows:=(((sets b n).getD i []) ++ [frm ((sets b n).getD i []) + (j:Int)]).map fun q=>[AV.v (.int .i64 q)]) [48] (congrArg (fun z=>some (PO.row z)) (zFK _ _)) (by simp) (fun d hd=>match d, hd with | _, List.Mem.head _=>rfl)) ?_
        refine zE8 (qg (size:=1) (rows:=[[_]]) Y Tryz.underlying30 zmt Y (by decide) Y (by decide) ⟨_, _, Y, (kQ Y), Y⟩ (by rfl) (by simp [ofV]) Y (by simp)) ?_
        refine jb Y (vS Y Y Y Y hln Y zo9 (zFS _) (by simp) (by simp; omega) (by unfold maxLen; simp; omega)) ?_
        refine zE8 (qo Y Y) (zo (zD (zf (zh (zE8 (zi Y Y) (zE8 (zV Y Y Y ⟨(by omega), (by omega)⟩) (zE8 (zn Y Y) (zo ?_))))))))
        exact ⟨⟨j + 1, by omega⟩, by dsimp only; omega, Weak.trans (zt (mem':=[.row (zl (nxt b n i ++ (kids b ((sets b n).getD i [])).take (j + 1))), .dead]) [(0, I (b:Int)), (1, I (m:Int)), (5, .pub (jc (sets b n))), (6, I (n:Int)), (7, .psl 0 ((nxt b n i).length + (j + 1))), (8, I (i:Int)), (10, I (frm ((sets b n).getD i []) + ((j + 1:Nat):Int)))] ⟨Y, Y, Y, Y, Y, Y, (congrArg I (by rw [Int.natCast_add, Int.natCast_one, ← Int.add_assoc])), trivial⟩ (congrArg (fun z=>[PO.row z, PO.dead]) hrow)) (vO 1 ⟨trivial, trivial, trivial, trivial, (show 0 < 1 by omega), trivial, trivial, trivial⟩ ⟨zFO _, trivial⟩)⟩
       ·
        have hjb:j = (kids b ((sets b n).getD i [])).length:=by simp only[decide_eq_false_iff_not] at h_3; omega
        have hL:(nxt b n i).length + j = (nxt b n (i + 1)).length:=by rw [zFg hi2, List.length_append, hjb]
        have hM:zl (nxt b n i ++ (kids b ((sets b n).getD i [])).take j) = zl (nxt b n (i + 1)):=by rw [zFg hi2, hjb, List.take_length]
        refine qp (zL (zL (qw (zD (zf (zh (zE8 (zi Y Y) (zE8 (zV Y Y Y ⟨(by omega), (by omega)⟩) (zE8 (zn Y Y) (zo ?_))))))))))
        exact ⟨⟨i + 1, by omega⟩, by dsimp only; omega, zt _ ⟨Y, Y, Y, Y, (congrArg (EV.psl 0) hL), Y, trivial⟩ (congrArg (fun z=>[PO.row z]) hM)⟩
    ·
     have hi2:i = (sets b n).length:=by simp only[decide_eq_false_iff_not] at h_1; omega
     have hR:nxt b n i = sets b (n + 1):=by rw [hi2, zF7]
     have hLL:(nxt b n i).length = (sets b (n + 1)).length:=by rw [hR]
     refine qp (zL (zL (qw (zf ?_))))
     refine qx (zt (mem':=[.row (zl (sets b (n + 1)))]) [(0, I (b:Int)), (1, I (m:Int)), (5, .pub (jc (sets b n))), (6, I (n:Int)), (7, .psl 0 (sets b (n + 1)).length)] ⟨Y, Y, Y, Y, (show EV.psl 0 (nxt b n i).length = EV.psl 0 (sets b (n + 1)).length from congrArg (EV.psl 0) hLL), trivial⟩ (congrArg (fun z=>[PO.row (zl z)]) hR)) ?_
     refine qx (zcT (k:=0) (m:=(sets b (n + 1)).length) (rows:=(sets b (n + 1)).map fun q=>[zO q]) [7] (congrArg (fun z=>some (PO.row z)) (zFV _)) (List.length_map ..) (fun d hd=>match d, hd with | _, List.Mem.head _=>rfl)) ?_
     refine zh (zE8 (zq Y Y) (zE8 (zW Y Y) (zo (zD (zf (zh (zE8 (zi Y Y) (zE8 (zV Y Y Y ⟨(by omega), (by omega)⟩) (zE8 (zn Y Y) (zo ?_))))))))))
     exact ⟨⟨n + 1, by omega⟩, by dsimp only; omega, Weak.trans (zt (mem':=[.dead]) [(0, I (b:Int)), (1, I (m:Int)), (5, .pub (jc (sets b (n + 1)))), (6, I ((n + 1:Nat):Int))] ⟨Y, Y, Y, Y, trivial⟩ Y) (vO 0 ⟨trivial, trivial, trivial, trivial, trivial⟩ trivial)⟩
  ·
   have hnm:n = m:=by simp only[decide_eq_false_iff_not] at h_0; omega
   refine qp (zL (zL (qw (zf (zuy (zh (zE8 (zq Y Y) (zE8 (zW Y Y) (zo (zf (zP ?_)))))))))))
   exact ⟨.inr Y, AVle.of (by rw [hnm])⟩
def zFB (c:Cod) (l:List (List (List UInt8))) (n:Nat):Prop:=∀ k, k <= n -> ∀ y ∈ sets l.length k, zvZ c l y = false
def zFj (c:Cod) (l:List (List (List UInt8))) (n i:Nat):Prop:=∀ k, k < i -> zvZ c l ((sets l.length n).getD k []) = false
theorem zF5 (c:Cod) (l:List (List (List UInt8))):zFB c l 0:=fun k hk y hy=>by
 have:k = 0:=by omega
 subst this
 simp only[sets, List.mem_singleton] at hy
 subst hy; rfl
theorem zF3 (c:Cod) (l:List (List (List UInt8))) (n:Nat):zFj c l n 0:=fun k hk=>absurd hk (Nat.not_lt_zero k)
theorem zFL {c:Cod} {l:List (List (List UInt8))} {n i:Nat} (h:zFj c l n i) (h2:zvZ c l ((sets l.length n).getD i []) = false):zFj c l n (i + 1):=fun k hk=>by
 by_cases e:k < i
 ·
  exact h k e
 ·
  rw [show k = i from by omega]; exact h2
theorem zFQ {c:Cod} {l:List (List (List UInt8))} {n i:Nat} (h:zFB c l n) (hi:i = (sets l.length (n + 1)).length) (h2:zFj c l (n + 1) i):zFB c l (n + 1):=fun k hk y hy=>by
 by_cases e:k <= n
 ·
  exact h k e y hy
 ·
  have:k = n + 1:=by omega
  subst this
  obtain ⟨j, hj, rfl⟩:=List.mem_iff_getElem.1 hy
  have:=h2 j (by omega)
  rwa [List.getD_eq_getElem?_getD, List.getElem?_eq_getElem hj] at this
theorem zFT (b m:Nat):∃ R, lists b = ((List.range (b + 1)).take m).flatMap (fun k=>ext b k []) ++ R:=⟨((List.range (b + 1)).drop m).flatMap (fun k=>ext b k []), by
 rw [← List.flatMap_append, List.take_append_drop]; rfl⟩
theorem zFP {c:Cod} {l:List (List (List UInt8))} {n i:Nat} (hn:n + 1 <= l.length) (h1:zFB c l n) (hi:i < (sets l.length (n + 1)).length) (h2:zFj c l (n + 1) i) (hp:zvZ c l ((sets l.length (n + 1)).getD i []) = true):(sets l.length (n + 1)).getD i [] = zw1 (zvZ c l) l.length:=by
 have at':∀ j, j < (sets l.length (n + 1)).length -> (lists l.length)[zw0 l.length (n + 1) + j]? = some ((sets l.length (n + 1)).getD j []):=fun j hj=>by
  refine zCj hn ?_
  rw [← zFh, List.getD_eq_getElem?_getD, List.getElem?_eq_getElem hj]; rfl
 refine zBv (at' i hi) hp fun idx y hidx hy=>?_
 by_cases e:idx < zw0 l.length (n + 1)
 ·
  obtain ⟨R, hR⟩:=zFT l.length (n + 1)
  rw [List.take_range, Nat.min_eq_left (by omega)] at hR
  rw [hR, List.getElem?_append_left e] at hy
  have hm:=List.mem_of_getElem? hy
  rw [List.mem_flatMap] at hm
  obtain ⟨k, hk, hy2⟩:=hm
  rw [List.mem_range] at hk
  exact h1 k (by omega) y (by rw [zFh]; exact hy2)
 ·
  have e2:idx = zw0 l.length (n + 1) + (idx - zw0 l.length (n + 1)):=by omega
  rw [e2, at' _ (by omega)] at hy
  injection hy with hy
  subst hy
  exact h2 _ (by omega)
theorem zFZ {c:Cod} {l:List (List (List UInt8))} (h:zFB c l l.length):zw1 (zvZ c l) l.length = []:=zzJ fun idx y _ hy=>by
 have hm:=List.mem_of_getElem? hy
 unfold lists at hm
 rw [List.mem_flatMap] at hm
 obtain ⟨k, hk, hy2⟩:=hm
 rw [List.mem_range] at hk
 exact h k (by omega) y (by rw [zFh]; exact hy2)
theorem zF8 {c:Cod} {l:List (List (List UInt8))} {x:List Int} (h0:0 < x.length) (h:(((kC c (zuT l x)).length:Int) == 0) = true):zvZ c l x = true:=by
 have:kC c (zuT l x) = []:=List.eq_nil_of_length_eq_zero (by simp only[beq_iff_eq] at h; omega)
 unfold zvZ
 rw [this]
 cases x with
 | nil=>simp at h0
 | cons a b=>rfl
theorem zF6 {c:Cod} {l:List (List (List UInt8))} {x:List Int} (h:(((kC c (zuT l x)).length:Int) == 0) = false):zvZ c l x = false:=by
 have:(kC c (zuT l x)).isEmpty = false:=by
  cases hm:kC c (zuT l x) with
  | nil=>rw [hm] at h; simp at h
  | cons a b=>rfl
 unfold zvZ
 rw [this, Bool.and_false]
theorem f38 (c:Cod) (l:List (List (List UInt8))) (hc:jA c = true) (h3:l.length <= 3) (hcp:∀ g ∈ l, jX c g = true):ACall Tryz.prog G 38 [.agg (qK c), qO l] (zO (zw1 (zvZ c l) l.length)):=by
 refine zS Tryz.func38 Y (by kernel_rfl) Y ?_
 refine zuy (zh (zE8 (jf Y (zY Y)) (zE8 (zn Y Y) (zo (zf (zuy (zuy (zh (zE8 (zn Y Y) (zo (zf ?_)))))))))))
 refine zB ?_
 refine qy (ι:={ n:Nat // n <= l.length /\ zFB c l n }) (fun n=>⟨Tryz.f38.ntmps, frL [(1, .pub (qO l)), (2, .pub (.ptr (qK c))), (5, I ((n.1 + 1:Nat):Int))], []⟩) (fun n=>l.length - n.1) (⟨0, ⟨Nat.zero_le _, zF5 c l⟩⟩) ?_ ?_
 ·
  exact zt _ ⟨Y, Y, Y, trivial⟩ (Y)
 ·
  rintro ⟨n, hn⟩
  dsimp only
  refine zuy (zuy (zh (zE8 (zi Y Y) (zE8 (zq Y Y) (zE8 (zuB Y Y Tryz.underlying26) (zE8 (zaq Y Y Y) (zo (zf (zx Y (fun h_0=>?_) (fun h_0=>?_))))))))))
  ·
   have hn2:n + 1 <= l.length:=by simp only[decide_eq_true_eq] at h_0; omega
   have hsl:=zFi (m:=n + 1) h3 (by omega)
   refine zC (zf (zuy (zB (zuy (zh (zE8 (zq Y Y) (zE8 (zuB Y Y Tryz.underlying26) (zE8 (zi Y Y) (zE8 (zy (av:=[_, _]) Y ⟨Y, Y, trivial⟩ (f98 l.length (n + 1) h3 (by omega))) (zE8 (zW Y Y) (zo ?_)))))))))))
   refine zf (zuy (zh (zE8 (zn Y Y) (zo (zf (zB ?_))))))
   refine qy (ι:={ i:Nat // i <= (sets l.length (n + 1)).length /\ zFj c l (n + 1) i }) (fun i=>⟨Tryz.f38.ntmps, frL [(1, .pub (qO l)), (2, .pub (.ptr (qK c))), (5, I ((n + 1:Nat):Int)), (6, .pub (jc (sets l.length (n + 1)))), (7, I (i.1:Int))], []⟩) (fun i=>(sets l.length (n + 1)).length - i.1) (⟨0, ⟨Nat.zero_le _, zF3 c l _⟩⟩) ?_ ?_
   ·
    exact zt _ ⟨Y, Y, Y, Y, Y, trivial⟩ (Y)
   ·
    rintro ⟨i, hi⟩
    dsimp only
    refine zuy (zuy (zh (zE8 (zi Y Y) (zE8 (zq Y Y) (zE8 (zuB Y Y Tryz.underlying30) (zE8 (qi Y Y Y) (zo (zf (zx Y (fun h_1=>?_) (fun h_1=>?_))))))))))
    ·
     have hi2:i < (sets l.length (n + 1)).length:=by simp only[decide_eq_true_eq] at h_1; omega
     have hsa:=zFE hi2
     have hpl:(zuT l ((sets l.length (n + 1)).getD i [])).length = n + 1:=(List.length_map ..).trans hsa.1
     have hpc:=zBM hsa.2 hcp
     have hcr:=zcb hc (by omega) hpc
     refine zC (zf (zuy (zB (zuy ?_))))
     refine qY mixed (by kernel_rfl) Y ?_
     refine zH Y (zZ Y Y wH (by exact zLb Y)) (zH Y (zq Y Y) (zH Y (zq Y Y) (zH Y (zi Y Y) (zH Y (zG Y Y Y zea (by omega) (zdm (k:=i) hi2) kz) (zH Y (zA Y Y Y jO) (zH Y (zy (av:=[_, _]) Y ⟨Y, Y, trivial⟩ (f41 l ((sets l.length (n + 1)).getD i []) (by omega) hsa.2)) (zH Y (zy (av:=[_, _]) Y ⟨Y, Y, trivial⟩ (f27 c (zuT l ((sets l.length (n + 1)).getD i [])) hc (by omega) (by omega) hpc)) (zH Y (zuB Y Y Tryz.underlying30) (zH Y (qJ Y Y Y) (jw (zf (zx Y (fun h_2=>?_) (fun h_2=>?_)))))))))))))
     ·
      have hxc:=zFP hn2 hn.2 hi2 hi.2 (zF8 (by omega) (by rw [hcr] at h_2; exact h_2))
      refine zuy (zh (zE8 (zq Y Y) (zE8 (zi Y Y) (zE8 (zG Y Y Y zea (by omega) (zdm (k:=i) hi2) kz) (zE8 (zA Y Y Y jO) (zE8 (zW Y Y) (zo (zf (zP (qF (zQ ?_)))))))))))
      refine zQ (qF (qF (zQ (zQ (qF (zQ ?_))))))
      exact ⟨.inr Y, AVle.of (congrArg zO hxc)⟩
     ·
      have hnb:=zFL hi.2 (zF6 (by rw [hcr] at h_2; exact h_2))
      refine zC (zD (zf (zh (zE8 (zi Y Y) (zE8 (zV Y Y Y ⟨(by omega), (by omega)⟩) (zE8 (zn Y Y) (zo ?_)))))))
      exact ⟨⟨i + 1, ⟨by omega, hnb⟩⟩, by dsimp only; omega, zt _ ⟨Y, Y, Y, Y, Y, trivial⟩ (Y)⟩
    ·
     have hi2:i = (sets l.length (n + 1)).length:=by have:=hi.1; simp only[decide_eq_false_iff_not] at h_1; omega
     have hnb:=zFQ hn.2 hi2 hi.2
     refine qp (zL (zL (qw (zD (zf (zh (zE8 (zi Y Y) (zE8 (zV Y Y Y ⟨(by omega), (by omega)⟩) (zE8 (zn Y Y) (zo ?_))))))))))
     exact ⟨⟨n + 1, ⟨hn2, hnb⟩⟩, by dsimp only; omega, zt _ ⟨Y, Y, Y, trivial⟩ (Y)⟩
  ·
   have hn2:n = l.length:=by have:=hn.1; simp only[decide_eq_false_iff_not] at h_0; omega
   have hcl:=zFZ (hn2 ▸ hn.2)
   refine qp (zL (zL (qw (zf (zuy (zh (zE8 (zn Y Y) (zo (zf (zP ?_))))))))))
   exact ⟨.inr Y, zEq hcl⟩
theorem zF2 {c:Cod} {l:List (List (List UInt8))} {m x:List Int} (hc:jA c = true) (hl:l.length <= 3) (hcp:∀ g ∈ l, jX c g = true) (hx:Inc l.length 0 x) (hm:m ∈ kC c l):m ∈ kC c (zuT l x):=by
 have hbd:=zCu (by omega) hx
 have hxl:=zyu (by omega) hx
 have hM:=(zc0 hc hl hcp).1 hm
 refine (zc0 hc (by simp only[zuT, List.length_map]; omega) (zBM hbd hcp)).2 ⟨hM.1, fun g hg=>?_⟩
 obtain ⟨y, hy, rfl⟩:=List.mem_map.1 hg
 have hv:y.toNat < l.length:=by have:=hbd y hy; omega
 simp only[List.getD_eq_getElem?_getD, List.getElem?_eq_getElem hv, Option.getD_some]
 exact hM.2 _ (List.getElem_mem hv)
theorem zFW {c:Cod} {l:List (List (List UInt8))} (hc:jA c = true) (hl:l.length <= 3) (hcp:∀ g ∈ l, jX c g = true) (hN:kC c l ≠ []):zw1 (zvZ c l) l.length = []:=zzJ fun i x _ hx=>by
 have hin:=zzM.1 (List.mem_of_getElem? hx)
 obtain ⟨m, hm⟩:=List.exists_mem_of_ne_nil _ hN
 have:=zF2 hc hl hcp hin hm
 unfold zvZ
 cases he:kC c (zuT l x) with
 | nil=>rw [he] at this; cases this
 | cons a b=>simp
def zFs:Nat -> Int -> List Int
 | 0, _=>[]
 | k + 1, lo=>lo :: zFs k (lo + 1)
theorem zFy {b:Nat}:∀ (k:Nat) (lo:Int), lo + (k:Int) <= (b:Int) -> Inc b lo (zFs k lo)
 | 0, _, _=>trivial
 | k + 1, lo, h=>⟨Int.le_refl _, by omega, zFy k (lo + 1) (by omega)⟩
theorem zFo (l:List (List (List UInt8))):∀ (k j:Nat), j + k <= l.length -> zuT l (zFs k (j:Int)) = (l.drop j).take k
 | 0, j, _=>by simp [zFs, zuT]
 | k + 1, j, h=>by
  have hj:j < l.length:=by omega
  have:=zFo l k (j + 1) (by omega)
  have e:((j:Int) + 1) = ((j + 1:Nat):Int):=by omega
  simp only[zuT, zFs, List.map_cons] at this ⊢
  rw [e, this, List.drop_eq_getElem_cons hj, List.take_succ_cons]
  simp [hj]
theorem zF4 {c:Cod} {l:List (List (List UInt8))} (h0:0 < l.length) (hN:kC c l = []):zw1 (zvZ c l) l.length ≠ [] /\ zvZ c l (zw1 (zvZ c l) l.length) = true /\ zw1 (zvZ c l) l.length ∈ lists l.length /\ ∀ y ∈ lists l.length, zvZ c l y = true -> y = zw1 (zvZ c l) l.length ∨ Fst (zw1 (zvZ c l) l.length) y:=by
 have hf:zFs l.length 0 ∈ lists l.length:=zzM.2 (zFy _ _ (by omega))
 have hb:zvZ c l (zFs l.length 0) = true:=by
  have hp:=zFo l l.length 0 (by omega)
  simp only[List.drop_zero, List.take_length] at hp
  unfold zvZ
  rw [show ((0:Nat):Int) = 0 from rfl] at hp
  rw [hp, hN]
  cases hl:l.length with
  | zero=>omega
  | succ k=>rfl
 unfold zw1
 simp only[zAj]
 cases hfd:(lists l.length).find? (zvZ c l) with
 | none=>exact absurd hb (by simpa using List.find?_eq_none.1 hfd _ hf)
 | some z=>
  have hz:=List.find?_some hfd
  refine ⟨?_, hz, List.mem_of_find?_eq_some hfd, fun y hy hp=>zFn (zFF _) hfd y hy hp⟩
  show z ≠ []
  intro e; subst e; simp [zvZ] at hz
theorem zF9 {c:Cod} {l:List (List (List UInt8))} (hA:yT c l ≠ 0):clE c l = yT c l /\ clR c l = []:=by
 unfold clE clR; exact ⟨if_neg hA, if_neg fun e=>hA e.1⟩
theorem zGd {c:Cod} {l:List (List (List UInt8))} (hA:yT c l = 0) (hN:kC c l ≠ []):clE c l = 5 /\ clR c l = []:=by
 unfold clE clR; rw [if_pos hA, if_neg hN]; exact ⟨rfl, if_neg fun e=>hN e.2⟩
theorem zGg {c:Cod} {l:List (List (List UInt8))} (hA:yT c l = 0) (hN:kC c l = []):clE c l = 0 /\ clR c l = zw1 (zvZ c l) l.length:=by
 unfold clE clR; rw [if_pos hA, if_pos hN]; exact ⟨rfl, if_pos ⟨hA, hN⟩⟩
theorem zGf {c:Cod} {l:List (List (List UInt8))} (hc:jA c = true) (h3:l.length <= 3) (hcp:∀ g ∈ l, jX c g = true) {L:List Int} (h:zw1 (zvZ c l) l.length = L):ACall Tryz.prog G 38 [.agg (qK c), qO l] (zO L):=h ▸ f38 c l hc h3 hcp
theorem zFX {b:Nat} {x:List Int} (h:x ∈ lists b):x.length <= b:=by have:=zyu (by omega) (zzM.1 h); omega
theorem zGc (hk:KN G) (c:Cod) (l:List (List (List UInt8))) (hA:yT c l ≠ 0) (e:Int) (hE:yT c l = e):ACall Tryz.prog G 5 [.agg (qK c), qO l] (.v (.bool true)):=by
 have W:=zF9 hA
 rw [hE] at W
 refine zS Tryz.func5 Y (by kernel_rfl) Y ?_
 refine zuy (zh (zE8 (jf Y (zY Y)) (zE8 (zn Y Y) (zo (zf (zuy (zuy (zh (zE8 (zZ Y Y wH (by exact zLb Y)) (zE8 (zy (av:=[_]) Y ⟨Y, trivial⟩ (zoc c (b:=y7 c) Y)) (zE8 (je Y Y) ?_)))))))))))
 refine zE8 (zi Y Y) (zE9 Y (fun hg=>zq Y Y) (zE9 Y (fun hg=>zy (av:=[_]) Y ⟨((if_pos hg)), trivial⟩ (f22 l)) (zE9 Y (fun hg=>je Y (if_pos hg)) (zE8 (qU Y Y Y Y) (zo (zf (zx Y (fun h_0=>?_) (fun h_0=>?_))))))))
 ·
  refine zuy (zh (zE8 (zy (av:=[]) Y trivial hk) (zE8 (zn Y Y) (zo (zf (zP (zQ ?_)))))))
  exact ⟨.inr Y, AVle.refl _⟩
 ·
  have H:=zdN h_0
  have z1:=zav H.1
  have z2:=(zb8 H.2).1
  have z3:=(zb8 H.2).2
  refine zC (zf (zuy (zh (zE8 (zZ Y Y wH (by exact zLb Y)) (zE8 (zq Y Y) (zE8 (zy (av:=[_, _]) Y ⟨Y, Y, trivial⟩ (zEy z1 z2 z3 W.2 W.1)) (zE8 (zq Y Y) (zE8 (zN Y Y Y) (zE8 (zN Y Y Y) (zE8 (zW Y Y) (zE8 (zn Y Y) ?_)))))))))))
  refine zo (zf (zuy (zuy (zh (zE8 (zZ Y Y wH (by exact zLb Y)) (zE8 (zq Y Y) (zE8 (zy (av:=[_, _]) Y ⟨Y, Y, trivial⟩ (zGb c l z1 z2 z3 hE)) (zE8 (zn Y Y) (zo (zf (zuy ?_)))))))))))
  refine zh (zE8 (zi Y Y) (zE8 (vg Y Y Y) (zo (zf (zx Y (fun h_1=>?_) (fun h_1=>?_))))))
  ·
   refine zuy (zh (zE8 (zi Y Y) (zE8 (zi Y Y) (zE8 (qJ Y Y Y) (zE8 (zi Y Y) (zE9 Y (fun hg=>zq Y Y) (zE9 Y (fun hg=>qh Y Y (if_pos hg) Tryz.underlying23) (zE9 Y (fun hg=>qJ Y (if_pos hg) Y) (zE8 (qI Y Y Y Y) (zE8 (zi Y Y) (zE9 Y (fun hg=>zy (av:=[]) Y trivial hk) ?_)))))))))))
   refine zE8 (qI Y Y Y Y) (zE8 (zn Y Y) (zo (zf (zP (zQ ?_)))))
   exact ⟨.inr Y, AVle.of (congrArg (fun x:Bool=>AV.v (Value.bool x)) (by simp))⟩
  ·
   exact absurd (by simpa using h_1) (hE ▸ hA)
theorem zGi (hk:KN G) (c:Cod) (l:List (List (List UInt8))) (hA:yT c l = 0) (hN:kC c l ≠ []):ACall Tryz.prog G 5 [.agg (qK c), qO l] (.v (.bool true)):=by
 have W:=zGd hA hN
 have hE:=hA
 obtain ⟨q1, q2, q3, q4⟩:=zh6 hA
 have hL:=zFW q1 q2 q4 hN
 refine zS Tryz.func5 Y (by kernel_rfl) Y ?_
 refine zuy (zh (zE8 (jf Y (zY Y)) (zE8 (zn Y Y) (zo (zf (zuy (zuy (zh (zE8 (zZ Y Y wH (by exact zLb Y)) (zE8 (zy (av:=[_]) Y ⟨Y, trivial⟩ (zoc c (b:=y7 c) Y)) (zE8 (je Y Y) ?_)))))))))))
 refine zE8 (zi Y Y) (zE9 Y (fun hg=>zq Y Y) (zE9 Y (fun hg=>zy (av:=[_]) Y ⟨((if_pos hg)), trivial⟩ (f22 l)) (zE9 Y (fun hg=>je Y (if_pos hg)) (zE8 (qU Y Y Y Y) (zo (zf (zx Y (fun h_0=>?_) (fun h_0=>?_))))))))
 ·
  refine zuy (zh (zE8 (zy (av:=[]) Y trivial hk) (zE8 (zn Y Y) (zo (zf (zP (zQ ?_)))))))
  exact ⟨.inr Y, AVle.refl _⟩
 ·
  have H:=zdN h_0
  have z1:=zav H.1
  have z2:=(zb8 H.2).1
  have z3:=(zb8 H.2).2
  refine zC (zf (zuy (zh (zE8 (zZ Y Y wH (by exact zLb Y)) (zE8 (zq Y Y) (zE8 (zy (av:=[_, _]) Y ⟨Y, Y, trivial⟩ (zEy z1 z2 z3 W.2 W.1)) (zE8 (zq Y Y) (zE8 (zN Y Y Y) (zE8 (zN Y Y Y) (zE8 (zW Y Y) (zE8 (zn Y Y) ?_)))))))))))
  refine zo (zf (zuy (zuy (zh (zE8 (zZ Y Y wH (by exact zLb Y)) (zE8 (zq Y Y) (zE8 (zy (av:=[_, _]) Y ⟨Y, Y, trivial⟩ (zGb c l z1 z2 z3 hE)) (zE8 (zn Y Y) (zo (zf (zuy ?_)))))))))))
  refine zh (zE8 (zi Y Y) (zE8 (vg Y Y Y) (zo (zf (zx Y (fun h_1=>?_) (fun h_1=>?_))))))
  ·
   exact absurd (show false = true from h_1) (by decide)
  ·
   refine zC (zf (zuy (zh (zE8 (zZ Y Y wH (by exact zLb Y)) (zE8 (zq Y Y) (zE8 (zy (av:=[_, _]) Y ⟨Y, Y, trivial⟩ (zGf q1 q2 q4 hL)) (zE8 (zW Y Y) (zo (zf (zuy (zuy ?_)))))))))))
   refine zh (zE8 (zq Y Y) (zE8 (qh Y Y Y Tryz.underlying23) (zE8 (qJ Y Y Y) (zo (zf (zx Y (fun h_2=>?_) (fun h_2=>?_)))))))
   ·
    refine zuy (zh (zE8 (zi Y Y) (zE8 (qJ Y Y Y) (zE8 (zi Y Y) (zE9 Y (fun hg=>zq Y Y) (zE9 Y (fun hg=>qh Y Y (Y) Tryz.underlying23) (zE9 Y (fun hg=>qJ Y (Y) Y) (zE8 (qI Y Y Y Y) (zE8 (zi Y Y) (zE9 Y (fun hg=>zy (av:=[]) Y trivial hk) (zE8 (qI Y Y Y Y) ?_)))))))))))
    refine zE8 (zn Y Y) (zo (zf (zP (zQ ?_))))
    exact ⟨.inr Y, AVle.of (by rfl)⟩
   ·
    exact absurd (show true = false from h_2) (by decide)
theorem zGj (hk:KN G) (c:Cod) (l:List (List (List UInt8))) (hA:yT c l = 0) (hN:kC c l = []) (L:List Int) (hL:zw1 (zvZ c l) l.length = L):ACall Tryz.prog G 5 [.agg (qK c), qO l] (.v (.bool true)):=by
 have W:=zGg hA hN
 have hE:=hA
 obtain ⟨q1, q2, q3, q4⟩:=zh6 hA
 have hcn:=zF4 q3 hN
 have hne:=hcn.1
 have hll:=zFX hcn.2.2.1
 rw [hL] at W hne hll
 refine zS Tryz.func5 Y (by kernel_rfl) Y ?_
 refine zuy (zh (zE8 (jf Y (zY Y)) (zE8 (zn Y Y) (zo (zf (zuy (zuy (zh (zE8 (zZ Y Y wH (by exact zLb Y)) (zE8 (zy (av:=[_]) Y ⟨Y, trivial⟩ (zoc c (b:=y7 c) Y)) (zE8 (je Y Y) ?_)))))))))))
 refine zE8 (zi Y Y) (zE9 Y (fun hg=>zq Y Y) (zE9 Y (fun hg=>zy (av:=[_]) Y ⟨((if_pos hg)), trivial⟩ (f22 l)) (zE9 Y (fun hg=>je Y (if_pos hg)) (zE8 (qU Y Y Y Y) (zo (zf (zx Y (fun h_0=>?_) (fun h_0=>?_))))))))
 ·
  refine zuy (zh (zE8 (zy (av:=[]) Y trivial hk) (zE8 (zn Y Y) (zo (zf (zP (zQ ?_)))))))
  exact ⟨.inr Y, AVle.refl _⟩
 ·
  have H:=zdN h_0
  have z1:=zav H.1
  have z2:=(zb8 H.2).1
  have z3:=(zb8 H.2).2
  refine zC (zf (zuy (zh (zE8 (zZ Y Y wH (by exact zLb Y)) (zE8 (zq Y Y) (zE8 (zy (av:=[_, _]) Y ⟨Y, Y, trivial⟩ (zEy z1 z2 z3 W.2 W.1)) (zE8 (zq Y Y) (zE8 (zN Y Y Y) (zE8 (zN Y Y Y) (zE8 (zW Y Y) (zE8 (zn Y Y) ?_)))))))))))
  refine zo (zf (zuy (zuy (zh (zE8 (zZ Y Y wH (by exact zLb Y)) (zE8 (zq Y Y) (zE8 (zy (av:=[_, _]) Y ⟨Y, Y, trivial⟩ (zGb c l z1 z2 z3 hE)) (zE8 (zn Y Y) (zo (zf (zuy ?_)))))))))))
  refine zh (zE8 (zi Y Y) (zE8 (vg Y Y Y) (zo (zf (zx Y (fun h_1=>?_) (fun h_1=>?_))))))
  ·
   exact absurd (show false = true from h_1) (by decide)
  ·
   refine zC (zf (zuy (zh (zE8 (zZ Y Y wH (by exact zLb Y)) (zE8 (zq Y Y) (zE8 (zy (av:=[_, _]) Y ⟨Y, Y, trivial⟩ (zGf q1 q2 q4 hL)) (zE8 (zW Y Y) (zo (zf (zuy (zuy ?_)))))))))))
   refine zh (zE8 (zq Y Y) (zE8 (zuB Y Y Tryz.underlying23) (zE8 (qJ Y Y Y) (zo (zf (zx Y (fun h_2=>?_) (fun h_2=>?_)))))))
   ·
    exfalso; simp at h_2; exact hne h_2
   ·
    refine zC (zf (zuy (zh (zE8 (zi Y Y) (zE8 (qJ Y Y Y) (zE8 (zi Y Y) (zE9 Y (fun hg=>zq Y Y) (zE9 Y (fun hg=>zq Y Y) (zE9 Y (fun hg=>zy (av:=[_, _]) Y ⟨(Y), (Y), trivial⟩ (zr7 _ (by omega))) (zE8 (qI Y Y Y Y) (zE8 (zi Y Y) ?_)))))))))))
    refine zE9 Y (fun hg=>zy (av:=[]) Y trivial hk) (zE8 (qI Y Y Y Y) (zE8 (zn Y Y) (zo (zf (zP ?_)))))
    exact ⟨.inr Y, AVle.of (by rfl)⟩
theorem f5 (hk:KN G) (c:Cod) (l:List (List (List UInt8))):ACall Tryz.prog G 5 [.agg (qK c), qO l] (.v (.bool true)):=by
 by_cases hA:yT c l = 0
 ·
  by_cases hN:kC c l = []
  ·
   exact zGj hk c l hA hN _ Y
  ·
   exact zGi hk c l hA hN
 ·
  exact zGc hk c l hA _ Y
end Go.Av
end
