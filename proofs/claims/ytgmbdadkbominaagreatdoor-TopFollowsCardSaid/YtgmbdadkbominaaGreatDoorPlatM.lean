import Derived.Test.YtgmbdadkbominaaGreatDoorPlatH
import Derived.Test.YtgmbdadkbominaaGreatDoorPlatJ
import Derived.Shelf.SlSortCmp.Whole1
import Derived.Laws.AppendOwn
set_option linter.unusedVariables false
set_option linter.unusedSimpArgs false
section
namespace Go.Av
open Go.RowKit Go.Proofs
def zyP (w:World) (a:Option Addr) (m:List Int):Prop:=m.length <= maxLen /\ (0 < m.length -> ∃ b off, a = some ⟨b, off, none⟩ /\ ∀ j (h:j < m.length), w.cell? ⟨b, off + j, none⟩ = some (.int .i64 m[j]))
def nums (m:List Int):AV:=.sl (m.map fun n=>[AV.v (.int .i64 n)])
section
variable {P:Program} {G:Glob} {st:ASt} {o:Oper}
theorem zdY {ok:Nat -> Prop} {w:World} {m:List Int} {u:Value} (h:Fits ok w (nums m) u):∃ (a:Option Addr) (c:Nat), u = .slice a m.length c /\ zyP w a m /\ (0 < m.length -> ∃ b off, a = some ⟨b, off, none⟩ /\ ok b):=by
 unfold nums at h
 simp only[Fits, List.length_map] at h
 obtain ⟨a, c, size, e, h1, h2, h3, h4⟩:=h
 refine ⟨a, c, e, ⟨Nat.le_trans h1 h2, fun hn=>?_⟩, fun hn=>?_⟩
 ·obtain ⟨b, off, ea, hb, hr⟩:=h4 hn
  refine ⟨b, off, ea, fun j hj=>?_⟩
  have hsz:size = 1:=by
   have:=h3 [AV.v (.int .i64 m[0])] (List.mem_map.2 ⟨m[0], List.getElem_mem hn, rfl⟩)
   simpa using this.symm
  subst hsz
  have:=FitsR.get (i:=j) (r:=[AV.v (.int .i64 m[j])]) hr h3 (by simp [hj])
  simp only[FitsC, Fits, Nat.mul_one] at this
  obtain ⟨⟨u, h5, _, h6, _⟩, _⟩:=this
  rw [h5, h6]
 ·obtain ⟨b, off, ea, hb, hr⟩:=h4 hn
  exact ⟨b, off, ea, hb⟩
end
end Go.Av
end
section
namespace Go.Av
open Go.RowKit Go.Proofs
def znz (P:Program) (f:FuncId) (args:List AV) (r:AV):Prop:=
 Enters P f /\ ∀ (w:World) (vs:List Value), FitsL (fun b=>b < w.heap.size) w args vs -> Calls P f vs.toArray w fun e w'=>∃ u, e = .returned u /\ Below w.heap.size w w' /\ Fits (fun b=>w.heap.size <= b /\ b < w'.heap.size) w' r u
section
variable {P:Program} {G:Glob} {fr:Nat -> EV} {mem:List PO} {o:Oper}
theorem zpM {args:Array Operand} {tys:Array TypeId} {f:FuncId} {av:List AV} {r:AV} (ho:o.op = .call { callee:=.value (.func f), args:=args, argTypes:=tys })
  (hav:zlM mem fr args.toList av) (hc:znz P f av r):OpY P G fr mem o (.pub r):=by
 intro n ok bs w a hG hn hm hfit K Q hK
 have hl:av.length = args.size:=by simpa using (xA hav).1
 have h4:FitsL (fun b=>b < w.heap.size) w av (args.toList.map a.eval):=FitsL.of_get (by simp [hl]) fun i x u hx hu=>by
  have hi:i < args.size:=by have:=(zLg hx).1; omega
  have hy:args[i]? = some args[i]:=Array.getElem?_eq_getElem hi
  have hv:=(xA hav).2 i args[i] x (by simp) hx
  have hu':u = a.eval args[i]:=by
   simp [hi] at hu
   exact hu.symm
  rw [hu']
  exact ze1 hm (fun b hb=>hm.lt b hb) (fun b _ hb=>hb) (hfit _ (by simp only[ho, Op.operands, Call.operands, Array.mem_append]; exact .inr (Array.getElem_mem hi))) hv
 unfold Oper.wp
 rw [call_exec (us:=[]) (vs:=[]) ho hc.1 rfl]
 simp only[Oper.upon]
 refine (hc.2 w _ (by simpa using h4)).mono fun en w' ⟨u, h5, h6, h7⟩=>?_
 subst h5
 refine hK u w' h6 ?_
 simp only[FitsE]
 exact h7.mono (fun b hb=>.inr hb) (fun _ _=>rfl)
theorem zg9 {w w':World} {T:TypeId} {v:Value} {m:List Int} (h:w'.ownsRow w.heap.size T 1 v m.length (m.map (Value.int .i64))) (hm:m.length <= maxLen):Fits (fun b=>w.heap.size <= b /\ b < w'.heap.size) w' (nums m) v:=by
 unfold nums
 simp only[Fits, List.length_map]
 obtain ⟨_, ⟨rfl, h0⟩ | ⟨g, cap, cur, rfl, h1, h2, h3, h4, h5, h6⟩⟩:=h
 ·exact ⟨none, 0, 1, by rw [h0], by omega, by unfold maxLen; omega, by simp, fun hn=>by omega⟩
 ·refine ⟨_, cap, 1, rfl, h3, h4, by simp, fun hn=>⟨g, 0, rfl, ⟨h1, (Array.getElem?_eq_some_iff.1 h2).1⟩, FitsR.of_get (size:=1) (by simp) fun i r hr=>?_⟩⟩
  have hi:i < m.length:=by have:=(zLg hr).1; simpa using this
  have e:r = [AV.v (.int .i64 m[i])]:=by
   rw [List.getElem?_map, List.getElem?_eq_getElem hi] at hr
   simpa using hr.symm
  subst e
  simp only[FitsC, Fits, and_true]
  refine ⟨.int .i64 m[i], ?_, rfl, rfl, rfl⟩
  have h7:(cur.toList.take (m.length * 1))[i]? = some (.int .i64 m[i]):=by rw [h6]; simp [hi]
  rw [List.getElem?_take, if_pos (by omega)] at h7
  simp only[World.cell?, h2, Nat.zero_add, Nat.mul_one]
  simpa using h7
theorem zoL {f:FuncId} {T:TypeId} (he:Enters P f)
  (h1:∀ (b off n c:Nat) (zs:List Int) (w:World), n <= zs.length -> n * 8 <= 140737488355328 -> (∀ j, j < zs.length -> w.cell? ⟨b, off + j, none⟩ = some (.int .i64 (zs.getD j 0))) ->
   Calls P f #[.slice (some ⟨b, off, none⟩) n c] w fun e w'=>∃ v', e = .returned v' /\ w'.ownsRow w.heap.size T 1 v' n ((zs.take n).map (Value.int .i64)) /\ v' ≠ .slice none 0 0 /\ Below w.heap.size w w')
  (h2:∀ (a:Addr) (c:Nat) (w:World), Calls P f #[.slice (some a) 0 c] w fun e w'=>∃ v', e = .returned v' /\ w'.ownsRow w.heap.size T 1 v' 0 [] /\ v' ≠ .slice none 0 0 /\ Below w.heap.size w w')
  (h3:∀ (n c:Nat) (w:World), Calls P f #[.slice none n c] w fun e w'=>e = .returned (.slice none 0 0) /\ w' = w) (m:List Int) (hm:m.length <= 1000000):znz P f [nums m] (nums m):=by
 refine ⟨he, fun w vs hf=>?_⟩
 simp only[FitsL] at hf
 obtain ⟨u, us, rfl, hu, rfl⟩:=hf
 obtain ⟨a, c, rfl, hh, _⟩:=zdY hu
 have hml:m.length <= maxLen:=hh.1
 cases m with
 | nil=>
  cases a with
  | none=>exact (h3 0 c w).mono fun e w' ⟨e1, e2⟩=>⟨_, e1, e2 ▸ Below.refl _ _, by
    unfold nums; simp only[Fits]; exact ⟨none, 0, 1, rfl, by simp, by unfold maxLen; omega, by simp, fun hn=>absurd hn (by simp)⟩⟩
  | some a=>exact (h2 a c w).mono fun e w' ⟨v, e1, e2, _, e3⟩=>⟨v, e1, e3, zg9 (m:=[]) e2 (by simp)⟩
 | cons x m=>
  obtain ⟨b, off, rfl, hc⟩:=hh.2 (by simp)
  exact (h1 b off _ c (x :: m) w (Nat.le_refl _) (by simp only[List.length_cons] at *; omega) (fun j hj=>by rw [hc j hj]; simp [List.getD_eq_getElem?_getD, List.getElem?_eq_getElem hj])).mono fun e w' ⟨v, e1, e2, _, e3⟩=>⟨v, e1, e3, zg9 (m:=x :: m) (by rwa [List.take_of_length_le (Nat.le_refl _)] at e2) hml⟩
end
end Go.Av
end
