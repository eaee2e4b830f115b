import Derived.Test.YtdjncbjfejdamaaGreatDoorChLJ
import Derived.Test.YtdjncbjfejdamaaGreatDoorChN
import Derived.Test.YtdjncbjfejdamaaGreatDoorPlatV
import Derived.Test.YtdjncbjfejdamaaGreatDoorChLF
set_option linter.unusedVariables false
set_option linter.unusedSimpArgs false
section
namespace Go.Av
open Go.Proofs
set_option maxRecDepth 100000
set_option maxHeartbeats 1000000
variable {G:Glob}
def zK1 (w r:Nat):List (List AV):=(wP w r).map fun p=>[.agg (eP4 w p)]
theorem zN2 {w r k:Nat} (hk:k < w * r) (hb:zIN w r k = true):(zK1 w r)[zfo (zIN w r) k]? = some [.agg (eP4 w k)]:=by
 unfold zK1 wP
 rw [List.getElem?_map, zmZ hk hb]
 rfl
theorem zNv {w r:Nat}:(zK1 w r).length = zfo (zIN w r) (w * r):=by simp [zK1, wP, zfo]
theorem cellB_int {w r k:Nat}:(decide ((k:Int) % (w:Int) < (w:Int) - 1) && decide ((k:Int) / (w:Int) < (r:Int) - 1)) = zIN w r k:=by
 unfold zIN
 have e1:((k:Int) % (w:Int)) = ((k % w:Nat):Int):=by simp
 have e2:((k:Int) / (w:Int)) = ((k / w:Nat):Int):=by simp
 rw [e1, e2, Bool.eq_iff_iff]
 simp only[zLa, decide_eq_true_eq]
 omega
theorem zuK {P:Program} {G:Glob} {fr:Nat -> EV} {mem:List PO} {o:Oper} {x y:Bool} (h:x = y) (ho:OpY P G fr mem o (B x)):OpY P G fr mem o (B y):=h ▸ ho
theorem zRN (w r:Nat) (hw:1 <= w /\ w <= 6) (hr:1 <= r /\ r <= 5):zlr Tryz.prog G 73 [.agg (zId (w:Int) (r:Int))] [] (zK1 w r):=by
 have har:=zKu hw.2 hr.2
 have hN:(w:Int) * (r:Int) = ((w * r:Nat):Int):=(Int.natCast_mul w r).symm
 obtain ⟨N, hNe⟩:∃ N, N = w * r:=⟨_, rfl⟩
 rw [← hNe] at hN har
 refine zp5 (qs:=(zK1 w r)) Tryz.func73 rfl (by kernel_rfl) rfl rfl (fun C hC=>?_)
 refine zcv ?_
 refine zgy ?_
 refine zh ?_
 refine zg rfl rfl (jf rfl (zY rfl)) ?_
 refine zo ?_
 refine vT ?_
 refine zcv ?_
 refine zgy ?_
 refine zh ?_
 refine zg rfl rfl (zu rfl rfl zIp) ?_
 refine zg rfl rfl (zA rfl rfl rfl ty3) ?_
 refine zg rfl rfl (zu rfl rfl zJ3) ?_
 refine zg rfl rfl (zA rfl rfl rfl ty3) ?_
 refine zg rfl rfl (zcY rfl rfl rfl ⟨(by omega), (by omega)⟩) ?_
 refine zg rfl rfl (zi rfl rfl) ?_
 refine zo ?_
 refine vT ?_
 refine ziI ?_
 refine zp1 (ι:={ k:Nat // k <= N }) (fun k=>⟨Tryz.f73.ntmps, frL [(1, .pub (.v (.func (.yield C.l) #[] #[]))), (2, .pub (.ptr (zId (w:Int) (r:Int)))), (9, I (N:Int)), (10, I (k.1:Int))], []⟩) (fun k=>.on (zfo (zIN w r) k.1)) (fun k=>N - k.1) (⟨0, by omega⟩) rfl ?_ ?_
 ·
  exact zt _ ⟨rfl, rfl, (congrArg I hN), rfl, trivial⟩ (rfl)
 ·
  rintro ⟨k, hk⟩
  dsimp only
  refine zcv ?_
  refine zgy ?_
  refine zh ?_
  refine zg rfl rfl (zUB rfl rfl rfl) ?_
  refine zo ?_
  refine vT ?_
  refine zcv ?_
  refine zes rfl (fun h0=>?_) (fun h0=>?_)
  ·
   have hlt:k < N:=by simp at h0; omega
   refine zhp ?_
   refine vT ?_
   refine zcv ?_
   refine ziI ?_
   refine zcv ?_
   refine zgy ?_
   refine zh ?_
   refine zg rfl rfl (zi rfl rfl) ?_
   refine zg rfl rfl (zn rfl rfl) ?_
   refine zo ?_
   refine vT ?_
   refine zcv ?_
   cases hb:zIN w r k with
   | false=>
    refine zgy ?_
    refine qY mixed (by kernel_rfl) rfl ?_
    refine zH rfl (zZ rfl rfl zIO (by exact zLb rfl)) ?_
    refine zH rfl (zi rfl rfl) ?_
    refine zH rfl (zy (av:=[_, _]) rfl ⟨rfl, rfl, trivial⟩ (f121 (w:Int) (r:Int) (k:Int) (by omega) (by omega))) ?_
    refine zH rfl (zu rfl rfl zIp) ?_
    refine zH rfl (zA rfl rfl rfl ty3) ?_
    refine zH rfl (ze5 rfl rfl rfl ⟨(by omega), (by omega)⟩) ?_
    refine zH rfl (zUB rfl rfl rfl) ?_
    refine zH rfl (zi rfl rfl) ?_
    refine jm rfl (fun hg=>zZ rfl rfl zIO (by exact zLb rfl)) ?_
    refine jm rfl (fun hg=>zi rfl rfl) ?_
    refine jm rfl (fun hg=>zy (av:=[_, _]) rfl ⟨(by exact if_pos hg), (by exact if_pos hg), trivial⟩ (f120 (w:Int) (r:Int) (k:Int) (by omega) (by omega))) ?_
    refine jm rfl (fun hg=>zu rfl rfl zJ3) ?_
    refine jm rfl (fun hg=>zA rfl (if_pos hg) rfl ty3) ?_
    refine jm rfl (fun hg=>ze5 rfl (if_pos hg) rfl ⟨(by first | omega | (simp at hg; omega)), (by first | omega | (simp at hg; omega))⟩) ?_
    refine jm rfl (fun hg=>zUB rfl (if_pos hg) (if_pos hg)) ?_
    refine zH rfl (zuK (cellB_int.trans hb) (qI rfl rfl rfl rfl)) ?_
    refine zH rfl (zi rfl rfl) ?_
    refine jm (c:=false) (x:=.pub .top) rfl (fun h=>absurd h (by decide)) ?_
    refine jm (c:=false) (x:=.pub .top) rfl (fun h=>absurd h (by decide)) ?_
    refine jm (c:=false) (x:=.pub .top) rfl (fun h=>absurd h (by decide)) ?_
    refine jm (c:=false) (x:=.pub .top) rfl (fun h=>absurd h (by decide)) ?_
    refine jm (c:=false) (x:=.pub .top) rfl (fun h=>absurd h (by decide)) ?_
    refine jm (c:=false) (x:=.pub .top) rfl (fun h=>absurd h (by decide)) ?_
    refine jm (c:=false) (x:=.pub .top) rfl (fun h=>absurd h (by decide)) ?_
    refine jm (c:=false) (x:=.pub .top) rfl (fun h=>absurd h (by decide)) ?_
    refine jm (c:=false) (x:=.pub .top) rfl (fun h=>absurd h (by decide)) ?_
    refine jm (c:=false) (x:=.pub .top) rfl (fun h=>absurd h (by decide)) ?_
    refine jm (c:=false) (x:=.pub .top) rfl (fun h=>absurd h (by decide)) ?_
    refine jm (c:=false) (x:=.pub .top) rfl (fun h=>absurd h (by decide)) ?_
    refine jm (c:=false) (x:=.pub .top) rfl (fun h=>absurd h (by decide)) ?_
    refine jm (c:=false) (x:=.pub .top) rfl (fun h=>absurd h (by decide)) ?_
    refine jm (c:=false) (x:=.pub .top) rfl (fun h=>absurd h (by decide)) ?_
    refine jm (c:=false) (x:=.pub .top) rfl (fun h=>absurd h (by decide)) ?_
    refine zH rfl (zU rfl rfl (fun h=>absurd h (by decide)) (fun _=>rfl)) ?_
    refine jw ?_
    refine vT ?_
    refine zes (b:=false) rfl (fun h=>absurd h (by decide)) (fun _=>?_)
    refine zhp ?_
    refine zgg ?_
    refine vT ?_
    refine zgy ?_
    refine zh ?_
    refine zg rfl rfl (zV rfl rfl rfl ⟨(by omega), (by omega)⟩) ?_
    refine zg rfl rfl (zi rfl rfl) ?_
    refine zo ?_
    exact ⟨⟨k + 1, by omega⟩, by dsimp only; omega, by simp only[zgP, hb]; rfl, zt _ ⟨rfl, rfl, rfl, rfl, trivial⟩ rfl⟩
   | true=>
    refine zN3 31 40 rfl mixed (by kernel_rfl) (by kernel_rfl) (by kernel_rfl) (by kernel_rfl) rfl ?_
    refine zH rfl (zZ rfl rfl zIO (by exact zLb rfl)) ?_
    refine zH rfl (zi rfl rfl) ?_
    refine zH rfl (zy (av:=[_, _]) rfl ⟨rfl, rfl, trivial⟩ (f121 (w:Int) (r:Int) (k:Int) (by omega) (by omega))) ?_
    refine zH rfl (zu rfl rfl zIp) ?_
    refine zH rfl (zA rfl rfl rfl ty3) ?_
    refine zH rfl (ze5 rfl rfl rfl ⟨(by omega), (by omega)⟩) ?_
    refine zH rfl (zUB rfl rfl rfl) ?_
    refine zH rfl (zi rfl rfl) ?_
    refine jm rfl (fun hg=>zZ rfl rfl zIO (by exact zLb rfl)) ?_
    refine jm rfl (fun hg=>zi rfl rfl) ?_
    refine jm rfl (fun hg=>zy (av:=[_, _]) rfl ⟨(by exact if_pos hg), (by exact if_pos hg), trivial⟩ (f120 (w:Int) (r:Int) (k:Int) (by omega) (by omega))) ?_
    refine jm rfl (fun hg=>zu rfl rfl zJ3) ?_
    refine jm rfl (fun hg=>zA rfl (if_pos hg) rfl ty3) ?_
    refine jm rfl (fun hg=>ze5 rfl (if_pos hg) rfl ⟨(by first | omega | (simp at hg; omega)), (by first | omega | (simp at hg; omega))⟩) ?_
    refine jm rfl (fun hg=>zUB rfl (if_pos hg) (if_pos hg)) ?_
    refine zH rfl (zuK (cellB_int.trans hb) (qI rfl rfl rfl rfl)) ?_
    refine zH rfl (zi rfl rfl) ?_
    refine jm rfl (fun hg=>zi rfl rfl) ?_
    refine jm rfl (fun hg=>zi rfl rfl) ?_
    refine jm rfl (fun hg=>zi rfl rfl) ?_
    refine jm rfl (fun hg=>zV rfl (rfl) rfl ⟨(by first | omega | (simp at hg; omega)), (by first | omega | (simp at hg; omega))⟩) ?_
    refine jm rfl (fun hg=>zi rfl rfl) ?_
    refine jm rfl (fun hg=>zu rfl rfl zIp) ?_
    refine jm rfl (fun hg=>zA rfl (rfl) rfl ty3) ?_
    refine jm rfl (fun hg=>zV rfl (rfl) (rfl) ⟨(by first | omega | (simp at hg; omega)), (by first | omega | (simp at hg; omega))⟩) ?_
    refine jm rfl (fun hg=>zi rfl rfl) ?_
    refine jm rfl (fun hg=>zu rfl rfl zIp) ?_
    refine jm rfl (fun hg=>zA rfl (rfl) rfl ty3) ?_
    refine jm rfl (fun hg=>zV rfl (rfl) (rfl) ⟨(by first | omega | (simp at hg; omega)), (by first | omega | (simp at hg; omega))⟩) ?_
    refine jm rfl (fun hg=>zV rfl (rfl) rfl ⟨(by first | omega | (simp at hg; omega)), (by first | omega | (simp at hg; omega))⟩) ?_
    refine jm rfl (fun hg=>znx (cs:=[_, _, _, _]) rfl zPW rfl ⟨_, _, rfl, jF rfl, ⟨_, _, rfl, jF rfl, ⟨_, _, rfl, jF rfl, ⟨_, _, rfl, jF rfl, rfl⟩⟩⟩⟩ (by rfl) (by simp [ofV])) ?_
    refine jw ?_
    refine zi6 (q:=[.agg (eP4 w k)]) (c:=true) rfl rfl rfl rfl (fun _=>rfl) (fun _=>rfl) (fun _=>by rw [hC]; exact zN2 (by omega) hb) rfl rfl rfl rfl rfl (fun h=>absurd h (by decide)) (fun _=>?_) (fun _=>?_)
    ·
     refine yR (c:=true) rfl rfl rfl (fun _=>je rfl rfl) ?_
     refine zjW rfl rfl (zU rfl rfl (fun _=>rfl) (fun h=>absurd h (by decide))) ?_
     refine zkH ?_
     refine vT ?_
     refine zes (b:=false) rfl (fun h=>absurd h (by decide)) (fun _=>?_)
     refine zhp ?_
     refine zgg ?_
     refine vT ?_
     refine zgy ?_
     refine zh ?_
     refine zg rfl rfl (zV rfl rfl rfl ⟨(by omega), (by omega)⟩) ?_
     refine zg rfl rfl (zi rfl rfl) ?_
     refine zo ?_
     exact ⟨⟨k + 1, by omega⟩, by dsimp only; omega, by simp only[zgP, hb]; rfl, zt _ ⟨rfl, rfl, rfl, rfl, trivial⟩ rfl⟩
    ·
     refine yR (c:=true) rfl rfl rfl (fun _=>je rfl rfl) ?_
     refine zjW rfl rfl (zU rfl rfl (fun _=>rfl) (fun h=>absurd h (by decide))) ?_
     refine zkH ?_
     refine vT ?_
     refine zes (b:=true) rfl (fun _=>?_) (fun h=>absurd h (by decide))
     refine zrT ?_
     refine zo1 ?_
     refine zoe ?_
     refine zoe ?_
     refine zo1 ?_
     exact ⟨.inr rfl, rfl, .inr ⟨_, rfl⟩⟩
  ·
   have hge:N <= k:=by simp at h0; omega
   refine zpr ?_
   refine zlv ?_
   refine zlv ?_
   refine zqj ?_
   exact ⟨.inl rfl, rfl, .inl (by rw [zNv, ← hNe, show N = k from by omega])⟩
end Go.Av
end
section
namespace Go.Av
open Go.Proofs
set_option maxRecDepth 100000
set_option maxHeartbeats 1000000
variable {G:Glob}
def zKC (mt:List Cr):List (Cr × EV):=mt.map fun c=>(c, B true)
def zNk (mt:List Cr):PO:=zlS zHG (zKC mt)
theorem zR2 (c:Cr):∀ mt:List Cr, zHu c (.pub (ofV (.bool false))) (zKC mt) = B (mt.contains c)
 | []=>rfl
 | x :: mt=>by
  show (if x = c then B true else zHu c (.pub (ofV (.bool false))) (zKC mt)) = _
  rw [zR2 c mt, List.contains_cons]
  by_cases h:x = c
  ·
   subst h; simp
  ·
   rw [if_neg h]
   rw [show (c == x) = false from by simpa using Ne.symm h]; rfl
theorem zM6 {c:Cr}:∀ {mt:List Cr}, c ∉ mt -> yh c (B true) (zKC mt) = zKC (mt ++ [c])
 | [], _=>rfl
 | x :: mt, h=>by
  have h1:x ≠ c:=fun e=>h (by simp [e])
  have h2:c ∉ mt:=fun e=>h (by simp [e])
  show (if x = c then _ else (x, B true) :: yh c (B true) (zKC mt)) = _
  rw [if_neg h1, zM6 h2]; rfl
theorem zPH {k:Nat} (mt:List Cr):(zNk mt).okL k:=fun p hp=>by
 obtain ⟨q, hq, rfl⟩:=List.mem_map.1 hp
 obtain ⟨c, _, rfl⟩:=List.mem_map.1 hq
 trivial
theorem zSd {k k':Nat} (h:k <= k') {o:PO} (ho:o.okL k):o.okL k':=by
 cases o with
 | dead=>trivial
 | row rows=>exact fun r hr x hx=>EV.lt_mono h (ho r hr x hx)
 | map es=>exact fun p hp=>EV.lt_mono h (ho p hp)
theorem zQv:Enters Tryz.prog 128:=⟨Tryz.f128, Tryz.func128, by kernel_rfl, by kernel_rfl⟩
theorem xX:tyIs Tryz.prog 122 false 1 = true:=by kernel_rfl
theorem zM3 {fr:Nat -> EV} {mem:List PO} {o:Oper} {x y:EV} (h:x = y) (ho:OpY Tryz.prog G fr mem o x):OpY Tryz.prog G fr mem o y:=h ▸ ho
theorem zQ5 {l mt:List Cr} {k:Nat} (hk:k < l.length) (h:∀ i (hi:i < l.length), i < k -> mt.contains l[i] = true) (e:(!mt.contains l[k]) = true):l.find? (fun c=>!mt.contains c) = some l[k]:=by
 rw [List.find?_eq_some_iff_getElem]
 refine ⟨e, k, hk, rfl, fun j hj=>?_⟩
 rw [h j (by omega) hj]; rfl
theorem zP6 {l mt:List Cr} (h:∀ i (hi:i < l.length), i < l.length -> mt.contains l[i] = true):l.find? (fun c=>!mt.contains c) = none:=by
 rw [List.find?_eq_none]
 intro x hx
 obtain ⟨i, hi, rfl⟩:=List.getElem_of_mem hx
 rw [h i hi hi]; simp
theorem zRu (mem:List PO) (kb km:Nat) (mt:List Cr) (c:Cr) (hok:zdA mem.length mem) (hb:mem[kb]? = some (.row [[.mpv km]])) (hm:mem[km]? = some (zNk mt)):
  zjj Tryz.prog G 130 [.pub (.agg (eCr c)), .pp kb 1 0 0] mem (.ret (B (!mt.contains c)) mem):=by
 refine zow Tryz.func130 rfl (by kernel_rfl) rfl (fun gh hold=>?_)
 refine zuy (zh ?_)
 refine zg rfl rfl (jf rfl (zY rfl)) ?_
 refine zg rfl rfl (zn rfl rfl) ?_
 refine zo (zf (zuy (zh ?_)))
 refine zg rfl rfl (zK rfl rfl hb rfl rfl rfl xX) ?_
 refine zg rfl rfl (zZ rfl rfl zHs (by exact zLb rfl)) ?_
 refine zg rfl rfl (zM3 (zR2 c mt) (zdD (enc:=zHG) (es:=zKC mt) (a:=c) (z:=.bool false) rfl rfl hm rfl (zeW (l:=[.int .i64 (c.1:Int), .int .i64 (c.2:Int)]) rfl) Tryz.underlying122 zSG zv4)) ?_
 refine zg rfl rfl (je rfl rfl) ?_
 refine zg rfl rfl (zn rfl rfl) ?_
 refine zo (zf (zP ?_))
 exact zbB [] (List.append_nil _).symm hok (Nat.le_refl _) (.inr rfl) trivial rfl
theorem zRP (mem:List PO) (kn kb km:Nat) (mt l:List Cr) (hl:l.length <= 1000) (hok:zdA mem.length mem) (hn:mem[kn]? = some (.row (l.map rCr))) (hb:mem[kb]? = some (.row [[.mpv km]])) (hm:mem[km]? = some (zNk mt)):
  zjj Tryz.prog G 129 [.psl kn l.length, .fnm 130 [] [.pp kb 1 0 0]] mem (.ret (.pub (.tup [.agg (eCr ((l.find? (fun c=>!mt.contains c)).getD (0, 0))), .v (.bool (l.find? (fun c=>!mt.contains c)).isSome)])) mem):=by
 have hok2:zdA (mem ++ [PO.row [[I 0, I 0]]]).length (mem ++ [PO.row [[I 0, I 0]]]):=zHI (zJc fun o ho=>by obtain ⟨i, hi, e⟩:=List.getElem_of_mem ho; exact zSd (by simp) (xw hok (by rw [← e]; exact List.getElem?_eq_getElem hi))) ⟨zHP [(0, 0)], trivial⟩
 have hfm2:∀ x y z:PO, ((((mem ++ [x]) ++ [z]).set mem.length y).set mem.length .dead) = mem ++ [.dead, z]:=fun x y z=>by rw [List.append_assoc, List.set_append_right _ _ (Nat.le_refl _), List.set_append_right _ _ (Nat.le_refl _)]; simp
 have hfm:∀ x y:PO, (((mem ++ [x]).set mem.length y).set mem.length .dead) = mem ++ [.dead]:=fun x y=>by rw [List.set_append_right _ _ (Nat.le_refl _), List.set_append_right _ _ (Nat.le_refl _)]; simp
 refine zow Tryz.func129 rfl (by kernel_rfl) rfl (fun gh hold=>?_)
 refine zuy (zh ?_)
 refine jb rfl (wJ rfl rfl zKI rfl rfl) ?_
 refine zg rfl rfl (zn rfl rfl) ?_
 refine zo (zf (zuy (zuy (zh ?_))))
 refine zg rfl rfl (zI rfl rfl) ?_
 refine zg rfl rfl (jE rfl rfl ((List.getElem?_append_left (zLg hn).1).trans hn) (List.length_map _) Tryz.underlying48) ?_
 refine zg rfl rfl (zi rfl rfl) ?_
 refine zo (zf (zB ?_))
 refine qy (ι:={ k:Nat // k <= l.length /\ ∀ i (hi:i < l.length), i < k -> mt.contains l[i] = true }) (fun k=>⟨⟨Tryz.f129.ntmps, [], gh, false, hold⟩, frL [(1, .fnm 130 [] [.pp kb 1 0 0]), (4, .pp mem.length 1 0 0), (9, .psl kn l.length), (10, I (l.length:Int)), (11, I (k.1:Int))], mem ++ [.row [[I 0, I 0]]]⟩) (fun k=>l.length - k.1) (⟨0, by omega, fun i _ h=>absurd h (by omega)⟩) ?_ ?_
 ·
  exact zt _ ⟨rfl, rfl, rfl, rfl, rfl, trivial⟩ (rfl)
 ·
  rintro ⟨k, hk⟩
  dsimp only
  refine zuy (zh ?_)
  refine zg rfl rfl (zUB rfl rfl rfl) ?_
  refine zo (zf (zuy (zx rfl (fun h0=>?_) (fun h0=>?_))))
  ·
   have hlt:k < l.length:=by simp at h0; omega
   refine zC (zf (zuy (zB (zuy (zh ?_)))))
   refine zg rfl rfl (qc rfl rfl rfl ((List.getElem?_append_left (zLg hn).1).trans hn) (List.length_map _) zt9 (by omega) (by omega) zHv) ?_
   refine zg rfl rfl (qN (cs:=eCr l[k]) rfl rfl ((List.getElem?_append_left (zLg hn).1).trans hn) (List.length_map _) (zJD hlt) (show 0 + 2 <= (rCr _).length from Nat.le_refl 2) rfl zHs) ?_
   refine vI  rfl rfl rfl rfl rfl rfl rfl zKI zHs rfl (by rfl) (zY rfl) rfl ?_
   refine zo (zf (zuy (zh ?_)))
   refine zg rfl rfl (zM rfl rfl) ?_
   refine zg rfl rfl (zZ rfl rfl zHs (by exact zLb rfl)) ?_
   refine jb rfl (zij (f:=130) (fs:=[]) (cs:=[.pp kb 1 0 0]) (av:=[.pub (.agg (eCr l[k]))]) rfl rfl ⟨rfl, rfl, rfl⟩ ⟨rfl, trivial⟩ (zRu (mem ++ [.row [[I 0, I 0]]]) kb km mt l[k] hok2 ((List.getElem?_append_left (zLg hb).1).trans hb) ((List.getElem?_append_left (zLg hm).1).trans hm))) ?_
   refine zo (zf (zx rfl (fun h1=>?_) (fun h1=>?_)))
   ·
    have hres:=zQ5 hlt hk.2 h1
    refine zuy (zh ?_)
    refine zg rfl rfl (zZ rfl rfl zHs (by exact zLb rfl)) ?_
    refine jb rfl (qG (k:=mem.length) (r:=[I 0, I 0]) rfl rfl rfl (List.getElem?_concat_length) rfl rfl (zY rfl) zHs (by rfl) (by exact zLb rfl)) ?_
    refine wo (zKL (k:=mem.length) (cs:=eCr l[k]) 4 ((List.getElem?_set_self (by simp)).trans rfl) rfl) ?_
    refine zg rfl rfl (zn rfl rfl) ?_
    refine zo (zf (zP (qF (zQ (zQ (qF (zQ ?_)))))))
    exact zbB [.dead] (hfm _ _) hok (Nat.le_refl _) (.inr rfl) trivial ⟨[.agg (eCr (l[k])), .v (.bool true)], (by rw [hres]; rfl), _, _, rfl, .inr ⟨2, zHs, Nat.le_refl 2, rfl⟩, _, _, rfl, rfl, rfl⟩
   ·
    have hin:mt.contains l[k] = true:=by simpa using h1
    refine zC (zD (zf (zh ?_)))
    refine zg rfl rfl (zV rfl rfl rfl ⟨(by omega), (by omega)⟩) ?_
    refine zg rfl rfl (zi rfl rfl) ?_
    refine zo ?_
    exact ⟨⟨k + 1, by omega, fun i hi h=>(if e:i = k then by subst e; exact hin else hk.2 i hi (by omega))⟩, by dsimp only; omega, zt _ ⟨rfl, rfl, rfl, rfl, rfl, trivial⟩ (rfl)⟩
  ·
   have hge:k = l.length:=by simp at h0; omega
   subst hge
   have hres:=zP6 (mt:=mt) hk.2
   refine qp (zRQ (zRQ (qw (zf (zuy (zh ?_))))))
   refine jb rfl (wJ rfl rfl zKI rfl rfl) ?_
   refine zo (zf (zuy (zh ?_)))
   refine zg rfl rfl (qN (cs:=eCr (0, 0)) rfl rfl List.getElem?_concat_length rfl rfl (show 0 + 2 <= (rCr (0, 0)).length from Nat.le_refl 2) rfl zHs) ?_
   refine jb rfl (qG (k:=mem.length) (r:=[I 0, I 0]) rfl rfl rfl (((List.getElem?_append_left (by simp)).trans List.getElem?_concat_length)) rfl rfl (zY rfl) zHs (by rfl) (by exact zLb rfl)) ?_
   refine wo (zKL (k:=mem.length) (cs:=eCr (0, 0)) 4 ((List.getElem?_set_self (by simp)).trans rfl) rfl) ?_
   refine zg rfl rfl (zn rfl rfl) ?_
   refine zo (zf (zP ?_))
   exact zbB [.dead, .row [[I 0, I 0]]] (hfm2 _ _ _) hok (Nat.le_refl _) (.inr rfl) trivial ⟨[.agg (eCr ((0, 0))), .v (.bool false)], (by rw [hres]; rfl), _, _, rfl, .inr ⟨2, zHs, Nat.le_refl 2, rfl⟩, _, _, rfl, rfl, rfl⟩
end Go.Av
end
