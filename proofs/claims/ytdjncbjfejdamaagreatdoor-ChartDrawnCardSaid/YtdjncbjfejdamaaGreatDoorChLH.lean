import Derived.Test.YtdjncbjfejdamaaGreatDoorChLG
import Derived.Test.YtdjncbjfejdamaaGreatDoorPlatD
set_option linter.unusedVariables false
set_option linter.unusedSimpArgs false
section
namespace Go.Av
open Go.Proofs
set_option maxRecDepth 100000
set_option maxHeartbeats 1000000
variable {G:Glob}
theorem zKE:tyIs Tryz.prog 48 false 1 = true:=by kernel_rfl
theorem zQ7:Tryz.prog.info? 48 = some Tryz.t48:=by kernel_rfl
open Go.Gr
theorem zKi {h:Nat -> Bool} {w r:Nat} (hwr:w * r <= 30):(zH1 h w r).length <= 930:=by
 have:=zSu (h:=h) (w:=w) (r:=r) (k:=w * r) (j:=0) hwr hwr (by omega)
 rw [zJh] at this; exact this
section
variable {nb:Cr -> List Cr} {all:List Cr}
def stM (nb:Cr -> List Cr) (all:List Cr):Nat -> List Cr × List (List Cr)
 | 0=>([], [])
 | 1=>ph nb all.length 1 all ([], [])
 | _=>ph nb all.length 2 all (ph nb all.length 1 all ([], []))
def sK (nb:Cr -> List Cr) (all:List Cr) (m k:Nat):List Cr × List (List Cr):=phK nb all all.length (m + 1) (stM nb all m) k
theorem sK_0 {m:Nat}:sK nb all m 0 = stM nb all m:=zRc
theorem zKm {m:Nat} (hm:m < 2):sK nb all m all.length = stM nb all (m + 1):=by
 unfold sK
 rw [zPi]
 have:m = 0 ∨ m = 1:=by omega
 rcases this with rfl | rfl <;> rfl
theorem zMU (G:Gph nb all) {m:Nat} (hm:m < 2):SI nb all (stM nb all m) /\ (2 <= m + 1 -> ∀ x ∈ all, x ∉ (stM nb all m).1 -> (nb x).length = 2):=by
 have:m = 0 ∨ m = 1:=by omega
 rcases this with rfl | rfl
 ·
  exact ⟨SI.nil, fun h=>absurd h (by omega)⟩
 ·
  exact ⟨zKb G (Nat.le_refl _) (.inl (by omega)) all _ (fun _ h=>h) SI.nil (fun h=>absurd h (by omega)), fun _=>zPz G⟩
theorem zOS (G:Gph nb all) {m:Nat} (hm:m < 2) (k:Nat):SI nb all (sK nb all m k):=zPj G (Nat.le_refl _) (by omega) (zMU G hm).1 (zMU G hm).2 k
def skB (nb:Cr -> List Cr) (s:List Cr × List (List Cr)) (m:Nat) (c:Cr):Bool:=s.1.contains c || (((m:Int) == 0) && (((nb c).length:Int) == 2))
theorem zM5 (G:Gph nb all) {m:Nat} (hm:m < 2) {s:List Cr × List (List Cr)} {c:Cr} (hc:c ∈ all):skB nb s m c = true ↔ (c ∈ s.1 ∨ m + 1 < (nb c).length):=by
 have h2:=G.two c hc
 unfold skB
 simp only[Bool.or_eq_true, zLa, beq_iff_eq, List.contains_iff_mem]
 constructor
 ·
  rintro (h | h)
  ·
   exact .inl h
  ·
   exact .inr (by omega)
 ·
  rintro (h | h)
  ·
   exact .inl h
  ·
   exact .inr (by omega)
theorem zM4 (G:Gph nb all) {m k:Nat} (hm:m < 2) (hk:k < all.length) (h:skB nb (sK nb all m k) m all[k] = true):sK nb all m (k + 1) = sK nb all m k:=by
 have h':=(zM5 G hm (List.getElem_mem hk)).1 h
 unfold sK at h' ⊢
 rw [zSl hk]
 unfold phS
 rw [if_pos h']
theorem zPQ (G:Gph nb all) {m k:Nat} (hm:m < 2) (hk:k < all.length) (h:skB nb (sK nb all m k) m all[k] = false):
  all[k] ∉ (sK nb all m k).1 /\ sK nb all m (k + 1) = ((sK nb all m k).1 ++ goW nb (sK nb all m k).1 all.length [] all[k], (sK nb all m k).2 ++ [goW nb (sK nb all m k).1 all.length [] all[k]]) /\ goW nb (sK nb all m k).1 all.length [] all[k] = goW nb [] all.length [] all[k]:=by
 have h':¬ (all[k] ∈ (sK nb all m k).1 ∨ m + 1 < (nb all[k]).length):=fun e=>by
  rw [(zM5 G hm (List.getElem_mem hk)).2 e] at h; cases h
 have hn:all[k] ∉ (sK nb all m k).1:=fun e=>h' (.inl e)
 refine ⟨hn, ?_, zMA G (zOS G hm k).cl _ _ _ (List.getElem_mem hk) hn⟩
 unfold sK at h' ⊢
 rw [zSl hk]
 unfold phS
 rw [if_neg h']
theorem zJ7 (G:Gph nb all) {m:Nat} (hm:m < 2) (k:Nat):(sK nb all m k).1.length <= all.length /\ (sK nb all m k).2.length <= all.length /\ ∀ l ∈ (sK nb all m k).2, l ≠ []:=by
 have h:=zOS G hm k
 refine ⟨h.le, Nat.le_trans h.lines_le h.le, fun l hl e=>?_⟩
 have:=(h.lines l hl).pos
 subst e; simp at this
end
def zH7 (L:List (List Cr)):AV:=.sl (L.map fun x=>[zHA x])
def rLn (l:List Cr):List EV:=[.pub (zHA l)]
theorem zRU (L:List (List Cr)):L.map rLn = (L.map fun x=>[zHA x]).map (·.map .pub):=by simp [rLn]
theorem zPs {L:List (List Cr)}:∀ q ∈ L.map rLn, q.length = 1:=fun q h=>by obtain ⟨c, _, rfl⟩:=List.mem_map.1 h; rfl
theorem zIb {L:List (List Cr)}:∀ q ∈ L.map (fun x=>[zHA x]), q.length = 1:=fun q h=>by obtain ⟨c, _, rfl⟩:=List.mem_map.1 h; rfl
theorem zJQ:zau Tryz.prog 37 1 = true:=by kernel_rfl
theorem zPx:elemIs Tryz.prog 37 48 1 24:=⟨Tryz.underlying37, Tryz.t48, _, by kernel_rfl, rfl, rfl, rfl, rfl, by decide⟩
end Go.Av
end
