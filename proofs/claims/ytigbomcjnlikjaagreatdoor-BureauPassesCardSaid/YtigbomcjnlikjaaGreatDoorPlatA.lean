import Derived.Deep.Quiet
import Derived.Below
import Derived.Laws.AppendOwn
import Derived.Laws.MakeOwn
import Derived.WalkKit
import Derived.RangeFuncRecord
import Derived.TacticsIn
import Derived.OrdersIn
import Derived.RangeFuncLeaves
set_option linter.unusedVariables false
set_option linter.unusedSimpArgs false
set_option maxRecDepth 100000
set_option maxHeartbeats 9000000
section
variable{i j n:Nat}{p:Prop}
theorem Go.zLg{α:Type}{l:List α}{a:α}(h:l[i]?=some a):∃(h:i<l.length),l[i]=a:=List.getElem?_eq_some_iff.1 h
theorem Go.zLb{m:Nat}(h:Nat.ble n m=true):n<=m:=Nat.le_of_ble_eq_true h
theorem Go.zLs{α:Type}{a b:α}:(some a=some b)=(a=b):=Option.some.injEq a b
theorem Go.zLa(a b:Bool):((a&&b)=true)=(a=true/\b=true):=Bool.and_eq_true a b
theorem Go.zLp{α β:Type}{a c:α}{b d:β}:((a,b)=(c,d))=(a=c/\b=d):=Prod.mk.injEq a b c d
theorem Go.Y.{u}{α:Sort u}{a:α}:a=a:=Eq.refl a
theorem Go.zLe.{u}{α:Type u}{l:List α}(h:i<l.length):l[i]?=some l[i]:=List.getElem?_eq_getElem h
theorem Go.zLn.{u}{α:Type u}{l:List α}(h:i≠j){a:α}:(l.set i a)[j]?=l[j]?:=List.getElem?_set_ne h
theorem Go.zLm.{u}{α:Type u}{l:List α}(h:n<l.length):l[n]∈l:=List.getElem_mem h
theorem Go.zLo.{u}{α:Type u}{l:List α}{a:α}(h:l[i]?=some a):a∈l:=List.mem_of_getElem? h
theorem Go.zLd[Decidable p]:(decide p=true)=p:=decide_eq_true_eq
theorem Go.zLr.{u}{α:Type u}{b:α}{xs:Array α}:xs[i]?=some b↔∃h:i<xs.size,xs[i]=b:=Array.getElem?_eq_some_iff
theorem Go.zLf.{u}{α:Type u}{l₁ l₂:List α}(h:i<l₁.length):(l₁++l₂)[i]?=l₁[i]?:=List.getElem?_append_left h
theorem Go.zLt.{u}{α:Type u}{l:List α}(h:i<l.length):l.take (i+1)=l.take i++[l[i]]:=List.take_succ_eq_append_getElem h
theorem Go.zLi.{u}{α:Type u}{l:List α}{a:α}(h:i<l.length):(l.set i a)[i]?=some a:=List.getElem?_set_self h
theorem Go.zLq.{u,v}{α:Type u}{β:Type v}{f:α→β}{l:List α}:(l.map f)[i]?=Option.map f l[i]?:=List.getElem?_map
theorem Go.zLu.{u}{α:Type u}{p:α→Bool}{l:List α}:l.all p=true↔∀x,x∈l→p x=true:=List.all_eq_true
theorem Go.zLj.{u,v}{α:Type u}{β:Type v}{b:β}{f:α→β}{l:List α}:b∈l.map f↔∃a,a∈l∧f a=b:=List.mem_map
theorem Go.zLh.{u}{α:Type u}{a b:α}:a∈[b]↔a=b:=List.mem_singleton
theorem Go.zLk.{u}{α:Type u}{l:List α}(h:l.length<=i):l.take i=l:=List.take_of_length_le h
theorem Go.zLv.{u}{α:Type u}{l:List α}{a:α}:l.getD i a=l[i]?.getD a:=List.getD_eq_getElem?_getD
theorem Go.zLw.{u}{α:Type u}{xs:Array α}{d:α}:xs.getD i d=xs[i]?.getD d:=Array.getD_eq_getD_getElem?
theorem Go.zLx.{u}{α:Type u}{l:List α}:(l.take i)[j]?=if j<i then l[j]?else none:=List.getElem?_take
theorem Go.zLc.{u}{c:Prop}{h:Decidable c}(hc:c){α:Sort u}{t e:α}:ite c t e=t:=if_pos hc
theorem Go.zLy.{u}{c:Prop}{h:Decidable c}(hc:¬c){α:Sort u}{t e:α}:ite c t e=e:=if_neg hc
theorem Go.zLz.{u,v}{α:Sort u}{β:Sort v}{a₁ a₂:α}(f:α→β)(h:a₁=a₂):f a₁=f a₂:=congrArg f h
theorem Go.zLl(n:Nat):n<=n:=Nat.le_refl n
theorem Go.zL1.{u}{α:Type u}{a:α}{l:List α}:a∈a::l:=List.mem_cons_self
theorem Go.zL2.{u}{α:Type u}{as:List α}{a:α}:(as.set i a).length=as.length:=List.length_set
theorem Go.zL3.{u}{α:Type u}(y:α){a:α}{l:List α}(h:a∈l):a∈y::l:=List.mem_cons_of_mem y h
theorem Go.zL4.{u}{α:Type u}{l₁ l₂:List α}(h:l₁.length<=i):(l₁++l₂)[i]?=l₂[i-l₁.length]?:=List.getElem?_append_right h
theorem Go.zL5.{u}{α:Type u}{xs:Array α}(h:i<xs.size):xs[i]?=some xs[i]:=Array.getElem?_eq_getElem h
theorem Go.zL6{m k:Nat}(h:n<=m)(g:m<=k):n<=k:=Nat.le_trans h g
theorem Go.zL7.{u,v}{α:Type u}{β:Type v}{b:α}{x:Option β}{f:β→α}:x.map f=some b↔∃a,x=some a∧f a=b:=Option.map_eq_some_iff
theorem Go.zL8.{u,v}{α:Type u}{β:Type v}{as:List α}(f:α→β):(as.map f).length=as.length:=List.length_map f
theorem Go.zL9.{u}{α:Type u}{xs:Array α}(h:i≠j){a:α}:(xs.setIfInBounds i a)[j]?=xs[j]?:=Array.getElem?_setIfInBounds_ne h
theorem Go.nR(h:p:=by kernel_rfl):p:=h
theorem Go.oM(h:p:=by omega):p:=h
theorem Go.sI(h:p:=by simp):p:=h
theorem Go.dE(h:p:=by decide):p:=h
theorem Go.rF(h:p:=by rfl):p:=h
theorem Go.bL(h:p:=by exact Go.zLb rfl):p:=h
theorem Go.rL(h:p:=by repeat' (first|exact trivial|refine⟨?_,?_⟩|exact rfl)):p:=h
abbrev Go.TB:=List (List UInt8)
abbrev Go.TC:=List (List (List UInt8))
abbrev Go.nZ:Go.Value:=.int .i64 0
namespace Go.Av
open Go.RowKit
inductive AV where
 |top
 |v (x:Value)
 |agg (cs:List AV)
 |sl (rows:List (List AV))
 |ptr (cs:List AV)
 |fn (f:FuncId) (first caps:List AV)
 |ifc (t:TypeId) (x:AV)
 |tup (l:List AV)
 |mp (ks:List Value) (xs:List AV)
def MB(arr:Array MapEntry)(c:Nat):Prop:=c=arr.size/\∀(i:Nat)(e:MapEntry),arr[i]?=some e->e.born=i
mutual
/-- A value is as known; all memory that this speaks of lies in blocks that are let. -/
def Fits(ok:Nat->Prop)(w:World):AV->Value->Prop
 | .top,_=>True
 | .v x,y=>y=x/\x.oneCell'=true
 | .agg cs,y=>∃vs:List Value,y=.agg vs.toArray/\(∀u∈vs,u.oneCell'=true)/\FitsL ok w cs vs
 | .sl rows,y=>∃(a:Option Addr)(c size:Nat),y=.slice a rows.length c/\rows.length<=c/\c<=maxLen/\(∀r∈rows,r.length=size)/\
   (0<rows.length->∃b off,a=some ⟨b,off,none⟩/\ok b/\FitsR ok w b off rows)
 | .ptr cs,y=>∃b off,y=.pointer (some ⟨b,off,none⟩)/\ok b/\FitsC ok w b off cs
 | .fn f first caps,y=>∃us vs:List Value,y=.func (.func f) us.toArray vs.toArray/\FitsL ok w first us/\FitsL ok w caps vs
 | .ifc t x,y=>∃u,y=.iface t u/\Fits ok w x u
 | .tup l,y=>∃vs:List Value,y=.tuple vs.toArray/\FitsL ok w l vs
 | .mp ks xs,y=>∃(g:Nat)(arr:Array MapEntry)(c:Nat),y=.map (some g)/\ok g/\w.heap[g]?=some (.map arr c)/\MB arr c/\arr.toList.map (·.key)=ks/\FitsL ok w xs (arr.toList.map (·.val))
/-- The same of several values. -/
def FitsL(ok:Nat->Prop)(w:World):List AV->List Value->Prop
 |[],vs=>vs=[]
 |x::xs,vs=>∃u us,vs=u::us/\Fits ok w x u/\FitsL ok w xs us
/-- The same of cells that lie one behind the other. -/
def FitsC(ok:Nat->Prop)(w:World):Nat->Nat->List AV->Prop
 |_,_,[]=>True
 |b,off,x::xs=>(∃u,w.cell? ⟨b,off,none⟩=some u/\u.oneCell'=true/\Fits ok w x u)/\FitsC ok w b (off+1) xs
/-- The same of rows of cells that lie one behind the other. -/
def FitsR(ok:Nat->Prop)(w:World):Nat->Nat->List (List AV)->Prop
 |_,_,[]=>True
 |b,off,r::rs=>FitsC ok w b off r/\FitsR ok w b (off+r.length) rs
end
section
variable{ok ok':Nat->Prop}{w w':World}
mutual
theorem Fits.mono(hk:∀b,ok b->ok' b)(hw:∀b,ok b->w'.heap[b]?=w.heap[b]?):∀(x:AV)(u:Value),Fits ok w x u->Fits ok' w' x u
 | .top,_,_=>by simp only[Fits]
 | .v x,y,h=>by simpa only[Fits]using h
 | .agg cs,y,h=>by
  simp only[Fits]at h⊢;obtain⟨vs,e,h1,hl⟩:=h;exact⟨vs,e,h1,FitsL.mono hk hw cs vs hl⟩
 | .sl rows,y,h=>by
  simp only[Fits]at h⊢;obtain⟨a,c,size,e,h1,h2,h3,h4⟩:=h;refine⟨a,c,size,e,h1,h2,h3,fun hn=>?_⟩;obtain⟨b,off,ea,hb,hr⟩:=h4 hn;exact⟨b,off,ea,hk b hb,FitsR.mono hk hw b hb rows off hr⟩
 | .ptr cs,y,h=>by
  simp only[Fits]at h⊢;obtain⟨b,off,e,hb,hc⟩:=h;exact⟨b,off,e,hk b hb,FitsC.mono hk hw b hb cs off hc⟩
 | .fn f first caps,y,h=>by
  simp only[Fits]at h⊢;obtain⟨us,vs,e,h1,h2⟩:=h;exact⟨us,vs,e,FitsL.mono hk hw first us h1,FitsL.mono hk hw caps vs h2⟩
 | .ifc t x,y,h=>by
  simp only[Fits]at h⊢;obtain⟨u,e,hl⟩:=h;exact⟨u,e,Fits.mono hk hw x u hl⟩
 | .tup l,y,h=>by
  simp only[Fits]at h⊢;obtain⟨vs,e,hl⟩:=h;exact⟨vs,e,FitsL.mono hk hw l vs hl⟩
 | .mp ks xs,y,h=>by
  simp only[Fits]at h⊢;obtain⟨g,arr,c,e,hg,ha,hb,h1,hl⟩:=h;exact⟨g,arr,c,e,hk g hg,by rw[hw g hg];exact ha,hb,h1,FitsL.mono hk hw xs _ hl⟩
theorem FitsL.mono(hk:∀b,ok b->ok' b)(hw:∀b,ok b->w'.heap[b]?=w.heap[b]?):∀(l:List AV)(us:List Value),FitsL ok w l us->FitsL ok' w' l us
 |[],us,h=>by simpa only[FitsL]using h
 |x::xs,us,h=>by
  simp only[FitsL]at h⊢;obtain⟨u,us',e,h1,h2⟩:=h;exact⟨u,us',e,Fits.mono hk hw x u h1,FitsL.mono hk hw xs us' h2⟩
theorem FitsC.mono(hk:∀b,ok b->ok' b)(hw:∀b,ok b->w'.heap[b]?=w.heap[b]?)(b:Nat)(hb:ok b):∀(l:List AV)(off:Nat),FitsC ok w b off l->FitsC ok' w' b off l
 |[],off,h=>by simp only[FitsC]
 |x::xs,off,h=>by
  simp only[FitsC]at h⊢;obtain⟨⟨u,hc,h1,h2⟩,h3⟩:=h;refine⟨⟨u,?_,h1,Fits.mono hk hw x u h2⟩,FitsC.mono hk hw b hb xs (off+1) h3⟩;rw[World.cell?_of_block (w:=w) (hw b hb)];exact hc
theorem FitsR.mono(hk:∀b,ok b->ok' b)(hw:∀b,ok b->w'.heap[b]?=w.heap[b]?)(b:Nat)(hb:ok b):∀(l:List (List AV))(off:Nat),FitsR ok w b off l->FitsR ok' w' b off l
 |[],off,h=>by simp only[FitsR]
 |r::rs,off,h=>by
  simp only[FitsR]at h⊢;exact⟨FitsC.mono hk hw b hb r off h.1,FitsR.mono hk hw b hb rs (off+r.length) h.2⟩
end
theorem FitsL.length:∀{l:List AV}{us:List Value},FitsL ok w l us->us.length=l.length
 |[],us,h=>by simp only[FitsL]at h;simp[h]
 |x::xs,us,h=>by
  simp only[FitsL]at h;obtain⟨u,us',rfl,_,h2⟩:=h;simp[FitsL.length h2]
theorem FitsL.get:∀{l:List AV}{us:List Value}{i:Nat}{x:AV},FitsL ok w l us->l[i]?=some x->∃u,us[i]?=some u/\Fits ok w x u
 |[],us,i,x,h,hx=>by simp at hx
 |y::ys,us,i,x,h,hx=>by
  simp only[FitsL]at h;obtain⟨u,us',rfl,h1,h2⟩:=h;cases i with
  |zero=>simp at hx;subst hx;exact⟨u,sI,h1⟩
  |succ i=>simp at hx;simpa using FitsL.get h2 hx
theorem FitsL.of_get:∀{l:List AV}{us:List Value},us.length=l.length->(∀(i:Nat)(x:AV)(u:Value),l[i]?=some x->us[i]?=some u->Fits ok w x u)->FitsL ok w l us
 |[],us,h,_=>by simp only[FitsL];exact List.eq_nil_of_length_eq_zero (by simpa using h)
 |y::ys,us,h,hx=>by
  cases us with
  |nil=>simp at h
  |cons u us=>
   simp only[FitsL];exact⟨u,us,rfl,hx 0 y u sI sI,FitsL.of_get (by simpa using h) (fun i x u' h1 h2=>hx (i+1) x u' (by simpa using h1) (by simpa using h2))⟩
theorem FitsL.append:∀{l l':List AV}{us us':List Value},FitsL ok w l us->FitsL ok w l' us'->FitsL ok w (l++l') (us++us')
 |[],l',us,us',h,h'=>by simp only[FitsL]at h;subst h;simpa using h'
 |x::xs,l',us,us',h,h'=>by
  simp only[FitsL]at h;obtain⟨u,us2,rfl,h1,h2⟩:=h;simp only[List.cons_append,FitsL];exact⟨u,us2++us',rfl,h1,FitsL.append h2 h'⟩
theorem FitsC.get:∀{b:Nat}{l:List AV}{off i:Nat}{x:AV},FitsC ok w b off l->l[i]?=some x->∃u,w.cell? ⟨b,off+i,none⟩=some u/\u.oneCell'=true/\Fits ok w x u
 |b,[],off,i,x,h,hx=>by simp at hx
 |b,y::ys,off,i,x,h,hx=>by
  simp only[FitsC]at h;cases i with
  |zero=>simp at hx;subst hx;exact h.1
  |succ i=>
   simp at hx;have:=FitsC.get h.2 hx;simpa[Nat.add_assoc,Nat.add_comm 1 i]using this
theorem FitsC.of_get:∀{b:Nat}{l:List AV}{off:Nat},(∀(i:Nat)(x:AV),l[i]?=some x->∃u,w.cell? ⟨b,off+i,none⟩=some u/\u.oneCell'=true/\Fits ok w x u)->FitsC ok w b off l
 |b,[],off,_=>by simp only[FitsC]
 |b,y::ys,off,h=>by
  simp only[FitsC];refine⟨h 0 y sI,FitsC.of_get fun i x hx=>?_⟩;have:=h (i+1) x (by simpa using hx);simpa[Nat.add_assoc,Nat.add_comm 1 i]using this
variable{l:List AV}{off:Nat}
theorem FitsC.drop{b:Nat}(h:FitsC ok w b off l)(k:Nat):FitsC ok w b (off+k) (l.drop k):=
 FitsC.of_get fun i x hx=>by
  have:=FitsC.get h (i:=k+i) (x:=x) (by simpa using hx);simpa[Nat.add_assoc]using this
theorem FitsC.take{b:Nat}(h:FitsC ok w b off l)(k:Nat):FitsC ok w b off (l.take k):=
 FitsC.of_get fun i x hx=>by
  rw[zLx]at hx;split at hx
  ·exact FitsC.get h hx
  ·cases hx
theorem FitsR.get:∀{b:Nat}{l:List (List AV)}{off i size:Nat}{r:List AV},FitsR ok w b off l->(∀r∈l,r.length=size)->l[i]?=some r->FitsC ok w b (off+i*size) r
 |b,[],off,i,size,r,h,hs,hx=>by simp at hx
 |b,y::ys,off,i,size,r,h,hs,hx=>by
  simp only[FitsR]at h;cases i with
  |zero=>simp at hx;subst hx;simpa using h.1
  |succ i=>
   simp at hx;have h0:=hs y sI;have:=FitsR.get h.2 (fun r hr=>hs r (by simp[hr])) hx;rw[h0]at this;have e:off+size+i*size=off+(i+1)*size:=by rw[Nat.add_mul];omega
   rwa[e]at this
theorem FitsR.of_get:∀{b:Nat}{l:List (List AV)}{off size:Nat},(∀r∈l,r.length=size)->(∀(i:Nat)(r:List AV),l[i]?=some r->FitsC ok w b (off+i*size) r)->FitsR ok w b off l
 |b,[],off,size,_,_=>by simp only[FitsR]
 |b,y::ys,off,size,hs,h=>by
  simp only[FitsR];have h0:=hs y sI;refine⟨by simpa using h 0 y sI,?_⟩;rw[h0];refine FitsR.of_get (size:=size) (fun r hr=>hs r (by simp[hr])) fun i r hr=>?_;have:=h (i+1) r (by simpa using hr);have e:off+size+i*size=off+(i+1)*size:=by rw[Nat.add_mul];omega
  rwa[e]
end
end Go.Av
namespace Go.Av
open Go.RowKit
inductive EV where
 |pub (x:AV)
 |psl (l n:Nat)
 |pp (l n i j:Nat)
 |mix (cs:List EV)
 |fnm (f:FuncId) (first caps:List EV)
 |mpv (l:Nat)
 /-- the start of a part, all of it, whose cells are of this type -/
 |ppT (l n:Nat) (T:TypeId)
 |pslT (l n:Nat) (T:TypeId)
 |tpl (cs:List EV)
inductive PO where
 |dead
 |row (rows:List (List EV))
 |map (es:List (Value × EV))
def PO.live:PO->Bool
 | .dead=>false
 |_=>true
structure EK where
 t:TypeId
 fz:Bool
instance:Coe TypeId EK:=⟨fun t=>⟨t,false⟩⟩
instance(n:Nat):OfNat EK n:=⟨⟨n,false⟩⟩
def EK.fzp(e:EK)(n:Nat):Nat × Nat:=bif e.fz then(n,n+1)else(0,0)
theorem EK.free(e:EK)(n:Nat):e.fzp n=(0,0)∨n<=(e.fzp n).1:=by
 unfold EK.fzp;cases e.fz with
 |false=>exact .inl rfl
 |true=>exact .inr (zLl _)
structure PB where
 blk:Option Nat
 cap:Nat
 elem:EK
 size:Nat
def PB.sl(b:PB)(n:Nat):Value:=match b.blk with
 |none=>.slice none 0 0
 |some g=>.slice (some ⟨g,0,none⟩) n b.cap
mutual
def FitsE(ok:Nat->Prop)(w:World)(bs:List PB)(mem:List PO):EV->Value->Prop
 | .pub x,u=>Fits ok w x u
 | .psl l n,u=>∃b,bs[l]?=some b/\∀rows,mem[l]?=some (.row rows)->n<=rows.length/\(rows.length=n->u=b.sl n)
 | .pp l n i j,u=>∃b,bs[l]?=some b/\∀rows,mem[l]?=some (.row rows)->n<=rows.length/\(rows.length=n->∃g,b.blk=some g/\u=.pointer (some ⟨g,i*b.size+j,none⟩))
 | .mix cs,u=>∃vs:List Value,u=.agg vs.toArray/\(∀u∈vs,u.oneCell'=true)/\FitsEL ok w bs mem cs vs
 | .fnm f fs cs,u=>∃us vs:List Value,u=.func (.func f) us.toArray vs.toArray/\FitsEL ok w bs mem fs us/\FitsEL ok w bs mem cs vs
 | .tpl cs,u=>∃vs:List Value,u=.tuple vs.toArray/\FitsEL ok w bs mem cs vs
 | .ppT l n T,u=>∃b,bs[l]?=some b/\∀rows,mem[l]?=some (.row rows)->n<=rows.length/\(rows.length=n->∃g,b.blk=some g/\b.elem.t=T/\(b.size=1∨b.cap*b.size=2)/\u=.pointer (some ⟨g,0,none⟩))
 | .pslT l n T,u=>∃b,bs[l]?=some b/\∀rows,mem[l]?=some (.row rows)->n<=rows.length/\(rows.length=n->u=b.sl n/\(0<n->b.elem.t=T))
 | .mpv l,u=>∃b,bs[l]?=some b/\∀es,mem[l]?=some (.map es)->∃g,b.blk=some g/\u=.map (some g)
def FitsEL(ok:Nat->Prop)(w:World)(bs:List PB)(mem:List PO):List EV->List Value->Prop
 |[],vs=>vs=[]
 |x::xs,vs=>∃u us,vs=u::us/\FitsE ok w bs mem x u/\FitsEL ok w bs mem xs us
end
structure Turn(bs bs':List PB)(mem mem':List PO):Prop where
 keep:∀(l:Nat)(b:PB),bs[l]?=some b->∃b':PB,bs'[l]?=some b'/\∀rows':List (List EV),mem'[l]?=some (PO.row rows')->∃rows:List (List EV),mem[l]?=some (PO.row rows)/\rows.length<=rows'.length/\(rows.length=rows'.length->b'=b)
 mp:∀(l:Nat)(b b':PB)(es':List (Value × EV)),bs[l]?=some b->bs'[l]?=some b'->mem'[l]?=some (PO.map es')->(∃es,mem[l]?=some (PO.map es))/\b'=b
section
variable{ok ok':Nat->Prop}{w w':World}{bs bs':List PB}{mem mem':List PO}
theorem Turn.refl(bs:List PB)(mem:List PO):Turn bs bs mem mem:=⟨fun _ b h=>⟨b,h,fun rows h'=>⟨rows,h',zLl _,fun _=>rfl⟩⟩,fun l b b' es h h' hm=>⟨⟨es,hm⟩,by rw[h]at h';injection h' with h';exact h'.symm⟩⟩
mutual
theorem FitsE.mono(hk:∀b,ok b->ok' b)(hw:∀b,ok b->w'.heap[b]?=w.heap[b]?)(ht:Turn bs bs' mem mem'):∀(x:EV)(u:Value),FitsE ok w bs mem x u->FitsE ok' w' bs' mem' x u
 | .pub x,u,h=>by
  simp only[FitsE]at h⊢;exact Fits.mono hk hw x u h
 | .psl l n,u,h=>by
  simp only[FitsE]at h⊢;obtain⟨b,hb,h⟩:=h;obtain⟨b',hb',hr⟩:=ht.keep l b hb;refine⟨b',hb',fun rows' hm'=>?_⟩;obtain⟨rows,hm,hle,he⟩:=hr rows' hm';obtain⟨h1,h2⟩:=h rows hm;refine⟨oM,fun hn=>?_⟩;have hl:rows.length=rows'.length:=oM;rw[he hl];exact h2 oM
 | .pp l n i j,u,h=>by
  simp only[FitsE]at h⊢;obtain⟨b,hb,h⟩:=h;obtain⟨b',hb',hr⟩:=ht.keep l b hb;refine⟨b',hb',fun rows' hm'=>?_⟩;obtain⟨rows,hm,hle,he⟩:=hr rows' hm';obtain⟨h1,h2⟩:=h rows hm;refine⟨oM,fun hn=>?_⟩;have hl:rows.length=rows'.length:=oM;rw[he hl];exact h2 oM
 | .pslT l n T,u,h=>by
  simp only[FitsE]at h⊢;obtain⟨b,hb,h⟩:=h;obtain⟨b',hb',hr⟩:=ht.keep l b hb;refine⟨b',hb',fun rows' hm'=>?_⟩;obtain⟨rows,hm,hle,he⟩:=hr rows' hm';obtain⟨h1,h2⟩:=h rows hm;refine⟨oM,fun hn=>?_⟩;have hl:rows.length=rows'.length:=oM;rw[he hl];exact h2 oM
 | .ppT l n T,u,h=>by
  simp only[FitsE]at h⊢;obtain⟨b,hb,h⟩:=h;obtain⟨b',hb',hr⟩:=ht.keep l b hb;refine⟨b',hb',fun rows' hm'=>?_⟩;obtain⟨rows,hm,hle,he⟩:=hr rows' hm';obtain⟨h1,h2⟩:=h rows hm;refine⟨oM,fun hn=>?_⟩;have hl:rows.length=rows'.length:=oM;rw[he hl];exact h2 oM
 | .mix cs,u,h=>by
  simp only[FitsE]at h⊢;obtain⟨vs,e,h1,hl⟩:=h;exact⟨vs,e,h1,FitsEL.mono hk hw ht cs vs hl⟩
 | .fnm f fs cs,u,h=>by
  simp only[FitsE]at h⊢;obtain⟨us,vs,e,h1,h2⟩:=h;exact⟨us,vs,e,FitsEL.mono hk hw ht fs us h1,FitsEL.mono hk hw ht cs vs h2⟩
 | .tpl cs,u,h=>by
  simp only[FitsE]at h⊢;obtain⟨vs,e,hl⟩:=h;exact⟨vs,e,FitsEL.mono hk hw ht cs vs hl⟩
 | .mpv l,u,h=>by
  simp only[FitsE]at h⊢;obtain⟨b,hb,h⟩:=h;obtain⟨b',hb',_⟩:=ht.keep l b hb;refine⟨b',hb',fun es' hm'=>?_⟩;obtain⟨⟨es,hm⟩,rfl⟩:=ht.mp l b b' es' hb hb' hm';exact h es hm
theorem FitsEL.mono(hk:∀b,ok b->ok' b)(hw:∀b,ok b->w'.heap[b]?=w.heap[b]?)(ht:Turn bs bs' mem mem'):∀(l:List EV)(us:List Value),FitsEL ok w bs mem l us->FitsEL ok' w' bs' mem' l us
 |[],us,h=>by simpa only[FitsEL]using h
 |x::xs,us,h=>by
  simp only[FitsEL]at h⊢;obtain⟨u,us',e,h1,h2⟩:=h;exact⟨u,us',e,FitsE.mono hk hw ht x u h1,FitsEL.mono hk hw ht xs us' h2⟩
end
theorem FitsEL.length:∀{l:List EV}{us:List Value},FitsEL ok w bs mem l us->us.length=l.length
 |[],us,h=>by simp only[FitsEL]at h;simp[h]
 |x::xs,us,h=>by
  simp only[FitsEL]at h;obtain⟨u,us',rfl,_,h2⟩:=h;simp[FitsEL.length h2]
theorem FitsEL.get:∀{l:List EV}{us:List Value}{i:Nat}{x:EV},FitsEL ok w bs mem l us->l[i]?=some x->∃u,us[i]?=some u/\FitsE ok w bs mem x u
 |[],us,i,x,h,hx=>by simp at hx
 |y::ys,us,i,x,h,hx=>by
  simp only[FitsEL]at h;obtain⟨u,us',rfl,h1,h2⟩:=h;cases i with
  |zero=>simp at hx;subst hx;exact⟨u,sI,h1⟩
  |succ i=>simp at hx;simpa using FitsEL.get h2 hx
theorem FitsEL.of_get:∀{l:List EV}{us:List Value},us.length=l.length->(∀(i:Nat)(x:EV)(u:Value),l[i]?=some x->us[i]?=some u->FitsE ok w bs mem x u)->FitsEL ok w bs mem l us
 |[],us,h,_=>by simp only[FitsEL];exact List.eq_nil_of_length_eq_zero (by simpa using h)
 |y::ys,us,h,hx=>by
  cases us with
  |nil=>simp at h
  |cons u us=>
   simp only[FitsEL];exact⟨u,us,rfl,hx 0 y u sI sI,FitsEL.of_get (by simpa using h) (fun i x u' h1 h2=>hx (i+1) x u' (by simpa using h1) (by simpa using h2))⟩
theorem FitsEL.pub:∀{l:List AV}{us:List Value},FitsEL ok w bs mem (l.map .pub) us↔FitsL ok w l us
 |[],us=>by simp[FitsEL,FitsL]
 |x::xs,us=>by simp only[List.map_cons,FitsEL,FitsL,FitsE,FitsEL.pub]
structure PRow(ok:Nat->Prop)(w:World)(bs:List PB)(mem:List PO)(b:PB)(rows:List (List EV)):Prop where
 size:∀r∈rows,r.length=b.size
 nil:b.blk=none->rows=[]
 pos:∀g,b.blk=some g->0<rows.length
 blk:∀g,b.blk=some g->∃cur,w.heap[g]?=some (.cells cur b.elem.t (b.elem.fzp cur.size))/\cur.size=b.cap*b.size/\rows.length<=b.cap/\b.cap<=maxLen/\
  ∀(i j:Nat)(r:List EV)(x:EV),rows[i]?=some r->r[j]?=some x->∃u,cur[i*b.size+j]?=some u/\u.oneCell'=true/\FitsE ok w bs mem x u
def JV(ok:Nat->Prop)(w:World)(bs:List PB)(mem:List PO)(b:PB)(es:List (Value × EV)):Prop:=
 ∃g arr,b.blk=some g/\w.heap[g]?=some (.map arr es.length)/\arr.size=es.length/\
  ∀(i:Nat)(k:Value)(x:EV),es[i]?=some (k,x)->∃v,arr[i]?=some ⟨k,v,i⟩/\FitsE ok w bs mem x v
structure MemOK(B:Nat)(ok:Nat->Prop)(w:World)(bs:List PB)(mem:List PO):Prop where
 len:bs.length=mem.length
 lt:∀b,ok b->b<w.heap.size
 row:∀(l:Nat)(b:PB)(rows:List (List EV)),bs[l]?=some b->mem[l]?=some (.row rows)->PRow ok w bs mem b rows
 mp:∀(l:Nat)(b:PB)(es:List (Value × EV)),bs[l]?=some b->mem[l]?=some (.map es)->JV ok w bs mem b es
 own':∀(l:Nat)(b:PB)(o:PO)(g:Nat),bs[l]?=some b->mem[l]?=some o->o.live=true->b.blk=some g->B<=g/\¬ok g
 dist':∀(l l':Nat)(b b':PB)(o o':PO)(g:Nat),bs[l]?=some b->mem[l]?=some o->o.live=true->bs[l']?=some b'->mem[l']?=some o'->o'.live=true->
  b.blk=some g->b'.blk=some g->l=l'
theorem MemOK.own{B:Nat}(h:MemOK B ok w bs mem)(l:Nat)(b:PB)(rows:List (List EV))(g:Nat)(h1:bs[l]?=some b)(h2:mem[l]?=some (.row rows))(h3:b.blk=some g):B<=g/\¬ok g:=
 h.own' l b _ g h1 h2 rfl h3
theorem MemOK.live_lt{B l g:Nat}{b:PB}{o:PO}(h:MemOK B ok w bs mem)(hb:bs[l]?=some b)(hm:mem[l]?=some o)(ho:o.live=true)(hg:b.blk=some g):g<w.heap.size:=by
 cases o with
 |dead=>cases ho
 |row rows=>
  obtain⟨cur,hc,_⟩:=(h.row l b rows hb hm).blk g hg;exact(zLr.1 hc).1
 |map es=>
  obtain⟨g',arr,h1,h2,_⟩:=h.mp l b es hb hm;rw[hg]at h1;injection h1 with h1;subst h1
  exact(zLr.1 h2).1
theorem MemOK.own_lt{B l g:Nat}{b:PB}{rows:List (List EV)}(h:MemOK B ok w bs mem)(hb:bs[l]?=some b)(hm:mem[l]?=some (.row rows))(hg:b.blk=some g):g<w.heap.size:=by
 obtain⟨cur,hc,_⟩:=(h.row l b rows hb hm).blk g hg;exact(zLr.1 hc).1
def okN(ok:Nat->Prop)(w w':World)(b:Nat):Prop:=ok b∨(w.heap.size<=b/\b<w'.heap.size)
theorem MemOK.grow{B:Nat}(h:MemOK B ok w bs mem)(hb:Below w.heap.size w w'):MemOK B (okN ok w w') w' bs mem:=by
 have hw:∀b,ok b->w'.heap[b]?=w.heap[b]?:=fun b hk=>hb.block b (h.lt b hk);refine⟨h.len,fun b hk=>?_,fun l b rows h1 h2=>?_,fun l b es h1 h2=>?_,fun l b o g h1 h2 ho h3=>?_,h.dist'⟩
 ·rcases hk with hk|hk
  ·exact Nat.lt_of_lt_of_le (h.lt b hk) hb.size
  ·exact hk.2
 ·have hr:=h.row l b rows h1 h2;refine⟨hr.size,hr.nil,hr.pos,fun g hg=>?_⟩;obtain⟨cur,hc,h4,h5,h6,h7⟩:=hr.blk g hg;refine⟨cur,?_,h4,h5,h6,fun i j r x hr hx=>?_⟩
  ·rw[hb.block g (h.own_lt h1 h2 hg)];exact hc
  ·obtain⟨u,hu,h8,h9⟩:=h7 i j r x hr hx;exact⟨u,hu,h8,h9.mono (fun b hb=>.inl hb) hw (Turn.refl bs mem)⟩
 ·obtain⟨g,arr,h3,h4,h5,h6⟩:=h.mp l b es h1 h2;refine⟨g,arr,h3,by rw[hb.block g (h.live_lt h1 h2 rfl h3)];exact h4,h5,fun i k x hx=>?_⟩;obtain⟨v,h7,h8⟩:=h6 i k x hx;exact⟨v,h7,h8.mono (fun b hb=>.inl hb) hw (Turn.refl bs mem)⟩
 ·obtain⟨h4,h5⟩:=h.own' l b o g h1 h2 ho h3;refine⟨h4,fun hk=>?_⟩;rcases hk with hk|hk
  ·exact h5 hk
  ·have:=h.live_lt h1 h2 ho h3;omega
theorem FitsE.grow{x:EV}{u:Value}(h:FitsE ok w bs mem x u)(hlt:∀b,ok b->b<w.heap.size)(hb:Below w.heap.size w w'):FitsE (okN ok w w') w' bs mem x u:=
 h.mono (fun _ hk=>.inl hk) (fun b hk=>hb.block b (hlt b hk)) (Turn.refl bs mem)
end
structure NS where
 n:Nat
 dfs:List Tmp
 gh:List (EV × Value)
 mks:Bool
 hold:List (Nat × Obj)
@[reducible] def NS.of(n:Nat):NS:=⟨n,[],[],false,[]⟩
instance:Coe Nat NS:=⟨NS.of⟩
structure ASt where
 n:NS
 fr:Nat->EV
 mem:List PO
def qc(fr:Nat->EV)(dst:Option Tmp)(x:EV):Nat->EV:=match dst with
 |none=>fr
 |some d=>fun t=>bif Nat.beq t d then x else fr t
theorem vi(fr:Nat->EV)(d:Tmp)(x:EV)(t:Nat):qc fr (some d) x t=if t=d then x else fr t:=by
 by_cases h:t=d
 ·subst h;simp[qc]
 ·have:Nat.beq t d=false:=by
   cases hb:Nat.beq t d
   ·rfl
   ·exact absurd (Nat.eq_of_beq_eq_true hb) h
  simp[qc,this,h]
structure Glob where
 holds:World->Prop
 stable:∀w w',holds w->Below w.heap.size w w'->holds w'
def Dfs(mk:Bool)(w0 w:World)(tm:Array Value):List Deferred->Nat->List Tmp->Prop
 |[],_,l=>l=[]
 |d::ds,B,l=>(mk=true/\∃D,d={target:=.collected D,args:=#[]}/\w0.heap.size<=D/\D<B/\w.heap[D]?=some (.deferred (some []))/\Dfs mk w0 w tm ds D l)∨
   ∃t l',l=t::l'/\(∃f us vs,d={target:=.fn (.func f) vs,args:=us}/\tm.getD t undef=.func (.func f) us vs)/\Dfs mk w0 w tm ds B l'
def still:Obj->Bool
 | .deferred _=>true
 | .loop _=>true
 | .stringIter ..=>true
 | .mapIter ..=>true
 |_=>false
def KD(w w':World):Prop:=w.heap.size<=w'.heap.size/\∀(D:Nat)(o:Obj),w.heap[D]?=some o->still o=true->w'.heap[D]?=some o
variable{w w' w0:World}{c mk:Bool}{args tm:Array Value}{ok:Nat->Prop}{bs:List PB}{mem:List PO}{n:NS}{fr:Nat->EV}{a:Act}{dst:Option Tmp}{u:Value}{P:Program}{G:Glob}{st:ASt}{o:Oper}{ops:Array Oper}{r:Option Nat}{Q:Exit->ASt->Prop}{l:List Oper}
theorem KD.of_below(h:Below w.heap.size w w'):KD w w':=⟨h.size,fun D o hD _=>by rw[h.block D (zLr.1 hD).1];exact hD⟩
theorem KD.refl(w:World):KD w w:=⟨zLl _,fun _ _ h _=>h⟩
theorem KD.of_cells{g:Nat}{cur:Array Value}{e:TypeId}{x:Nat × Nat}(hg:w.heap[g]?=some (.cells cur e x))(hs:w.heap.size<=w'.heap.size)(h:∀k,k<w.heap.size->k≠g->w'.heap[k]?=w.heap[k]?):KD w w':=
 ⟨hs,fun D o hD ho=>by rw[h D (zLr.1 hD).1 (fun e=>by rw[e,hg]at hD;injection hD with hD;subst hD;cases ho)];exact hD⟩
theorem Dfs.keep{tm':Array Value}:∀{ds:List Deferred}{l:List Tmp}{B B':Nat},Dfs mk w0 w tm ds B l->KD w w'->B<=B'->(∀t,t∈l->tm'.getD t undef=tm.getD t undef)->Dfs mk w0 w' tm' ds B' l
 |[],l,B,B',h,_,_,_=>by simpa only[Dfs]using h
 |d::ds,l,B,B',h,hk,hB,ht=>by
  simp only[Dfs]at h⊢;rcases h with⟨hm,D,e,h1,h2,h3,h4⟩|⟨t,l',rfl,⟨f,us,vs,e,h1⟩,h2⟩
  ·exact .inl ⟨hm,D,e,h1,Nat.lt_of_lt_of_le h2 hB,hk.2 D _ h3 rfl,Dfs.keep h4 hk (zLl _) ht⟩
  ·exact .inr ⟨t,l',rfl,⟨f,us,vs,e,(ht t (zL1 ..)).trans h1⟩,Dfs.keep h2 hk hB (fun t h=>ht t (zL3 _ h))⟩
theorem Dfs.low{x:Obj}:∀{ds:List Deferred}{l:List Tmp}{B D:Nat},Dfs mk w0 w tm ds B l->B<=D->Dfs mk w0 (w.putObj D x) tm ds B l
 |[],l,B,D,h,_=>by simpa only[Dfs]using h
 |d::ds,l,B,D,h,hB=>by
  simp only[Dfs]at h⊢;rcases h with⟨hm,E,e,h1,h2,h3,h4⟩|⟨t,l',rfl,h1,h2⟩
  ·exact .inl ⟨hm,E,e,h1,h2,by simpa[World.putObj,zL9 (show D≠E by omega)]using h3,h4.low oM⟩
  ·exact .inr ⟨t,l',rfl,h1,h2.low hB⟩
def marksOf:List Deferred->List Nat
 |[]=>[]
 |d::ds=>match d.target with
  | .collected D=>D::marksOf ds
  |_=>marksOf ds
def stl(B:Nat)(ds:List Deferred)(p:Nat × Obj):Prop:=(still p.2=true/\p.1∉marksOf ds)/\B<=p.1
def Nod(w0 w:World)(a:Act)(n:NS):Prop:=Dfs n.mks w0 w a.tmps a.defers w.heap.size n.dfs/\∀p∈n.hold,stl w0.heap.size a.defers p/\w.heap[p.1]?=some p.2
def Slots(ok:Nat->Prop)(w:World)(bs:List PB)(mem:List PO)(n:NS)(fr:Nat->EV)(a:Act):Prop:=
 (∀t,FitsE ok w bs mem (fr t) (a.tmps.getD t undef))/\∀p∈n.gh,FitsE ok w bs mem p.1 p.2
theorem Slots.map{ok':Nat->Prop}{bs':List PB}{mem':List PO}(h:Slots ok w bs mem n fr a)
  (f:∀(e:EV)(u:Value),FitsE ok w bs mem e u->FitsE ok' w' bs' mem' e u):Slots ok' w' bs' mem' n fr a:=⟨fun t=>f _ _ (h.1 t),fun p hp=>f _ _ (h.2 p hp)⟩
structure Sit(w0:World)(ok0:Nat->Prop)(st:ASt)(a:Act)(w:World):Prop where
 size:a.tmps.size=st.n.n
 nod:Nod w0 w a st.n
 below:Below w0.heap.size w0 w
 ex:∃ok bs,(∀b,ok0 b->ok b)/\(∀b,ok b->ok0 b∨w0.heap.size<=b)/\MemOK w0.heap.size ok w bs st.mem/\Slots ok w bs st.mem st.n st.fr a
theorem jy(tm:Array Value)(d t:Nat)(u z:Value):(tm.setIfInBounds d u).getD t z=if t=d/\d<tm.size then u else tm.getD t z:=by
 simp only[zLw,Array.getElem?_setIfInBounds]
 by_cases h:t=d
 ·subst h
  by_cases h2:t<tm.size
  ·simp[h2]
  ·simp[h2]
 ·have h':¬d=t:=fun e=>h e.symm;simp[h,h']
theorem size_put(a:Act)(dst:Option Tmp)(u:Value):(a.put dst u).tmps.size=a.tmps.size:=by
 unfold Act.put;split<;>simp
theorem qZ(a:Act)(dst:Option Tmp)(u:Value):(a.put dst u).defers=a.defers:=by
 unfold Act.put;split<;>rfl
def DOK(dst:Option Tmp)(n:NS):Prop:=∀d,dst=some d->d<n.n/\d∉n.dfs
theorem Nod.keep(h:Nod w0 w a n)(hk:KD w w'):Nod w0 w' a n:=⟨h.1.keep hk hk.1 (fun _ _=>rfl),fun p hp=>⟨(h.2 p hp).1,hk.2 _ _ (h.2 p hp).2 (h.2 p hp).1.1.1⟩⟩
theorem Nod.put(h:Nod w0 w a n)(hk:KD w w')(hd:DOK dst n):Nod w0 w' (a.put dst u) n:=by
 refine⟨?_,by rw[qZ];exact(h.keep hk).2⟩;rw[qZ];refine h.1.keep hk hk.1 fun t ht=>?_;cases dst with
 |none=>rfl
 |some d=>
  have hne:t≠d:=fun e=>(hd d rfl).2 (e▸ht);simp only[Act.put,jy,hne,false_and,if_false]
theorem qP{x:EV}
  (h:Slots ok w bs mem n fr a) (hx:FitsE ok w bs mem x u) (hd:∀d,dst=some d->d<a.tmps.size):
  Slots ok w bs mem n (qc fr dst x) (a.put dst u):=by
 refine⟨fun t=>?_,h.2⟩
 replace h:=h.1
 cases dst with
 |none=>exact h t
 |some d=>
  have hd':=hd d rfl;simp only[vi,Act.put,jy]
  by_cases ht:t=d
  ·simp[ht,hd',hx]
  ·simp[ht];simpa using h t
def ofV:Value->AV
 | .agg cs=>if cs.toList.all Value.oneCell' then .agg (cs.toList.map .v)else .top
 | .tuple vs=>if vs.toList.all Value.oneCell' then .tup (vs.toList.map .v)else .top
 |x=>.v x
def evO(fr:Nat->EV):Operand->EV
 | .tmp t=>fr t
 | .const x=>.pub (ofV x)
 | .global g=>.pub (.v (.pointer (some ⟨g,0,none⟩)))
 | .func f=>.pub (.fn f [] [])
section
variable{ok:Nat->Prop}{w:World}{bs:List PB}{mem:List PO}
theorem xW:∀(l:List Value),l.all Value.oneCell'=true->FitsL ok w (l.map .v) l
 |[],_=>by simp[FitsL]
 |x::xs,h=>by
  simp only[List.all_cons,zLa]at h;simp only[List.map_cons,FitsL];exact⟨x,xs,rfl,by simp[Fits,h.1],xW xs h.2⟩
theorem vX(x:Value):Fits ok w (ofV x) x:=by
 cases x with
 |agg cs=>
  show Fits ok w (if cs.toList.all Value.oneCell'=true then .agg (cs.toList.map .v)else .top) _
  by_cases h:cs.toList.all Value.oneCell'=true
  ·rw[zLc h];simp only[Fits];exact⟨cs.toList,sI,fun u hu=>by rw[zLu]at h;exact h u hu,xW _ h⟩
  ·rw[zLy h];simp[Fits]
 |tuple cs=>
  show Fits ok w (if cs.toList.all Value.oneCell'=true then .tup (cs.toList.map .v)else .top) _
  by_cases h:cs.toList.all Value.oneCell'=true
  ·rw[zLc h];simp only[Fits];exact⟨cs.toList,sI,xW _ h⟩
  ·rw[zLy h];simp[Fits]
 |_=>simp[ofV,Fits,Value.oneCell']
theorem qg{fr:Nat->EV}{a:Act}{x:Operand}(h:∀t,x=.tmp t->FitsE ok w bs mem (fr t) (a.tmps.getD t undef)):FitsE ok w bs mem (evO fr x) (a.eval x):=by
 cases x with
 |tmp t=>exact h t rfl
 |const x=>simp only[evO,FitsE,Act.eval];exact vX x
 |global g=>simp[evO,FitsE,Act.eval,Fits,Value.oneCell']
 |func f=>simp[evO,FitsE,Act.eval,Fits,FitsL]
end
def OpY(P:Program)(G:Glob)(fr:Nat->EV)(mem:List PO)(o:Oper)(x:EV):Prop:=
 ∀(B:Nat)(ok:Nat->Prop)(bs:List PB)(w:World)(a:Act),G.holds w->B<=w.heap.size->MemOK B ok w bs mem->
  (∀y∈o.op.operands,FitsE ok w bs mem (evO fr y) (a.eval y))->
  ∀(K:Act->World->Prop)(Q:Exit->Act->World->Prop),(∀u w',Below w.heap.size w w'->FitsE (okN ok w w') w' bs mem x u->K (a.put o.dst u) w')->o.wp P a w K Q
def OpM(P:Program)(G:Glob)(st:ASt)(o:Oper)(st':ASt):Prop:=
 ∀(w0:World)(ok0:Nat->Prop)(a:Act)(w:World),G.holds w0->(∀b,ok0 b->b<w0.heap.size)->Sit w0 ok0 st a w->
  ∀(K:Act->World->Prop)(Q:Exit->Act->World->Prop),(∀a' w',Sit w0 ok0 st' a' w'->K a' w')->o.wp P a w K Q
theorem q9{B:Nat}(h:Below B w0 w)(hB:B<=w.heap.size)(h':Below w.heap.size w w'):Below B w0 w':=h.trans (h'.mono hB)
theorem Sit.put{ok0:Nat->Prop}{x:EV}
  (h0:a.tmps.size=n.n) (h1:Nod w0 w a n) (h2:Below w0.heap.size w0 w)
  (h3:∀b,ok0 b->ok b) (h4:∀b,ok b->ok0 b∨w0.heap.size<=b) (h5:MemOK w0.heap.size ok w bs mem) (h6:Slots ok w bs mem n fr a)
  (hw:Below w.heap.size w w') (hx:FitsE (okN ok w w') w' bs mem x u) (hd:DOK dst n):
  Sit w0 ok0 ⟨n,qc fr dst x,mem⟩ (a.put dst u) w':=by
 refine⟨(size_put ..).trans h0,h1.put (.of_below hw) hd,q9 h2 h2.size hw,okN ok w w',bs,fun b hb=>.inl (h3 b hb),fun b hb=>?_,h5.grow hw,?_⟩
 ·rcases hb with hb|hb
  ·exact h4 b hb
  ·exact .inr (zL6 h2.size hb.1)
 ·exact qP (h6.map fun _ _ h=>h.grow h5.lt hw) hx (fun d e=>by rw[h0];exact(hd d e).1)
theorem OpY.toM{x:EV}(h:OpY P G st.fr st.mem o x)(hd:DOK o.dst st.n):
  OpM P G st o ⟨st.n,qc st.fr o.dst x,st.mem⟩:=by
 intro w0 ok0 a w hg hok hs K Q hK;obtain⟨h0,h1,h2,ok,bs,h3,h4,h5,h6⟩:=hs;exact h w0.heap.size ok bs w a (G.stable _ _ hg h2) h2.size h5 (fun y _=>qg fun t _=>h6.1 t) K Q fun u w' hw hx=>hK _ _ (Sit.put h0 h1 h2 h3 h4 h5 h6 hw hx hd)
def qe(ops:Array Oper)(fr:Nat->EV)(o:Oper):Option Bool:=match o.guard with
 |none=>some true
 |some (j,want)=>match(ops[j]?).bind (·.dst)with
  |none=>some false
  |some t=>match fr t with
   | .pub (.v (.bool b))=>some (bif want then b else !b)
   | .pub (.tup _)=>some false
   |_=>none
theorem vf{b:Bool}
  (h:∀t,FitsE ok w bs mem (fr t) (a.tmps.getD t undef)) (hsz:∀(j:Nat)(o:Oper)(t:Tmp),ops[j]?=some o->o.dst=some t->t<a.tmps.size) (he:qe ops fr o=some b):Region.wanted o (yielded ops a.tmps)=b:=by
 unfold qe at he;unfold Region.wanted;split at he
 ·rename_i hg;rw[hg];simpa using he
 ·rename_i j want hg
  rw[hg];simp only;unfold yielded;split at he
  ·rename_i hd;rw[hd];simpa using he
  ·rename_i t hd
   rw[hd]
   have hlt:t<a.tmps.size:=by
    cases ho:ops[j]?with
    |none=>simp[ho]at hd
    |some o'=>simp[ho]at hd;exact hsz j o' t ho hd
   have ht:=h t
   have e:a.tmps[t]?=some (a.tmps.getD t undef):=by
    simp[zLw,zL5 hlt]
   simp only[Option.bind_some,e];split at he
   ·rename_i b' hf
    rw[hf]at ht;simp only[FitsE,Fits]at ht;rw[ht.1];simp at he;subst he;cases b'<;>cases want<;>rfl
   ·rename_i l hf
    rw[hf]at ht;simp only[FitsE,Fits]at ht;obtain⟨vs,hv,_⟩:=ht;rw[hv];simp at he;subst he;rfl
   ·cases he
def lift(w0:World)(ok0:Nat->Prop)(Q:Exit->ASt->Prop):Exit->Act->World->Prop:=fun e a w=>∃st,Sit w0 ok0 st a w/\Q e st
def FW(r:Option Nat):Fence:={Fence.wide with round:=r}
theorem ES{n:Nat}{f:FuncId}{R:Ending->World->Prop}(h:Calls P f args w R):CallsIn (FW r) n P f args w R:=by
 have:=(callsIn_wide (n:=n)).2 h;cases r with
 |none=>exact this
 |some l=>exact this
theorem JG{n:Nat}{f:String}{R:Value->World->Prop}(h:Rows P f args w R):RowsIn (FW r) n P f args w R:=fun c cs _=>by
 obtain⟨v,w',h1,h2⟩:=h c cs;exact⟨v,w',h1,by cases r<;>exact stepsIn_wide.2 h2⟩
theorem jR{n:Nat}{K:Act->World->Prop}{Q:Exit->Act->World->Prop}(hd:∀c,o.op≠ .defer c)(h:o.wp P a w K Q):o.wpIn (FW r) n P a w K Q:=by
 refine⟨fun _ _=>trivial,?_⟩;rw[Oper.semAt_eq _ _ _ hd];unfold Oper.wp at h;cases hr:(execOp a.eval o).run P w with
 |ok x w'=>
  rw[hr]at h;cases x with
  |value v=>exact h
  |skip=>exact h
  |defer d=>exact h
  |enter f args=>
   simp only[Oper.upon]at h;simp only[Oper.uponIn];exact⟨fun hh=>by simp[FW,Fence.wide]at hh,ES h⟩
  |row f args=>
   simp only[Oper.upon]at h;simp only[Oper.uponIn];exact⟨fun hh=>by simp[FW,Fence.wide]at hh,JG h⟩
  |_=>exact h.elim
 |halt x w'=>
  rw[hr]at h;cases x<;>exact h
def xZ(o:Oper):Bool:=match o.op with| .defer _=>false|_=>true
theorem vF(h:xZ o=true):∀c,o.op≠ .defer c:=fun c e=>by unfold xZ at h;rw[e]at h;cases h
def jq(o:Oper):Bool:=o.guard.isNone&&xZ o
theorem j5(h:jq o=true):o.guard=none:=by unfold jq at h;simp only[zLa,Option.isNone_iff_eq_none]at h;exact h.1
theorem j9(h:jq o=true):∀c,o.op≠ .defer c:=by unfold jq at h;simp only[zLa]at h;exact vF h.2
def qq{r:Option Nat}(P:Program)(G:Glob)(ops:Array Oper)(l:List Oper)(st:ASt)(Q:Exit->ASt->Prop):Prop:=
 ∀(w0:World)(ok0:Nat->Prop)(a:Act)(w:World),G.holds w0->(∀b,ok0 b->b<w0.heap.size)->Sit w0 ok0 st a w->wpListIn (FW r) 0 P ops (lift w0 ok0 Q) l a w
def qp{r:Option Nat}(P:Program)(G:Glob)(c:Code)(st:ASt)(Q:Exit->ASt->Prop):Prop:=
 ∀(w0:World)(ok0:Nat->Prop)(a:Act)(w:World),G.holds w0->(∀b,ok0 b->b<w0.heap.size)->Sit w0 ok0 st a w->c.wpIn (FW r) 0 P (lift w0 ok0 Q) a w
section
variable{r:Option Nat}{P:Program}{G:Glob}{ops:Array Oper}{l:List Oper}{st st':ASt}{Q:Exit->ASt->Prop}{o:Oper}
theorem H5(h:Q .normal st):qq (r:=r) P G ops [] st Q:=fun _ _ _ _ _ _ hs=>⟨st,hs,h⟩
theorem N5(hg:jq o=true)(ho:OpM P G st o st')(h:qq (r:=r) P G ops l st' Q):qq (r:=r) P G ops (o::l) st Q:=by
 intro w0 ok0 a w hG hok hs;exact wpListIn_plain (j5 hg) fun K hK=>jR (j9 hg)<|ho w0 ok0 a w hG hok hs K _ fun a' w' hs'=>hK _ _ (h w0 ok0 a' w' hG hok hs')
def jl(ops:Array Oper)(n:NS):Bool:=ops.toList.all fun o=>xZ o&&match o.dst with|some t=>Nat.blt t n.n&& !n.dfs.contains t|none=>true
variable{n:NS}{i id:Nat}{c:Code}
theorem kq(h:jl ops n=true)(j:Nat)(o:Oper)(ho:ops[j]?=some o):DOK o.dst n:=by
 intro t ht;unfold jl at h;rw[zLu]at h;have:=h o (by simpa using Array.mem_of_getElem? ho);simp only[ht,zLa,Nat.blt_eq]at this;exact⟨this.2.1,by simpa using this.2.2⟩
theorem wy(h:jl ops n=true)(j:Nat)(o:Oper)(ho:ops[j]?=some o):∀c,o.op≠ .defer c:=by
 unfold jl at h;rw[zLu]at h;have:=h o (by simpa using Array.mem_of_getElem? ho);simp only[zLa]at this;exact vF this.1
theorem wa(h:jl ops n=true)(j:Nat)(o:Oper)(t:Tmp)(ho:ops[j]?=some o)(ht:o.dst=some t):t<n.n:=(kq h j o ho t ht).1
theorem qT(hnd:∀c,o.op≠ .defer c)(hn:jl ops st.n=true)(hg:qe ops st.fr o=some true)(ho:OpM P G st o st')(h:qq (r:=r) P G ops l st' Q):qq (r:=r) P G ops (o::l) st Q:=by
 intro w0 ok0 a w hG hok hs;refine wpListIn_step fun K hK=>?_;obtain⟨ok,bs,_,_,h5,h6⟩:=hs.ex;rw[zLc (vf h6.1 (fun j o t h1 h2=>by rw[hs.size];exact wa hn j o t h1 h2) hg)];exact jR hnd<|ho w0 ok0 a w hG hok hs K _ fun a' w' hs'=>hK _ _ (h w0 ok0 a' w' hG hok hs')
def qB(o:Oper)(n:NS):Bool:=match o.dst with|some t=>Nat.blt t n.n&&(!n.dfs.contains t&&xZ o)|none=>xZ o
theorem zo(h:qB o n=true):DOK o.dst n:=by
 intro d hd;unfold qB at h;rw[hd]at h;simp[Nat.blt_eq]at h;exact⟨h.1,h.2.1⟩
theorem xR(h:qB o n=true):∀c,o.op≠ .defer c:=by
 unfold qB at h;split at h
 ·simp only[zLa]at h;exact vF h.2.2
 ·exact vF h
theorem jN(h:qB o n=true)(d:Tmp)(hd:o.dst=some d):d<n.n:=(zo h d hd).1
theorem ox(h:jl ops n=true)(ho:ops[i]?=some o):qB o n=true:=by
 unfold jl at h;rw[zLu]at h;have:=h o (by simpa using Array.mem_of_getElem? ho);unfold qB;cases hd:o.dst with
 |none=>simp only[hd]at this⊢;simpa using this
 |some t=>
  simp only[hd,zLa]at this⊢;exact⟨this.2.1,this.2.2,this.1⟩
theorem jp{x:EV}(hg:jq o=true)(hd:qB o st.n=true)(ho:OpY P G st.fr st.mem o x)(h:qq (r:=r) P G ops l ⟨st.n,qc st.fr o.dst x,st.mem⟩ Q):qq (r:=r) P G ops (o::l) st Q:=
 N5 hg (ho.toM (zo hd)) h
theorem yC(hn:jl ops st.n=true)(hg:qe ops st.fr o=some false)(hd:DOK o.dst st.n)(h:qq (r:=r) P G ops l ⟨st.n,qc st.fr o.dst (.pub (.tup [])),st.mem⟩ Q):
  qq (r:=r) P G ops (o::l) st Q:=by
 intro w0 ok0 a w hG hok hs;refine wpListIn_step fun K hK=>?_;obtain⟨h0,h1,h2,ok,bs,h3,h4,h5,h6⟩:=hs;rw[zLy (by rw[vf h6.1 (fun j o t h1 h2=>by rw[h0];exact wa hn j o t h1 h2) hg];simp)];exact⟨fun _ _=>trivial,hK _ _ (h w0 ok0 _ w hG hok (Sit.put h0 h1 h2 h3 h4 h5 h6 (Below.refl _ _) (by simp[FitsE,Fits,FitsL,undef]) hd))⟩
theorem fH{x:EV}{c:Bool}(hn:jl ops st.n=true)(hg:qe ops st.fr o=some c)(hd:qB o st.n=true)(ho:c=true->OpY P G st.fr st.mem o x)
  (h:qq (r:=r) P G ops l ⟨st.n,qc st.fr o.dst (if c=true then x else .pub (.tup [])),st.mem⟩ Q):qq (r:=r) P G ops (o::l) st Q:=by
 cases c with
 |true=>
  simp only[if_true]at h;exact qT (xR hd) hn hg ((ho rfl).toM (zo hd)) h
 |false=>
  simp only[Bool.false_eq_true,if_false]at h;exact yC hn hg (zo hd) h
theorem lQ(h:qq (r:=r) P G l.toArray l st Q):qp (r:=r) P G (.region id l.toArray false) st Q:=
 fun w0 ok0 a w hG hok hs=>wpIn_region_lit (h w0 ok0 a w hG hok hs)
theorem J5(h:Q .normal st):qp (r:=r) P G .skip st Q:=fun _ _ _ _ _ _ hs=>wpIn_skip ⟨st,hs,h⟩
theorem Ea(h:Q .ret st):qp (r:=r) P G .ret st Q:=fun _ _ _ _ _ _ hs=>wpIn_ret ⟨st,hs,h⟩
theorem uZ(h:Q (.exit id) st):qp (r:=r) P G (.exit id) st Q:=fun _ _ _ _ _ _ hs=>wpIn_exit ⟨st,hs,h⟩
theorem J8(h:Q (.goto i) st):qp (r:=r) P G (.goto i) st Q:=fun _ _ _ _ _ _ hs=>wpIn_goto ⟨st,hs,h⟩
theorem Eh(h:Q .normal st):qp (r:=r) P G (.label i) st Q:=fun _ _ _ _ _ _ hs=>wpIn_label ⟨st,hs,h⟩
def aF(K:ASt->Prop)(Q:Exit->ASt->Prop):Exit->ASt->Prop
 | .normal,st=>K st
 |e,st=>Q e st
theorem Hj{x y:Code}(h:qp (r:=r) P G x st (aF (fun st'=>qp (r:=r) P G y st' Q) Q)):qp (r:=r) P G (.seq x y) st Q:=by
 intro w0 ok0 a w hG hok hs;refine wpIn_seq (wpIn_mono (h w0 ok0 a w hG hok hs) fun e a' w' ⟨st',hs',hq⟩=>?_);cases e<;>first|exact hq w0 ok0 a' w' hG hok hs'|exact⟨st',hs',hq⟩
def yN(id:Nat)(Q:Exit->ASt->Prop):Exit->ASt->Prop
 | .exit i,st=>if i=id then Q .normal st else Q (.exit i) st
 |e,st=>Q e st
theorem J3(h:Q .normal st):yN id Q (.exit id) st:=by simpa[yN]using h
theorem Gl(h:qp (r:=r) P G c st (yN id Q)):qp (r:=r) P G (.block id c) st Q:=by
 intro w0 ok0 a w hG hok hs;refine wpIn_block (wpIn_mono (h w0 ok0 a w hG hok hs) fun e a' w' ⟨st',hs',hq⟩=>?_);cases e with
 |exit i=>
  by_cases hi:i=id
  ·simp only[Exit.inBlock,yN,zLc hi]at hq⊢;exact⟨st',hs',hq⟩
  ·simp only[Exit.inBlock,yN,zLy hi]at hq⊢;exact⟨st',hs',hq⟩
 |_=>exact⟨st',hs',hq⟩
theorem za{c:Operand}{x y:Code}{b:Bool}(hc:evO st.fr c=.pub (.v (.bool b)))(h1:b=true->qp (r:=r) P G x st Q)(h2:b=false->qp (r:=r) P G y st Q):qp (r:=r) P G (.cond c x y) st Q:=by
 intro w0 ok0 a w hG hok hs;obtain⟨ok,bs,_,_,h5,h6⟩:=hs.ex;have he:=qg (fr:=st.fr) (a:=a) (x:=c) fun t _=>h6.1 t;rw[hc]at he;simp only[FitsE,Fits]at he;cases b with
 |true=>exact wpIn_cond_true he.1 (h1 rfl w0 ok0 a w hG hok hs)
 |false=>exact wpIn_cond_false he.1 (h2 rfl w0 ok0 a w hG hok hs)
def Weak(st st':ASt):Prop:=∀(w0:World)(ok0:Nat->Prop)(a:Act)(w:World),Sit w0 ok0 st a w->Sit w0 ok0 st' a w
theorem zt(hw:Weak st st')(h:qp (r:=r) P G c st' Q):qp (r:=r) P G c st Q:=fun w0 ok0 a w hG hok hs=>h w0 ok0 a w hG hok (hw w0 ok0 a w hs)
theorem zD{ι:Type}(I:ι->ASt)(μ:ι->Nat)(i0:ι)(h0:Weak st (I i0))
  (round:∀i,qp (r:=r) P G c (I i) (aF (fun s=>∃j,μ j<μ i/\Weak s (I j)) Q)):qp (r:=r) P G (.loop c) st Q:=by
 intro w0 ok0 a w hG hok hs;have hdec:∀(a:Act)(w:World),Decidable (∃i,Sit w0 ok0 (I i) a w):=fun _ _=>Classical.propDecidable _;have hm:∀(a:Act)(w:World),(∃i,Sit w0 ok0 (I i) a w)->∃n,∃i,Sit w0 ok0 (I i) a w/\μ i=n:=fun a w ⟨i,h⟩=>⟨μ i,i,h,rfl⟩
 have least:∀(p:Nat->Prop),(∃n,p n)->∃n,p n/\∀m,p m->n<=m:=fun p ⟨n,hn⟩=>by
  induction n using Nat.strongRecOn with
  |_ n ih=>
   by_cases h:∃m,m<n/\p m
   ·obtain⟨m,h1,h2⟩:=h;exact ih m h1 h2
   ·exact⟨n,hn,fun m hm=>Nat.le_of_not_lt fun hlt=>h ⟨m,hlt,hm⟩⟩
 let M:Act->World->Nat:=fun a w=>@dite Nat (∃i,Sit w0 ok0 (I i) a w) (hdec a w) (fun h=>Classical.choose (least _ (hm a w h))) (fun _=>0)
 have hM:∀(a:Act)(w:World),(∃i,Sit w0 ok0 (I i) a w)->(∃i,Sit w0 ok0 (I i) a w/\μ i=M a w)/\∀i,Sit w0 ok0 (I i) a w->M a w<=μ i:=fun a w h=>by
  have hs:=Classical.choose_spec (least _ (hm a w h));have e:M a w=Classical.choose (least _ (hm a w h)):=by simp only[M];rw[dif_pos h]
  rw[e];exact⟨hs.1,fun i hi=>hs.2 _ ⟨i,hi,rfl⟩⟩
 refine wpIn_loop (fun a w=>∃i,Sit w0 ok0 (I i) a w) M ⟨i0,h0 w0 ok0 a w hs⟩ fun a w hI=>?_;obtain⟨⟨i,hi,hmi⟩,_⟩:=hM a w hI;refine wpIn_mono (round i w0 ok0 a w hG hok hi) fun e a' w' ⟨st',hs',hq⟩=>?_;cases e<;>try exact⟨st',hs',hq⟩
 obtain⟨j,hj,hw⟩:=hq;have hs2:=hw w0 ok0 a' w' hs';refine⟨⟨j,hs2⟩,?_⟩;have:=(hM a' w' ⟨j,hs2⟩).2 j hs2;omega
end
def j6:EV:=.pub (.tup [])
theorem zx{j:Nat}{want:Bool}{t:Tmp}{b:Bool}(hg:o.guard=some (j,want))(hd:(ops[j]?).bind (·.dst)=some t)(ht:fr t=if c=true then .pub (.v (.bool b))else .pub (.tup [])):
  qe ops fr o=some (c&&(bif want then b else !b)):=by
 unfold qe;rw[hg];simp only[hd,ht];cases c<;>simp
theorem jY{α:Type}{d:Bool}{A Z:α}(hc:c=true):(if(c&&d)=true then A else Z)=if d=true then A else Z:=by subst hc;rfl
section
variable{P:Program}{G:Glob}{ops:Array Oper}{mem:List PO}{md:Region.Mode}
variable{fr:Nat->EV}{o oi:Oper}{v x:EV}{K Q:(Nat->EV)->Prop}{rest:List Oper}{i:Nat}{dst:Option Tmp}{r:Option Nat}
theorem OpY.of_same{fr':Nat->EV}(h:OpY P G fr mem o x)(he:∀y∈o.op.operands,evO fr' y=evO fr y):OpY P G fr' mem o x:=by
 intro B ok bs w a hg hB hm hf K Q hK;exact h B ok bs w a hg hB hm (fun y hy=>by rw[←he y hy];exact hf y hy) K Q hK
def jV(P:Program)(G:Glob)(ops:Array Oper)(mem:List PO)(Q:(Nat->EV)->Prop):List Oper->(Nat->EV)->Prop
 |[],fr=>Q fr
 |o::rest,fr=>(qe ops fr o=some true/\∃x,OpY P G fr mem o x/\jV P G ops mem Q rest (qc fr o.dst x))∨
   (qe ops fr o=some false/\jV P G ops mem Q rest (qc fr o.dst j6))
theorem Ug(hg:qe ops fr o=some true)(ho:OpY P G fr mem o x)(h:jV P G ops mem Q rest (qc fr o.dst x)):
  jV P G ops mem Q (o::rest) fr:=.inl ⟨hg,x,ho,h⟩
theorem xq(hg:qe ops fr o=some false)(h:jV P G ops mem Q rest (qc fr o.dst j6)):
  jV P G ops mem Q (o::rest) fr:=.inr ⟨hg,h⟩
theorem zH(hg:o.guard=none)(ho:OpY P G fr mem o x)(h:jV P G ops mem Q rest (qc fr o.dst x)):
  jV P G ops mem Q (o::rest) fr:=.inl ⟨by simp[qe,hg],x,ho,h⟩
theorem zq{c:Bool}(hg:qe ops fr o=some c)(ho:c=true->OpY P G fr mem o x)
  (h:jV P G ops mem Q rest (qc fr o.dst (if c=true then x else .pub (.tup [])))):jV P G ops mem Q (o::rest) fr:=by
 cases c with
 |true=>simp only[if_true]at h;exact Ug hg (ho rfl) h
 |false=>simp only[Bool.false_eq_true,if_false]at h;exact xq hg h
def qOpA(P:Program)(G:Glob)(ops:Array Oper)(mem:List PO)(i:Nat)(K:(Nat->EV)->Prop)(fr:Nat->EV):Prop:=
 match ops[i]?with
 |none=>K fr
 |some o=>(qe ops fr o=some true/\∃x,OpY P G fr mem o x/\K (qc fr o.dst x))∨(qe ops fr o=some false/\K (qc fr o.dst j6))
theorem C9{K':(Nat->EV)->Prop}(h:∀f,K f->K' f)(hh:qOpA P G ops mem i K fr):qOpA P G ops mem i K' fr:=by
 unfold qOpA at*;split
 ·rename_i ho;simp only[ho]at hh;exact h _ hh
 ·rename_i o ho
  simp only[ho]at hh;rcases hh with⟨h1,x,h2,h3⟩|⟨h1,h2⟩
  ·exact .inl ⟨h1,x,h2,h _ h3⟩
  ·exact .inr ⟨h1,h _ h2⟩
def iH(P:Program)(G:Glob)(md:Region.Mode)(ops:Array Oper)(mem:List PO)(Q:(Nat->EV)->Prop):Nat->Array Bool->(Nat->EV)->Prop
 |0,listed,fr=>Region.ready md ops listed=[]/\Q fr
 |fuel+1,listed,fr=>
  (Region.ready md ops listed=[]->Q fr)/\
  ∀i∈Region.ready md ops listed,qOpA P G ops mem i (iH P G md ops mem Q fuel (listed.setIfInBounds i true)) fr
def YieldsA(P:Program)(G:Glob)(ops:Array Oper)(mem:List PO)(o:Oper)(x:EV)(fr:Nat->EV):Prop:=
 (qe ops fr o=some true/\OpY P G fr mem o x)∨(qe ops fr o=some false/\x=j6)
theorem YieldsA.qOpA(hi:ops[i]?=some o)(hy:YieldsA P G ops mem o x fr)(h:K (qc fr o.dst x)):qOpA P G ops mem i K fr:=by
 unfold Av.qOpA;simp only[hi];rcases hy with⟨hw,hv⟩|⟨hw,rfl⟩
 ·exact .inl ⟨hw,x,hv,h⟩
 ·exact .inr ⟨hw,h⟩
theorem tc(hi:ops[i]?=some o)(h:qOpA P G ops mem i K fr):∃x,YieldsA P G ops mem o x fr/\K (qc fr o.dst x):=by
 unfold qOpA at h;simp only[hi]at h;rcases h with⟨h1,x,h2,h3⟩|⟨h1,h2⟩
 ·exact⟨x,.inl ⟨h1,h2⟩,h3⟩
 ·exact⟨j6,.inr ⟨h1,rfl⟩,h2⟩
theorem vQ(fr:Nat->EV){x y:Option Tmp}(u v:EV)(h:∀d,x=some d->y≠some d):qc (qc fr x u) y v=qc (qc fr y v) x u:=by
 cases x with
 |none=>rfl
 |some d=>
  cases y with
  |none=>rfl
  |some d'=>
   have hne:d≠d':=fun e=>h d rfl (by rw[e]);funext t;simp only[vi]
   by_cases h1:t=d
   ·subst h1;simp[hne]
   ·simp[h1]
theorem vl(h:∀d,dst=some d->d∉o.looksAt ops):∀y∈o.op.operands,evO (qc fr dst v) y=evO fr y:=by
 intro y hy;cases dst with
 |none=>rfl
 |some d=>
  cases y with
  |tmp t=>
   have hne:t≠d:=fun e=>h d rfl (by
    subst e;exact List.mem_append_left _ (List.mem_filterMap.2 ⟨.tmp t,by simpa using hy,rfl⟩))
   simp[evO,vi,hne]
  |const x=>rfl
  |global g=>rfl
  |func f=>rfl
theorem qU(h:∀d,dst=some d->d∉o.looksAt ops):qe ops (qc fr dst v) o=qe ops fr o:=by
 cases dst with
 |none=>rfl
 |some d=>
  unfold qe;cases hg:o.guard with
  |none=>rfl
  |some gw=>
   obtain⟨g,want⟩:=gw;cases ht:(ops[g]?).bind (·.dst)with
   |none=>simp only[ht]
   |some t=>
    have hne:t≠d:=fun e=>h d rfl (by subst e;simp[Oper.looksAt,hg,ht]);simp only[ht,vi,zLy hne]
theorem HG{j:Nat}{oj:Oper}(hj:ops[j]?=some oj)(hap:oi.apart ops oj=true)
  (hy:YieldsA P G ops mem oi v fr) (h:qOpA P G ops mem j K (qc fr oi.dst v)):
  qOpA P G ops mem j (fun f=>YieldsA P G ops mem oi v f/\K (qc f oi.dst v)) fr:=by
 obtain⟨h1,h2,h3⟩:=Oper.apart_spec hap
 have keep:∀u,YieldsA P G ops mem oi v (qc fr oj.dst u):=fun u=>by
  rcases hy with⟨hw,hv⟩|⟨hw,e⟩
  ·exact .inl ⟨by rw[qU h3];exact hw,hv.of_same (vl h3)⟩
  ·exact .inr ⟨by rw[qU h3];exact hw,e⟩
 unfold qOpA at*;simp only[hj]at*;rw[qU h1]at h;rcases h with⟨hw,u,hu,hn⟩|⟨hw,hn⟩
 ·refine .inl ⟨hw,u,hu.of_same (fun y hy=>(vl h1 y hy).symm),keep u,?_⟩;rw[←vQ fr v u h2];exact hn
 ·refine .inr ⟨hw,keep _,?_⟩;rw[←vQ fr v j6 h2];exact hn
theorem nG(hi:ops[i]?=some oi):
  ∀(fuel:Nat)(listed:Array Bool)(fr:Nat->EV),
   (∀(j:Nat)(oj:Oper),ops[j]?=some oj->j≠i->listed.getD j true=false->(∀e∈oj.after,Region.binds md e=true->e.on≠i)->oi.apart ops oj=true)->
   i∈Region.ready md ops listed->YieldsA P G ops mem oi v fr->
   iH P G md ops mem Q fuel (listed.setIfInBounds i true) (qc fr oi.dst v)->iH P G md ops mem Q (fuel+1) listed fr:=by
 intro fuel
 induction fuel with
 |zero=>
  intro listed fr _ hr hy H;refine⟨fun h=>(by rw[h]at hr;cases hr),fun j hj=>?_⟩
  by_cases hji:j=i
  ·subst hji;exact hy.qOpA hi H
  ·have:=ready_mono hj hji;rw[H.1]at this;cases this
 |succ fuel ih=>
  intro listed fr hfree hr hy H;refine⟨fun h=>(by rw[h]at hr;cases hr),fun j hj=>?_⟩
  by_cases hji:j=i
  ·subst hji;exact hy.qOpA hi H
  ·have h1:=H.2 j (ready_mono hj hji);obtain⟨hjun,oj,hoj,hall⟩:=mem_ready.1 hj
   have hnot:∀e∈oj.after,Region.binds md e=true->e.on≠i:=fun e he hb heq=>by
    have h1:=hall e he hb;have h0:=(mem_ready.1 hr).1;rw[heq]at h1;rcases Nat.lt_or_ge i listed.size with h'|h'
    ·simp[h']at h0 h1;rw[h0]at h1;cases h1
    ·simp[Array.getElem?_eq_none h']at h1
   have h2:=HG hoj (hfree j oj hoj hji hjun hnot) hy h1
   have hfree':∀(k:Nat)(ok:Oper),ops[k]?=some ok->k≠i->(listed.setIfInBounds j true).getD k true=false->
     (∀e∈ok.after,Region.binds md e=true->e.on≠i)->oi.apart ops ok=true:=fun k ok hk hki hun hno=>by
    refine hfree k ok hk hki ?_ hno
    by_cases hjk:j=k
    ·subst hjk;exact hjun
    ·rw[getD_set_ne true hjk]at hun;exact hun
   refine C9 (fun f h3=>ih (listed.setIfInBounds j true) f hfree' (ready_mono hr (Ne.symm hji)) h3.1 ?_) h2;rw[Array.setIfInBounds_comm _ _ hji];exact h3.2
theorem fV:∀(l:List Oper)(k:Nat)(listed:Array Bool)(fr:Nat->EV),(∀(j:Nat),l[j]?=ops[k+j]?)->
  Region.lexFrom md ops l.length k listed=true->jV P G ops mem Q l fr->iH P G md ops mem Q l.length listed fr
 |[],_,_,_,_,hB,h=>⟨by simpa[Region.lexFrom]using hB,h⟩
 |o::l,k,listed,fr,hl,hB,h=>by
  have h0:ops[k]?=some o:=by simpa using(hl 0).symm
  simp only[List.length_cons,Region.lexFrom,zLa]at hB;obtain⟨⟨hr,hf⟩,hB'⟩:=hB;have hst:qOpA P G ops mem k (jV P G ops mem Q l) fr:=by unfold qOpA;simp only[h0];exact h
  obtain⟨v,hy,hK⟩:=tc h0 hst
  exact nG h0 l.length listed fr (Region.free_spec h0 hf) (by simpa using hr) hy
   (fV l (k+1) _ _ (fun j=>by have:=hl (j+1);simpa[Nat.add_assoc,Nat.add_comm 1 j]using this) hB' hK)
theorem ky{w0:World}{ok0:Nat->Prop}{n:NS}{Q':Exit->Act->World->Prop}(hG:G.holds w0)(hok:∀b,ok0 b->b<w0.heap.size)(hn:jl ops n=true)
  (hQ:∀fr a w,Sit w0 ok0 ⟨n,fr,mem⟩ a w->Q fr->Q' .normal a w):∀(fuel:Nat)(listed:Array Bool)(fr:Nat->EV)(a:Act)(w:World),Sit w0 ok0 ⟨n,fr,mem⟩ a w->
  iH P G md ops mem Q fuel listed fr->wpAnyIn (FW r) 0 P md ops Q' fuel listed a w
 |0,_,_,_,_,hs,h=>⟨h.1,hQ _ _ _ hs h.2⟩
 |fuel+1,_,fr,a,w,hs,h=>⟨fun h0=>hQ _ _ _ hs (h.1 h0),fun i hi=>by
   have h1:=h.2 i hi;unfold qOpA at h1;unfold wpOpIn;split
   ·rename_i ho;simp only[ho]at h1;exact ky hG hok hn hQ fuel _ _ _ _ hs h1
   ·rename_i o ho
    simp only[ho]at h1;have hd:DOK o.dst n:=kq hn i o ho;obtain⟨_,_,_,_,_,h6⟩:=hs.ex;have hsz:=hs.size
    have hwant:∀b,qe ops fr o=some b->Region.wanted o (yielded ops a.tmps)=b:=fun b hb=>
     vf h6.1 (fun j o t h1 h2=>by rw[hsz];exact wa hn j o t h1 h2) hb
    rcases h1 with⟨hw,x,hx,hK⟩|⟨hw,hK⟩
    ·rw[zLc (hwant true hw)];exact jR (wy hn i o ho) (hx.toM (st:=⟨n,fr,mem⟩) hd w0 ok0 a w hG hok hs _ _ fun a' w' hs'=>ky hG hok hn hQ fuel _ _ a' w' hs' hK)
    ·rw[zLy (by rw[hwant false hw];simp)];obtain⟨h0,h1,h2,ok,bs,h3,h4,h5,h6⟩:=hs;exact⟨fun _ _=>trivial,ky hG hok hn hQ fuel _ _ _ _ (Sit.put h0 h1 h2 h3 h4 h5 h6 (Below.refl _ _) (by simp[j6,FitsE,Fits,FitsL,undef]) hd) hK⟩⟩
theorem zN{id:Nat}{l:List Oper}{st:ASt}{Q:Exit->ASt->Prop}(hm:P.follows .mixedOrders=true)(hB:Region.lexB .any l.toArray=true)(hn:jl l.toArray st.n=true)
  (h:jV P G l.toArray st.mem (fun fr=>Q .normal ⟨st.n,fr,st.mem⟩) l st.fr):qp (r:=r) P G (.region id l.toArray true) st Q:=by
 intro w0 ok0 a w hG hok hs;simp only[Region.lexB,zLa]at hB;refine wpIn_region_any hm ?_
 have hs':Sit w0 ok0 st a {w with drawn:=w.drawn+1}:=by
  obtain⟨h0,h1,h2,ok,bs,h3,h4,h5,h6⟩:=hs;have hb:Below w.heap.size w w.drew:=(Below.refl _ _).drew;refine⟨h0,h1.keep (.of_below hb),q9 h2 h2.size hb,okN ok w w.drew,bs,fun b hb=>.inl (h3 b hb),fun b hb=>?_,h5.grow hb,h6.map fun _ _ h=>h.grow h5.lt hb⟩;rcases hb with hb|hb
  ·exact h4 b hb
  ·exact .inr (zL6 h2.size hb.1)
 refine ky (G:=G) (mem:=st.mem) (n:=st.n) (Q:=fun fr=>Q .normal ⟨st.n,fr,st.mem⟩) hG hok hn (fun fr a w hs hq=>⟨_,hs,hq⟩) _ _ st.fr a _ hs' ?_;have:=fV (md:=.any) l 0 (Array.replicate l.toArray.size false) st.fr sI (by simpa using hB.2) h;simpa using this
end
abbrev I(n:Int):EV:=.pub (.v (.int .i64 n))
abbrev B(b:Bool):EV:=.pub (.v (.bool b))
abbrev S(s:ByteArray):EV:=.pub (.v (.string s))
section
variable{P:Program}{G:Glob}{fr:Nat->EV}{mem:List PO}{o:Oper}
variable{w:World}{c u v:Value}{ok:Nat->Prop}{bs:List PB}{x y:Operand}{l n:Nat}{e:EV}{b:Bool}{p q:Int}{op:BinOp}{T U:TypeId}{k:IntKind}{tys:Array TypeId}
theorem qx{a:Act}{w':World}{K:Act->World->Prop}{Q:Exit->Act->World->Prop}(h:(execOp a.eval o).run P w=.ok (.value u) w')(hK:K (a.put o.dst u) w'):o.wp P a w K Q:=by
 unfold Oper.wp;rw[h];exact hK
theorem HQ{x:EV}(h:FitsE ok w bs mem x u):FitsE (okN ok w w) w bs mem x u:=
 h.mono (fun _ hk=>.inl hk) (fun _ _=>rfl) (Turn.refl _ _)
theorem qb{x:EV}(h:∀(ok:Nat->Prop)(bs:List PB)(w:World)(a:Act),G.holds w->(∃n,MemOK n ok w bs mem)->(∀y∈o.op.operands,FitsE ok w bs mem (evO fr y) (a.eval y))->
  ∃u,(execOp a.eval o).run P w=.ok (.value u) w/\FitsE ok w bs mem x u):OpY P G fr mem o x:=by
 intro n ok bs w a hG hn hm hf K Q hK;obtain⟨u,hr,hx⟩:=h ok bs w a hG ⟨n,hm⟩ hf;exact qx hr (hK u w (Below.refl _ _) (HQ hx))
theorem mj(ho:o.op=.move x):OpY P G fr mem o (evO fr x):=
 qb fun ok bs w a _ _ hf=>⟨a.eval x,by simp[execOp,ho],hf x (by simp[ho,Op.operands])⟩
theorem ci(ho:o.op=.assign x):OpY P G fr mem o (evO fr x):=
 qb fun ok bs w a _ _ hf=>⟨a.eval x,by simp[execOp,ho],hf x (by simp[ho,Op.operands])⟩
theorem zX(ho:o.op=.move x)(hx:evO fr x=.pub (.v c)):OpY P G fr mem o (.pub (.v c)):=hx▸mj ho
theorem xP(ho:o.op=.assign x)(hx:evO fr x=.pub (.v c)):OpY P G fr mem o (.pub (.v c)):=hx▸ci ho
theorem xF{c:AV}(ho:o.op=.move x)(hx:evO fr x=.pub c):OpY P G fr mem o (.pub c):=hx▸mj ho
theorem By{c:AV}(ho:o.op=.assign x)(hx:evO fr x=.pub c):OpY P G fr mem o (.pub c):=hx▸ci ho
theorem JI(ho:o.op=.move x)(hx:evO fr x=.psl l n):OpY P G fr mem o (.psl l n):=hx▸mj ho
theorem Da(ho:o.op=.assign x)(hx:evO fr x=.psl l n):OpY P G fr mem o (.psl l n):=hx▸ci ho
theorem e9(ho:o.op=.move x)(hx:evO fr x=e):OpY P G fr mem o e:=hx▸mj ho
theorem lI(ho:o.op=.assign x)(hx:evO fr x=e):OpY P G fr mem o e:=hx▸ci ho
theorem wH{a:Act}(h:FitsE ok w bs mem (evO fr y) (a.eval y))(he:evO fr y=.pub (.v v)):a.eval y=v:=by
 rw[he]at h;simp only[FitsE,Fits]at h;exact h.1
theorem qA(h:v.oneCell'=true):FitsE ok w bs mem (.pub (.v v)) v:=by
 simp only[FitsE,Fits];exact⟨trivial,h⟩
theorem wm{c:Operand}(ho:o.op=.pick c x y)(hc:evO fr c=B b)(h1:b=true->evO fr x=e)(h2:b=false->evO fr y=e):OpY P G fr mem o e:=
 qb fun ok bs w a _ _ hf=>by
  have hce:=wH (hf c (by simp[ho,Op.operands])) hc;cases b with
  |true=>exact⟨a.eval x,by simp[execOp,ho,hce,asBool],by rw[←h1 rfl];exact hf x (by simp[ho,Op.operands])⟩
  |false=>exact⟨a.eval y,by simp[execOp,ho,hce,asBool],by rw[←h2 rfl];exact hf y (by simp[ho,Op.operands])⟩
theorem vB{c:Operand}{q:Bool}(ho:o.op=.pick c x y)(hc:evO fr c=B b)(hx:evO fr x=if b=true then B q else .pub (.tup []))(hy:evO fr y=B false):OpY P G fr mem o (B (b&&q)):=
 wm ho hc (fun h=>by rw[hx];simp[h]) (fun h=>by rw[hy];simp[h])
theorem ju{c:Operand}{q:Bool}(ho:o.op=.pick c x y)(hc:evO fr c=B b)(hx:evO fr x=B true)(hy:evO fr y=if(!b)=true then B q else .pub (.tup [])):OpY P G fr mem o (B (b||q)):=
 wm ho hc (fun h=>by rw[hx];simp[h]) (fun h=>by rw[hy];simp[h])
theorem jP(ho:o.op=.binOp op T x y U)(hx:evO fr x=.pub (.v (.int k p)))(hy:evO fr y=.pub (.v (.int k q)))
  (hr:∀w:World,(binOp op T (.int k p) (.int k q)).run P w=.ok c w) (hc:c.oneCell'=true):OpY P G fr mem o (.pub (.v c)):=
 qb fun ok bs w a _ _ hf=>by
  have h1:=wH (hf x (by simp[ho,Op.operands])) hx;have h2:=wH (hf y (by simp[ho,Op.operands])) hy;refine⟨c,?_,qA hc⟩;simp only[execOp,ho,h1,h2]
  have hg:(eqGuard op T x y (.int k p) (.int k q)).run P w=.ok () w:=by
   unfold eqGuard;split<;>rfl
  simp[hg,hr w]
theorem wrap_i64{n:Int}(h1:-9223372036854775808<=n)(h2:n<=9223372036854775807):IntKind.i64.wrap n=n:=by
 rw[IntKind.wrap_i64];omega
theorem vA(ho:o.op=.binOp .add T x y U)(hx:evO fr x=I p)(hy:evO fr y=I q)
  (hb:-9223372036854775808<=p+q/\p+q<=9223372036854775807):OpY P G fr mem o (I (p+q)):=
 jP ho hx hy (fun w=>by simp[binOp,Op.intArith,wrap_i64 hb.1 hb.2]) rfl
theorem j4(ho:o.op=.binOp .sub T x y U)(hx:evO fr x=I p)(hy:evO fr y=I q)
  (hb:-9223372036854775808<=p-q/\p-q<=9223372036854775807):OpY P G fr mem o (I (p-q)):=
 jP ho hx hy (fun w=>by simp[binOp,Op.intArith,wrap_i64 hb.1 hb.2]) rfl
theorem y7(ho:o.op=.binOp .mul T x y U)(hx:evO fr x=I p)(hy:evO fr y=I q)
  (hb:-9223372036854775808<=p*q/\p*q<=9223372036854775807):OpY P G fr mem o (I (p*q)):=
 jP ho hx hy (fun w=>by simp[binOp,Op.intArith,wrap_i64 hb.1 hb.2]) rfl
theorem dH(ho:o.op=.binOp .quo T x y U)(hx:evO fr x=I p)(hy:evO fr y=I q)
  (hb:0<=p/\p<=9223372036854775807/\0<q):OpY P G fr mem o (I (p/q)):=
 jP ho hx hy (fun w=>by
  have h0:q≠0:=oM;have h1:p.tdiv q=p/q:=Int.tdiv_eq_ediv_of_nonneg hb.1;have h2:0<=p/q:=Int.ediv_nonneg hb.1 oM;have h3:p/q<=p:=Int.ediv_le_self _ hb.1;simp[binOp,Op.intDiv,h0,h1,wrap_i64 (by omega:-9223372036854775808<=p/q) oM]) rfl
theorem fW(ho:o.op=.binOp .rem T x y U)(hx:evO fr x=I p)(hy:evO fr y=I q)
  (hb:0<=p/\0<q):OpY P G fr mem o (I (p % q)):=
 jP ho hx hy (fun w=>by
  have h0:q≠0:=oM;have h1:p.tmod q=p % q:=Int.tmod_eq_emod_of_nonneg hb.1;simp[binOp,Op.intDiv,h0,h1]) rfl
theorem y6(ho:o.op=.binOp .lss T x y U)(hx:evO fr x=.pub (.v (.int k p)))(hy:evO fr y=.pub (.v (.int k q))):OpY P G fr mem o (B (decide (p<q))):=
 jP ho hx hy (fun w=>by simp[binOp,Op.intCmp]) rfl
theorem bE(ho:o.op=.binOp .leq T x y U)(hx:evO fr x=.pub (.v (.int k p)))(hy:evO fr y=.pub (.v (.int k q))):OpY P G fr mem o (B (decide (p<=q))):=
 jP ho hx hy (fun w=>by simp[binOp,Op.intCmp]) rfl
theorem yq(ho:o.op=.binOp .gtr T x y U)(hx:evO fr x=.pub (.v (.int k p)))(hy:evO fr y=.pub (.v (.int k q))):OpY P G fr mem o (B (decide (q<p))):=
 jP ho hx hy (fun w=>by simp[binOp,Op.intCmp]) rfl
theorem g9(ho:o.op=.binOp .geq T x y U)(hx:evO fr x=.pub (.v (.int k p)))(hy:evO fr y=.pub (.v (.int k q))):OpY P G fr mem o (B (decide (q<=p))):=
 jP ho hx hy (fun w=>by simp[binOp,Op.intCmp]) rfl
theorem vr(ho:o.op=.binOp .eql T x y U)(hx:evO fr x=.pub (.v (.int k p)))(hy:evO fr y=.pub (.v (.int k q))):OpY P G fr mem o (B (p==q)):=
 jP ho hx hy (fun w=>by simp[binOp,Op.intCmp]) rfl
theorem fM(ho:o.op=.binOp .neq T x y U)(hx:evO fr x=.pub (.v (.int k p)))(hy:evO fr y=.pub (.v (.int k q))):OpY P G fr mem o (B (p !=q)):=
 jP ho hx hy (fun w=>by simp[binOp,Op.intCmp]) rfl
theorem Be{p q:Value}(ho:o.op=.binOp op T x y U)(hx:evO fr x=.pub (.v p))(hy:evO fr y=.pub (.v q))
  (hr:∀w:World,(do eqGuard op T x y p q;binOp op T p q:Sem Value).run P w=.ok c w) (hc:c.oneCell'=true):OpY P G fr mem o (.pub (.v c)):=
 qb fun ok bs w a _ _ hf=>by
  have h1:=wH (hf x (by simp[ho,Op.operands])) hx;have h2:=wH (hf y (by simp[ho,Op.operands])) hy;refine⟨c,?_,qA hc⟩;simp only[execOp,ho,h1,h2];have:=hr w;simp only[Sem.run_bind]at this⊢;rw[this];simp
theorem Qs{p q:Bool}(ho:o.op=.binOp .eql T x y U)(hx:evO fr x=B p)(hy:evO fr y=B q)(ht:P.underlying T=some .bool):OpY P G fr mem o (B (p==q)):=
 Be ho hx hy (fun w=>by simp[eqGuard,run_eql_bool w T p q ht]) rfl
theorem q0{p:Bool}(ho:o.op=.unOp .not T x)(hx:evO fr x=B p):OpY P G fr mem o (B (!p)):=
 qb fun ok bs w a _ _ hf=>by
  have h1:=wH (hf x (by simp[ho,Op.operands])) hx;exact⟨_,by simp[execOp,ho,h1,Op.unary],qA rfl⟩
theorem AI(ho:o.op=.unOp .neg T x)(hx:evO fr x=I p)(hb:-9223372036854775807<=p/\p<=9223372036854775807):OpY P G fr mem o (I (-p)):=
 qb fun ok bs w a _ _ hf=>by
  have h1:=wH (hf x (by simp[ho,Op.operands])) hx;exact⟨_,by simp[execOp,ho,h1,Op.unary,Op.intArith,wrap_i64 (by omega:-9223372036854775808<=-p) oM],qA rfl⟩
theorem U2(ho:o.op=.call {callee:=.builtin .max,args:=#[x,y],argTypes:=tys})(hx:evO fr x=I p)(hy:evO fr y=I q):OpY P G fr mem o (I (max p q)):=
 qb fun ok bs w a _ _ hf=>by
  have h1:=wH (hf x (by simp[ho,Op.operands,Call.operands])) hx;have h2:=wH (hf y (by simp[ho,Op.operands,Call.operands])) hy;refine⟨_,?_,qA rfl⟩;have e:(if q>p then q else p)=max p q:=by split<;>omega
  simp[execOp,ho,resolve,invoke,builtin,Builtin.max_,Builtin.max2,h1,h2,e]
theorem Ul(ho:o.op=.call {callee:=.builtin .min,args:=#[x,y],argTypes:=tys})(hx:evO fr x=I p)(hy:evO fr y=I q):OpY P G fr mem o (I (min p q)):=
 qb fun ok bs w a _ _ hf=>by
  have h1:=wH (hf x (by simp[ho,Op.operands,Call.operands])) hx;have h2:=wH (hf y (by simp[ho,Op.operands,Call.operands])) hy;refine⟨_,?_,qA rfl⟩;have e:(if q<p then q else p)=min p q:=by split<;>omega
  simp[execOp,ho,resolve,invoke,builtin,Builtin.min_,Builtin.min2,h1,h2,e]
theorem zM{rows:List (List AV)}{ty:TypeId}(ho:o.op=.call {callee:=.builtin .len,args:=#[x],argTypes:=#[T]})(_ht:o.type=ty)(hx:evO fr x=.pub (.sl rows))(hu:P.underlying T=some (.slice U)):
  OpY P G fr mem o (I (rows.length:Int)):=
 qb fun ok bs w a _ _ hf=>by
  have h:=hf x (by simp[ho,Op.operands,Call.operands]);rw[hx]at h;simp only[FitsE,Fits]at h;obtain⟨ad,c,size,e,_⟩:=h;exact⟨_,by simp[execOp,ho,resolve,invoke,builtin,Builtin.len_,run_underlying hu,e,goInt],qA rfl⟩
theorem y5{c:Nat}(ho:o.op=.call {callee:=.builtin .len,args:=#[x],argTypes:=#[T]})(hx:evO fr x=.pub (.v (.slice none 0 c)))(hu:P.underlying T=some (.slice U)):
  OpY P G fr mem o (I 0):=
 qb fun ok bs w a _ _ hf=>by
  have h:=wH (hf x (by simp[ho,Op.operands,Call.operands])) hx;exact⟨_,by simp[execOp,ho,resolve,invoke,builtin,Builtin.len_,run_underlying hu,h,goInt],qA rfl⟩
theorem kl{s:ByteArray}(ho:o.op=.call {callee:=.builtin .len,args:=#[x],argTypes:=#[T]})(hx:evO fr x=S s)(hu:P.underlying T=some .string):
  OpY P G fr mem o (I (s.size:Int)):=
 qb fun ok bs w a _ _ hf=>by
  have h:=wH (hf x (by simp[ho,Op.operands,Call.operands])) hx;exact⟨_,by simp[execOp,ho,resolve,invoke,builtin,Builtin.len_,run_underlying hu,h,goInt],qA rfl⟩
theorem jJ{rows:List (List EV)}(ho:o.op=.call {callee:=.builtin .len,args:=#[x],argTypes:=#[T]})(hx:evO fr x=.psl l n)(hm:mem[l]?=some (.row rows))(hn:rows.length=n)
  (hu:P.underlying T=some (.slice U)):OpY P G fr mem o (I (n:Int)):=
 qb fun ok bs w a _ hmo hf=>by
  have h:=hf x (by simp[ho,Op.operands,Call.operands]);rw[hx]at h;simp only[FitsE]at h;obtain⟨b,hb,h⟩:=h;have e:=(h rows hm).2 hn;obtain⟨k,hmo⟩:=hmo;have hr:=hmo.row l b rows hb hm;unfold PB.sl at e;cases hk:b.blk with
  |none=>
   rw[hk]at e;simp only at e;have hz:n=0:=by rw[←hn,hr.nil hk];rfl
   subst hz;exact⟨_,by simp[execOp,ho,resolve,invoke,builtin,Builtin.len_,run_underlying hu,e,goInt],qA rfl⟩
  |some g=>
   rw[hk]at e;simp only at e;exact⟨_,by simp[execOp,ho,resolve,invoke,builtin,Builtin.len_,run_underlying hu,e,goInt],qA rfl⟩
end
def zS(P:Program)(T:TypeId)(agg:Bool)(size:Nat):Bool:=match P.underlying T,P.info? T with
 |some d,some i=>(match d with| .struct _| .array _ _=>true|_=>false)==agg&&i.size==size
 |_,_=>false
def zO(P:Program)(T:TypeId)(k off:Nat):Bool:=match P.underlying T with
 |some (.struct fs)=>match fs[k]?with
  |some f=>f.offset==off&&(match P.info? f.type with|some i=>i.size !=0|none=>false)
  |none=>false
 |_=>false
def qV(P:Program)(T:TypeId)(size:Nat):Bool:=match P.underlying T with
 |some (.slice e)=>(match P.info? e with|some i=>i.size==size|none=>false)
 |_=>false
def vy(P:Program)(T:TypeId)(len size:Nat):Bool:=match P.underlying T with
 |some (.array n e)=>n==len&&(match P.info? e with|some i=>i.size==size|none=>false)
 |_=>false
section
variable{P:Program}
variable{T:TypeId}{agg:Bool}{i j k l n off size:Nat}{x y:Operand}{cs:List AV}{rows:List (List EV)}{c:AV}{r:List EV}{p:Int}{e:EV}{f:FuncId}
theorem yf(h:zS P T agg size=true)(w:World):(isAgg T).run P w=.ok agg w:=by
 unfold zS at h;split at h
 ·rename_i d i h1 h2
  simp only[zLa,beq_iff_eq]at h;unfold isAgg;simp only[Sem.run_bind,run_underlying h1,Result.andThen_ok];rw[←h.1];cases d<;>rfl
 ·cases h
theorem aj(h:zS P T agg size=true)(w:World):(sizeOf T).run P w=.ok size w:=by
 unfold zS at h;split at h
 ·rename_i d i h1 h2
  simp only[zLa,beq_iff_eq]at h;simp[sizeOf,typeInfo,h2,h.2]
 ·cases h
theorem ua(h:qV P T size=true):∃e,P.underlying T=some (.slice e)/\∀w:World,(sizeOf e).run P w=.ok size w:=by
 unfold qV at h;split at h
 ·rename_i e h1
  split at h
  ·rename_i i h2
   exact⟨e,h1,fun w=>by simp at h;simp[sizeOf,typeInfo,h2,h]⟩
  ·cases h
 ·cases h
theorem nv(h:vy P T n size=true):∃e,P.underlying T=some (.array n e)/\∀w:World,(sizeOf e).run P w=.ok size w:=by
 unfold vy at h;split at h
 ·rename_i m e h1
  simp only[zLa,beq_iff_eq]at h;obtain⟨rfl,h⟩:=h;split at h
  ·rename_i i h2
   exact⟨e,h1,fun w=>by simp at h;simp[sizeOf,typeInfo,h2,h]⟩
  ·cases h
 ·cases h
theorem gG(h:zO P T k off=true)(b o:Nat)(w:World):(Instr.fieldAt T (.pointer (some ⟨b,o,none⟩)) k).run P w=.ok (.pointer (some ⟨b,o+off,none⟩)) w:=by
 unfold zO at h;split at h
 ·rename_i fs h1
  split at h
  ·rename_i f h2
   simp only[zLa,beq_iff_eq]at h;obtain⟨h3,h4⟩:=h;split at h4
   ·rename_i i h5
    have hz:i.size≠0:=by simpa using h4
    simp[Instr.fieldAt,run_underlying h1,h2,Instr.sureAddr,fieldPlace,sizeOf,typeInfo,h5,hz,Addr.add_lit,h3]
   ·cases h4
  ·cases h
 ·cases h
variable{G:Glob}{fr:Nat->EV}{mem:List PO}{o:Oper}
theorem zf(ho:o.op=.fieldAddr T x k)(hx:evO fr x=.pub (.ptr cs))(hf:zO P T k off=true):OpY P G fr mem o (.pub (.ptr (cs.drop off))):=
 qb fun ok bs w a _ _ hfit=>by
  have h:=hfit x (by simp[ho,Op.operands]);rw[hx]at h;simp only[FitsE,Fits]at h;obtain⟨b,o',e,hb,hc⟩:=h;refine⟨.pointer (some ⟨b,o'+off,none⟩),?_,?_⟩
  ·simp[execOp,ho,e,gG hf b o' w]
  ·simp only[FitsE,Fits];exact⟨b,o'+off,rfl,hb,hc.drop off⟩
theorem ze(ho:o.op=.fieldAddr T x k)(hx:evO fr x=.pp l n i j)(hm:mem[l]?=some (.row rows))(hn:rows.length=n)(hf:zO P T k off=true):
  OpY P G fr mem o (.pp l n i (j+off)):=
 qb fun ok bs w a _ _ hfit=>by
  have h:=hfit x (by simp[ho,Op.operands]);rw[hx]at h;simp only[FitsE]at h;obtain⟨b,hb,h⟩:=h;obtain⟨h1,h2⟩:=h rows hm;obtain⟨g,hg,e⟩:=h2 hn;refine⟨.pointer (some ⟨g,i*b.size+j+off,none⟩),by simp[execOp,ho,e,gG hf],?_⟩;simp only[FitsE];refine⟨b,hb,fun rows' hm'=>?_⟩;rw[hm]at hm';injection hm' with hm'
  injection hm' with hm'
  subst hm';exact⟨h1,fun _=>⟨g,hg,by simp[Nat.add_assoc]⟩⟩
theorem nh{ok:Nat->Prop}{w:World}{b:Nat}:∀{cs:List AV},FitsC ok w b off cs->∃us:List Value,us.length=cs.length/\(∀u∈us,u.oneCell'=true)/\FitsL ok w cs us/\∀(j:Nat)(v:Value),us[j]?=some v->w.cell? ⟨b,off+j,none⟩=some v:=by
 intro cs
 induction cs generalizing off with
 |nil=>intro _;exact⟨[],rfl,sI,by simp[FitsL],sI⟩
 |cons x xs ih=>
  intro h;simp only[FitsC]at h;obtain⟨⟨u,h1,h2,h3⟩,h4⟩:=h;obtain⟨us,h5,h6,h7,h8⟩:=ih h4;refine⟨u::us,by simp[h5],?_,?_,?_⟩
  ·intro v hv;rcases List.mem_cons.1 hv with rfl|hv
   ·exact h2
   ·exact h6 v hv
  ·simp only[FitsL];exact⟨u,us,rfl,h3,h7⟩
  ·intro j v hv;cases j with
   |zero=>simp at hv;subst hv;simpa using h1
   |succ j=>
    simp at hv;have:=h8 j v hv;rwa[Nat.add_assoc,Nat.add_comm 1 j]at this
theorem zl(ho:o.op=.load T x)(hx:evO fr x=.pub (.ptr cs))(hc:cs[0]?=some c)(ht:zS P T false 1=true):OpY P G fr mem o (.pub c):=
 qb fun ok bs w a _ _ hfit=>by
  have h:=hfit x (by simp[ho,Op.operands]);rw[hx]at h;simp only[FitsE,Fits]at h;obtain⟨b,o',e,hb,hcs⟩:=h;obtain⟨u,h1,h2,h3⟩:=hcs.get hc;refine⟨u,?_,by simpa only[FitsE]using h3⟩;have h1':w.cell? ⟨b,o',none⟩=some u:=h1;simp[execOp,ho,e,Instr.loadAt,Instr.sureAddr,loadVar,yf ht,h1']
theorem wK(ht:zS P T true size=true){w:World}{b:Nat}(us:List Value)(hl:us.length=size)(h:∀(j:Nat)(v:Value),us[j]?=some v->w.cell? ⟨b,off+j,none⟩=some v):
  (loadVar T ⟨b,off,none⟩).run P w=.ok (.agg us.toArray) w:=by
 have:=run_loadCells_list (P:=P) (w:=w) ⟨b,off,none⟩ us (fun j v hj=>by rw[Addr.add_lit];exact h j v hj);rw[hl]at this;simp[loadVar,yf ht,aj ht,this]
theorem qk(ho:o.op=.load T x)(hx:evO fr x=.pub (.ptr cs))(ht:zS P T true size=true)(hl:size<=cs.length):OpY P G fr mem o (.pub (.agg (cs.take size))):=
 qb fun ok bs w a _ _ hfit=>by
  have h:=hfit x (by simp[ho,Op.operands]);rw[hx]at h;simp only[FitsE,Fits]at h;obtain⟨b,o',e,hb,hcs⟩:=h;obtain⟨us,h1,h2,h3,h4⟩:=nh (hcs.take size);have hlen:us.length=size:=by rw[h1,List.length_take];omega
  refine⟨.agg us.toArray,?_,?_⟩
  ·simp[execOp,ho,e,Instr.loadAt,Instr.sureAddr,wK ht us hlen h4]
  ·simp only[FitsE,Fits];exact⟨us,rfl,h2,h3⟩
theorem ic{ok:Nat->Prop}{w:World}{bs:List PB}{b:PB}(hmo:MemOK n ok w bs mem)(hb:bs[l]?=some b)(hm:mem[l]?=some (.row rows)){g:Nat}(hg:b.blk=some g)
    {x:EV} (hr:rows[i]?=some r) (hx:r[j]?=some x):∃u,w.cell? ⟨g,i*b.size+j,none⟩=some u/\u.oneCell'=true/\FitsE ok w bs mem x u:=by
 obtain⟨cur,hc,_,_,_,h⟩:=(hmo.row l b rows hb hm).blk g hg;obtain⟨u,h1,h2,h3⟩:=h i j r x hr hx;exact⟨u,by rw[cell_of_row w g _ cur _ _ hc];exact h1,h2,h3⟩
theorem zg{c:EV}(ho:o.op=.load T x)(hx:evO fr x=.pp l n i j)(hm:mem[l]?=some (.row rows))(hn:rows.length=n)
  (hr:rows[i]?=some r) (hc:r[j]?=some c) (ht:zS P T false 1=true):OpY P G fr mem o c:=
 qb fun ok bs w a _ hmo hfit=>by
  obtain⟨m,hmo⟩:=hmo;have h:=hfit x (by simp[ho,Op.operands]);rw[hx]at h;simp only[FitsE]at h;obtain⟨b,hb,h⟩:=h;obtain⟨g,hg,e⟩:=(h rows hm).2 hn;obtain⟨u,h1,h2,h3⟩:=ic hmo hb hm hg hr hc;exact⟨u,by simp[execOp,ho,e,Instr.loadAt,Instr.sureAddr,loadVar,yf ht,h1],h3⟩
theorem xH{ok:Nat->Prop}{w:World}{bs:List PB}{b:PB}(hmo:MemOK n ok w bs mem)(hb:bs[l]?=some b)(hm:mem[l]?=some (.row rows)){g:Nat}(hg:b.blk=some g)
    (hr:rows[i]?=some r):∀(k j:Nat),j+k<=r.length->∃us:List Value,us.length=k/\(∀u∈us,u.oneCell'=true)/\FitsEL ok w bs mem ((r.drop j).take k) us/\∀(t:Nat)(v:Value),us[t]?=some v->w.cell? ⟨g,i*b.size+j+t,none⟩=some v
 |0,j,_=>⟨[],rfl,sI,by simp[FitsEL],sI⟩
 |k+1,j,hk=>by
  have hj:j<r.length:=oM;obtain⟨u,h1,h2,h3⟩:=ic hmo hb hm hg hr (zLe hj);obtain⟨us,h4,h5,h6,h7⟩:=xH hmo hb hm hg hr k (j+1) oM;refine⟨u::us,by simp[h4],?_,?_,?_⟩
  ·intro v hv;rcases List.mem_cons.1 hv with rfl|hv
   ·exact h2
   ·exact h5 v hv
  ·rw[List.drop_eq_getElem_cons hj,List.take_succ_cons];simp only[FitsEL];exact⟨u,us,rfl,h3,h6⟩
  ·intro t v hv;cases t with
   |zero=>simp at hv;subst hv;simpa using h1
   |succ t=>
    simp at hv;have:=h7 t v hv;rwa[show i*b.size+(j+1)+t=i*b.size+j+(t+1) from oM]at this
theorem j7{cs:List EV}(ho:o.op=.load T x)(hx:evO fr x=.pp l n i j)(hm:mem[l]?=some (.row rows))(hn:rows.length=n)
  (hr:rows[i]?=some r) (hl:j+size<=r.length) (hc:(r.drop j).take size=cs) (ht:zS P T true size=true):OpY P G fr mem o (.mix cs):=
 qb fun ok bs w a _ hmo hfit=>by
  obtain⟨m,hmo⟩:=hmo;have h:=hfit x (by simp[ho,Op.operands]);rw[hx]at h;simp only[FitsE]at h;obtain⟨b,hb,h⟩:=h;obtain⟨g,hg,e⟩:=(h rows hm).2 hn;obtain⟨us,h1,h2,h3,h4⟩:=xH hmo hb hm hg hr size j hl;refine⟨.agg us.toArray,by simp[execOp,ho,e,Instr.loadAt,Instr.sureAddr,wK ht us h1 h4],?_⟩;rw[hc]at h3;simp only[FitsE];exact⟨us,rfl,h2,h3⟩
theorem wb(ho:o.op=.load T x)(hx:evO fr x=.pp l n i j)(hm:mem[l]?=some (.row rows))(hn:rows.length=n)
  (hr:rows[i]?=some r) (hl:j+size<=r.length) (hc:(r.drop j).take size=cs.map .pub) (ht:zS P T true size=true):OpY P G fr mem o (.pub (.agg cs)):=
 qb fun ok bs w a _ hmo hfit=>by
  obtain⟨m,hmo⟩:=hmo;have h:=hfit x (by simp[ho,Op.operands]);rw[hx]at h;simp only[FitsE]at h;obtain⟨b,hb,h⟩:=h;obtain⟨g,hg,e⟩:=(h rows hm).2 hn;obtain⟨us,h1,h2,h3,h4⟩:=xH hmo hb hm hg hr size j hl;refine⟨.agg us.toArray,by simp[execOp,ho,e,Instr.loadAt,Instr.sureAddr,wK ht us h1 h4],?_⟩;rw[hc,FitsEL.pub]at h3;simp only[FitsE,Fits];exact⟨us,rfl,h2,h3⟩
theorem zc{rows:List (List AV)}{r:List AV}(ho:o.op=.indexAddr T x y)(hx:evO fr x=.pub (.sl rows))(hy:evO fr y=I p)
  (ht:qV P T size=true) (hp:0<=p) (hr:rows[p.toNat]?=some r) (hsz:∀q∈rows,q.length=size):OpY P G fr mem o (.pub (.ptr r)):=
 qb fun ok bs w a _ _ hfit=>by
  have h:=hfit x (by simp[ho,Op.operands]);have h2:=wH (hfit y (by simp[ho,Op.operands])) hy;rw[hx]at h;simp only[FitsE,Fits]at h;obtain⟨ad,c,size',e,h3,h4,h5,h6⟩:=h;obtain⟨el,he,hs⟩:=ua ht;have hlt:p.toNat<rows.length:=(zLg hr).1;obtain⟨b,off,rfl,hb,hfr⟩:=h6 oM;have hin:0<=p/\p<(rows.length:Int):=⟨hp,oM⟩;refine⟨.pointer (some ⟨b,off+p.toNat*size,none⟩),?_,?_⟩
  ·simp[execOp,ho,e,h2,Instr.indexAt,asIntOf,run_underlying he,hin,hs,Addr.add_lit]
  ·simp only[FitsE,Fits];exact⟨b,_,rfl,hb,hfr.get hsz hr⟩
theorem qh(ho:o.op=.indexAddr T x y)(hx:evO fr x=.psl l n)(hy:evO fr y=I p)(hm:mem[l]?=some (.row rows))(hn:rows.length=n)
  (ht:qV P T size=true) (hp:0<=p) (hlt:p<n) (hsz:∀q∈rows,q.length=size):OpY P G fr mem o (.pp l n p.toNat 0):=
 qb fun ok bs w a _ hmo hfit=>by
  obtain⟨m,hmo⟩:=hmo;have h:=hfit x (by simp[ho,Op.operands]);have h2:=wH (hfit y (by simp[ho,Op.operands])) hy;rw[hx]at h;simp only[FitsE]at h;obtain⟨b,hb,h⟩:=h;have e:=(h rows hm).2 hn;obtain⟨el,he,hs⟩:=ua ht;have hrow:=hmo.row l b rows hb hm
  have hbs:b.size=size:=by
   have h0:0<rows.length:=oM;rw[←hrow.size rows[0] (zLm h0),hsz rows[0] (zLm h0)]
  cases hg:b.blk with
  |none=>have:=hrow.nil hg;subst this;simp at hn;omega
  |some g=>
   simp only[PB.sl,hg]at e;have hin:0<=p/\p<(n:Int):=⟨hp,hlt⟩;refine⟨.pointer (some ⟨g,p.toNat*size,none⟩),?_,?_⟩
   ·simp[execOp,ho,e,h2,Instr.indexAt,asIntOf,run_underlying he,hin,hs,Addr.add_lit]
   ·simp only[FitsE];refine⟨b,hb,fun rows' hm'=>?_⟩;rw[hm]at hm';injection hm' with hm'
    injection hm' with hm'
    subst hm';exact⟨oM,fun _=>⟨g,hg,by simp[hbs]⟩⟩
theorem rV{s:ByteArray}(ho:o.op=.index T x y)(hx:evO fr x=S s)(hy:evO fr y=I p)(ht:P.underlying T=some .string)(hp:0<=p)(hlt:p<(s.size:Int)):
  OpY P G fr mem o (.pub (.v (.int .u8 ((s[p.toNat]?).getD 0).toNat))):=
 qb fun ok bs w a _ _ hfit=>by
  have h1:=wH (hfit x (by simp[ho,Op.operands])) hx;have h2:=wH (hfit y (by simp[ho,Op.operands])) hy;have hin:p.toNat<s.size:=oM;refine⟨_,?_,qA rfl⟩;simp[execOp,ho,h1,h2,Instr.index,asIntOf,run_underlying ht,hp,hin]
theorem qJ(ho:o.op=.index T x y)(hx:evO fr x=.pub (.agg cs))(hy:evO fr y=I p)(ht:vy P T n 1=true)
  (hel:∀e,P.underlying T=some (.array n e)->zS P e false 1=true) (hp:0<=p) (hlt:p<n) (hc:cs[p.toNat]?=some c):OpY P G fr mem o (.pub c):=
 qb fun ok bs w a _ _ hfit=>by
  have h:=hfit x (by simp[ho,Op.operands]);have h2:=wH (hfit y (by simp[ho,Op.operands])) hy;rw[hx]at h;simp only[FitsE,Fits]at h;obtain⟨vs,e,_,h3⟩:=h;obtain⟨el,he,hs⟩:=nv ht;obtain⟨u,h4,h5⟩:=h3.get hc;have hin:0<=p/\p<(n:Int):=⟨hp,hlt⟩;have hlt':p.toNat<vs.length:=(zLg h4).1;have h4':vs[p.toNat]=u:=(zLg h4).2;refine⟨u,?_,by simpa only[FitsE]using h5⟩;simp[execOp,ho,e,h2,Instr.index,asIntOf,run_underlying he,hin,hs,part,yf (hel el he),hlt',h4']
def nm(fr:Nat->EV)(lo:Option Operand)(d p:Int):Prop:=match lo with
 |some y=>evO fr y=I p
 |none=>p=d
theorem Bf{lo hi:Option Operand}{rows:List (List AV)}{l h:Int}(ho:o.op=.slice T x lo hi none)(hx:evO fr x=.pub (.sl rows))
  (hlo:nm fr lo 0 l) (hhi:nm fr hi (rows.length:Int) h)
  (ht:qV P T size=true) (hsz:∀q∈rows,q.length=size) (h0:0<=l) (h1:l<=h) (h2:h<=(rows.length:Int)):OpY P G fr mem o (.pub (.sl ((rows.take h.toNat).drop l.toNat))):=
 qb fun ok bs w a _ _ hfit=>by
  have hxx:=hfit x (by simp[ho,Op.operands]);rw[hx]at hxx;simp only[FitsE,Fits]at hxx;obtain⟨ad,c,size',e,h3,h4,h5,h6⟩:=hxx;obtain⟨el,he,hs⟩:=ua ht;have hlen:((rows.take h.toNat).drop l.toNat).length=h.toNat-l.toNat:=by simp;omega
  have hb1:(Instr.sliceBounds true rows.length c (lo.map a.eval) (hi.map a.eval) none).run P w=.ok (l.toNat,h.toNat,c) w:=by
   have e1:∀(y:Operand),lo=some y->a.eval y=.int .i64 l:=fun y hy=>by subst hy;exact wH (hfit y (by simp[ho,Op.operands])) (by simpa only[nm]using hlo)
   have e2:∀(y:Operand),hi=some y->a.eval y=.int .i64 h:=fun y hy=>by subst hy;exact wH (hfit y (by simp[ho,Op.operands])) (by simpa only[nm]using hhi)
   have hl1:h<=(c:Int):=oM;have hh0:0<=h:=oM;cases lo with
   |none=>
    simp only[nm]at hlo;subst hlo;cases hi with
    |none=>simp only[nm]at hhi;subst hhi;simp[Instr.sliceBounds]
    |some y=>simp[Instr.sliceBounds,e2 y rfl,Instr.sliceBound,asIntOf,hh0,hl1]
   |some z=>
    have hlh:l<=((h.toNat:Nat):Int):=oM;cases hi with
    |none=>
     simp only[nm]at hhi;subst hhi;simp[Instr.sliceBounds,e1 z rfl,Instr.sliceBound,asIntOf,h0,h1]
    |some y=>
     have hmm:max h 0=h:=oM;simp[Instr.sliceBounds,e1 z rfl,e2 y rfl,Instr.sliceBound,asIntOf,h0,hh0,hl1,hmm,h1]
  refine⟨.slice (if c=l.toNat then ad else ad.map (·.add (l.toNat*size))) (h.toNat-l.toNat) (c-l.toNat),?_,?_⟩
  ·simp only[execOp,ho,e,Instr.sliceAt,Instr.slice,Sem.run_bind,run_underlying he,Result.andThen_ok,Option.map_none,hb1,hs];rfl
  ·simp only[FitsE,Fits];refine⟨_,_,size,by rw[hlen],by rw[hlen];omega,oM,fun r hr=>hsz r (List.mem_of_mem_take (List.mem_of_mem_drop hr)),fun hpos=>?_⟩;rw[hlen]at hpos;obtain⟨b,off,rfl,hb,hfr⟩:=h6 oM;rw[zLy oM];refine⟨b,off+l.toNat*size,by simp[Addr.add_lit],hb,FitsR.of_get (size:=size) (fun r hr=>hsz r (List.mem_of_mem_take (List.mem_of_mem_drop hr))) fun i r hr=>?_⟩;rw[List.getElem?_drop,zLx]at hr;split at hr
   ·have:=hfr.get hsz hr;rwa[show off+l.toNat*size+i*size=off+(l.toNat+i)*size from by rw[Nat.add_mul];omega]
   ·cases hr
variable{ok:Nat->Prop}{w:World}{bs:List PB}
def qn(mem:List PO):EV->List EV->Prop
 | .pub (.agg cs),l=>l=cs.map .pub
 | .pub .top,_=>False
 | .pub (.tup _),_=>False
 | .fnm f fs cs,l=>l=[.fnm f fs cs]
 | .mpv k,l=>l=[.mpv k]/\∃es,mem[k]?=some (.map es)
 | .mix cs,l=>l=cs
 | .tpl _,_=>False
 | .psl k n,l=>l=[.psl k n]/\∃rows,mem[k]?=some (.row rows)/\rows.length=n
 | .ppT _ _ _,_=>False
 | .pslT k n T,l=>l=[.pslT k n T]/\∃rows,mem[k]?=some (.row rows)/\rows.length=n
 | .pp k n i j,l=>l=[.pp k n i j]/\∃rows,mem[k]?=some (.row rows)/\rows.length=n
 |e,l=>l=[e]
theorem jT{x:Value}(h:e=.pub (.v x)):qn mem e [.pub (.v x)]:=by subst h;rfl
theorem lL{rows:List (List AV)}(h:e=.pub (.sl rows)):qn mem e [.pub (.sl rows)]:=by subst h;rfl
theorem GH(h:e=.pub (.ptr cs)):qn mem e [.pub (.ptr cs)]:=by subst h;rfl
theorem uV{a b:List AV}(h:e=.pub (.fn f a b)):qn mem e [.pub (.fn f a b)]:=by subst h;rfl
theorem Ip{t:TypeId}{x:AV}(h:e=.pub (.ifc t x)):qn mem e [.pub (.ifc t x)]:=by subst h;rfl
theorem zF(h:e=.pub (.agg cs)):qn mem e (cs.map .pub):=by subst h;rfl
theorem ji{a b:List EV}(h:e=.fnm f a b):qn mem e [.fnm f a b]:=by subst h;rfl
theorem ul{es:List (Value × EV)}(h:e=.mpv k)(hm:mem[k]?=some (.map es)):qn mem e [.mpv k]:=by subst h;exact⟨rfl,es,hm⟩
theorem Xk{ks:List Value}{xs:List AV}(h:e=.pub (.mp ks xs)):qn mem e [.pub (.mp ks xs)]:=by subst h;rfl
theorem ta{cs:List EV}(h:e=.mix cs):qn mem e cs:=by subst h;rfl
theorem jW(h:e=.psl k n)(hm:mem[k]?=some (.row rows))(hn:rows.length=n):qn mem e [.psl k n]:=by subst h;exact⟨rfl,rows,hm,hn⟩
theorem wE(h:e=.pp k n i j)(hm:mem[k]?=some (.row rows))(hn:rows.length=n):qn mem e [.pp k n i j]:=by subst h;exact⟨rfl,rows,hm,hn⟩
theorem ER:∀{x:AV}{u:Value},Fits ok w x u->(match x with| .top=>False| .agg _=>False| .tup _=>False|_=>True)->u.oneCell'=true/\u.cells=#[u]
 | .v x,u,h,_=>by
  simp only[Fits]at h;obtain⟨rfl,h⟩:=h;refine⟨h,?_⟩;cases u<;>first|rfl|simp[Value.oneCell']at h
 | .sl rows,u,h,_=>by
  simp only[Fits]at h;obtain⟨_,_,_,rfl,_⟩:=h;exact⟨rfl,rfl⟩
 | .ptr cs,u,h,_=>by
  simp only[Fits]at h;obtain⟨_,_,rfl,_⟩:=h;exact⟨rfl,rfl⟩
 | .fn f first caps,u,h,_=>by
  simp only[Fits]at h;obtain⟨_,_,rfl,_⟩:=h;exact⟨rfl,rfl⟩
 | .ifc t x,u,h,_=>by
  simp only[Fits]at h;obtain⟨_,rfl,_⟩:=h;exact⟨rfl,rfl⟩
 | .mp ks xs,u,h,_=>by
  simp only[Fits]at h;obtain⟨_,_,_,rfl,_⟩:=h;exact⟨rfl,rfl⟩
theorem kc{l:List EV}{u:Value}(h:FitsE ok w bs mem e u)(hc:qn mem e l):
  ∃us:List Value,u.cells=us.toArray/\(∀v∈us,v.oneCell'=true)/\FitsEL ok w bs mem l us:=by
 have one:∀(x:AV),e=.pub x->(match x with| .top=>False| .agg _=>False| .tup _=>False|_=>True)->l=[e]->
   ∃us:List Value,u.cells=us.toArray/\(∀v∈us,v.oneCell'=true)/\FitsEL ok w bs mem l us:=fun x hx hm hl=>by
  subst hl;have h':=h;rw[hx]at h';simp only[FitsE]at h';obtain⟨h1,h2⟩:=ER h' hm;exact⟨[u],by simp[h2],by simp[h1],by simp only[FitsEL];exact⟨u,[],rfl,h,rfl⟩⟩
 cases e with
 |pub x=>
  cases x with
  |agg cs=>
   simp only[qn]at hc;subst hc;simp only[FitsE,Fits]at h;obtain⟨vs,rfl,h1,h2⟩:=h;exact⟨vs,by simp[Value.cells],h1,FitsEL.pub.2 h2⟩
  |top=>exact hc.elim
  |tup l=>exact hc.elim
  |v x=>exact one _ rfl trivial hc
  |sl rows=>exact one _ rfl trivial hc
  |ptr cs=>exact one _ rfl trivial hc
  |fn f a b=>exact one _ rfl trivial hc
  |ifc t x=>exact one _ rfl trivial hc
  |mp ks xs=>exact one _ rfl trivial hc
 |mix cs=>
  simp only[qn]at hc;subst hc;simp only[FitsE]at h;obtain⟨vs,rfl,h1,h2⟩:=h;exact⟨vs,by simp[Value.cells],h1,h2⟩
 |fnm f fs cs=>
  simp only[qn]at hc;subst hc;have h':=h;simp only[FitsE]at h';obtain⟨us,vs,rfl,_,_⟩:=h';exact⟨[_],rfl,by simp[Value.oneCell'],by simp only[FitsEL];exact⟨_,[],rfl,h,rfl⟩⟩
 |tpl cs=>exact hc.elim
 |ppT k n T=>exact hc.elim
 |mpv k=>
  obtain⟨rfl,es,hm⟩:=hc;have h':=h;simp only[FitsE]at h';obtain⟨b,hb,h'⟩:=h';obtain⟨g,_,e⟩:=h' es hm;have h1:u.oneCell'=true/\u.cells=#[u]:=by rw[e];exact⟨rfl,rfl⟩
  exact⟨[u],by simp[h1.2],by simp[h1.1],by simp only[FitsEL];exact⟨u,[],rfl,h,rfl⟩⟩
 |psl k n=>
  obtain⟨rfl,rows,hm,hn⟩:=hc;have h':=h;simp only[FitsE]at h';obtain⟨b,hb,h'⟩:=h';have e:=(h' rows hm).2 hn
  have h1:u.oneCell'=true/\u.cells=#[u]:=by
   rw[e];unfold PB.sl;split<;>exact⟨rfl,rfl⟩
  exact⟨[u],by simp[h1.2],by simp[h1.1],by simp only[FitsEL];exact⟨u,[],rfl,h,rfl⟩⟩
 |pslT k n T=>
  obtain⟨rfl,rows,hm,hn⟩:=hc;have h':=h;simp only[FitsE]at h';obtain⟨b,hb,h'⟩:=h';have e:=((h' rows hm).2 hn).1
  have h1:u.oneCell'=true/\u.cells=#[u]:=by
   rw[e];unfold PB.sl;split<;>exact⟨rfl,rfl⟩
  exact⟨[u],by simp[h1.2],by simp[h1.1],by simp only[FitsEL];exact⟨u,[],rfl,h,rfl⟩⟩
 |pp k n i j=>
  obtain⟨rfl,rows,hm,hn⟩:=hc;have h':=h;simp only[FitsE]at h';obtain⟨b,hb,h'⟩:=h';obtain⟨g,_,e⟩:=(h' rows hm).2 hn;have h1:u.oneCell'=true/\u.cells=#[u]:=by rw[e];exact⟨rfl,rfl⟩
  exact⟨[u],by simp[h1.2],by simp[h1.1],by simp only[FitsEL];exact⟨u,[],rfl,h,rfl⟩⟩
theorem lx{us:List Value}(T:TypeId)(h:FitsL ok w cs us)(h1:∀u∈us,u.oneCell'=true)(hlt:∀b,ok b->b<w.heap.size):
  FitsC (okN ok w (w.alloc (.cells us.toArray T))) (w.alloc (.cells us.toArray T)) w.heap.size 0 cs:=
 FitsC.of_get fun i x hx=>by
  obtain⟨u,hu,hf⟩:=h.get hx;refine⟨u,?_,h1 u (zLo hu),hf.mono (fun b hb=>.inl hb) (fun b hb=>heap_alloc_old w _ (hlt b hb))⟩;rw[World.cell?_alloc_new];simpa using hu
theorem qu(w:World)(ob:Obj):Below w.heap.size w (w.alloc ob):=(Below.refl _ _).alloc (zLl _) ob
theorem H3(ok:Nat->Prop)(w:World)(ob:Obj):okN ok w (w.alloc ob) w.heap.size:=.inr ⟨zLl _,sI⟩
theorem lX(ho:o.op=.box T x)(hx:qn mem (evO fr x) (cs.map .pub)):OpY P G fr mem o (.pub (.ptr cs)):=by
 intro n ok bs w a hG hn hm hf K Q hK;obtain⟨us,h1,h2,h3⟩:=kc (hf x (by simp[ho,Op.operands])) hx;refine qx (w':=w.alloc (.cells us.toArray T)) (u:=.pointer (some ⟨w.heap.size,0,none⟩)) ?_ (hK _ _ (qu ..) ?_)
 ·simp[execOp,ho,Instr.box,newVar,newRow,h1]
 ·simp only[FitsE,Fits];exact⟨w.heap.size,0,rfl,H3 ..,lx T (FitsEL.pub.1 h3) h2 hm.lt⟩
theorem bf{first caps:Array Operand}{fs:List AV}(ho:o.op=.makeFunc (.func f) first caps)(hf:first.toList.map (evO fr)=fs.map .pub)(hc:caps.toList.map (evO fr)=cs.map .pub):
  OpY P G fr mem o (.pub (.fn f fs cs)):=
 qb fun ok bs w a _ _ hfit=>by
  have key:∀(l:List Operand)(xs:List AV),(∀y∈l,y∈o.op.operands)->l.map (evO fr)=xs.map .pub->FitsL ok w xs (l.map a.eval):=by
   intro l
   induction l with
   |nil=>intro xs _ h;cases xs with
    |nil=>simp[FitsL]
    |cons=>simp at h
   |cons y l ih=>intro xs hm h;cases xs with
    |nil=>simp at h
    |cons x xs=>
     simp only[List.map_cons,List.cons.injEq]at h;simp only[List.map_cons,FitsL];have:=hfit y (hm y sI);rw[h.1]at this;exact⟨_,_,rfl,by simpa only[FitsE]using this,ih xs (fun z hz=>hm z (by simp[hz])) h.2⟩
  refine⟨.func (.func f) (first.map a.eval) (caps.map a.eval),by simp[execOp,ho,Instr.makeFunc],?_⟩;simp only[FitsE,Fits];refine⟨first.toList.map a.eval,caps.toList.map a.eval,by congr 1<;>exact Array.toList_inj.1 sI,key _ _ (fun y hy=>?_) hf,key _ _ (fun y hy=>?_) hc⟩
  ·simp only[ho,Op.operands,Array.mem_append];exact .inl (by simpa using hy)
  ·simp only[ho,Op.operands,Array.mem_append];exact .inr (by simpa using hy)
theorem jD{l:List AV}(ho:o.op=.extract x i)(hx:evO fr x=.pub (.tup l))(hc:l[i]?=some c):OpY P G fr mem o (.pub c):=
 qb fun ok bs w a _ _ hfit=>by
  have h:=hfit x (by simp[ho,Op.operands]);rw[hx]at h;simp only[FitsE,Fits]at h;obtain⟨vs,e,h2⟩:=h;obtain⟨u,h3,h4⟩:=h2.get hc;have h5:i<vs.length:=(zLg h3).1;have h6:vs[i]=u:=(zLg h3).2;exact⟨u,by simp[execOp,ho,e,Instr.extract,h5,h6],by simpa only[FitsE]using h4⟩
theorem zZ{d:TypeDesc}(ho:o.op=.makeInterface T x)(hx:evO fr x=.pub c)(ht:P.underlying T=some d)(hd:(match d with| .interface _=>true|_=>false)=false):
  OpY P G fr mem o (.pub (.ifc T c)):=
 qb fun ok bs w a _ _ hfit=>by
  have h:=hfit x (by simp[ho,Op.operands]);rw[hx]at h;refine⟨.iface T (a.eval x),?_,?_⟩
  ·cases d<;>simp_all[execOp,Instr.makeInterface,run_underlying ht]
  ·simp only[FitsE,Fits]at h⊢;exact⟨_,rfl,h⟩
def xA(place:Nat->Option (Nat × Nat))(cells:List EV):List (Nat × List EV)->Option (List EV)
 |[]=>some cells
 |(i,l)::rest=>match place i with
  |none=>none
  |some (off,size)=>if l.length=size/\off+size<=cells.length then xA place (cells.take off++l++cells.drop (off+size)) rest else none
def vc(mem:List PO)(fr:Nat->EV):List (Nat × Operand)->List (Nat × List EV)->Prop
 |[],qs=>qs=[]
 |(i,x)::ps,qs=>∃l qs',qs=(i,l)::qs'/\qn mem (evO fr x) l/\vc mem fr ps qs'
theorem sS(vs:List Value):∀(cs:Array Value)(off k:Nat),off+k+vs.length<=cs.size->
  ((vs.zipIdx k).foldl (fun cs(c,j)=>cs.setIfInBounds (off+j) c) cs).toList=cs.toList.take (off+k)++vs++cs.toList.drop (off+k+vs.length):=by
 induction vs with
 |nil=>intro cs off k h;simp
 |cons v vs ih=>
  intro cs off k h;simp only[List.zipIdx_cons,List.foldl_cons];simp only[List.length_cons]at h;rw[ih (cs.setIfInBounds (off+k) v) off (k+1) (by simp;omega)];have hk:off+k<cs.toList.length:=by simp;omega
  simp only[Array.toList_setIfInBounds,List.length_cons];apply List.ext_getElem?;intro t;simp only[List.getElem?_append,List.length_take,zL2,zLx,List.getElem?_drop,List.getElem?_cons,List.length_append,List.length_cons];have e1:min (off+(k+1)) cs.toList.length=off+k+1:=oM;have e2:min (off+k) cs.toList.length=off+k:=oM;rw[e1,e2]
  by_cases h1:t<off+k
  ·rw[zLc oM,zLc oM,zLc oM,zLc oM,zLc oM,zLc oM,zLn oM]
  ·by_cases h2:t=off+k
   ·subst h2;rw[zLc oM,zLc oM,zLc oM,zLi hk,zLc oM,zLy oM,zLc oM]
   ·by_cases h3:t<off+k+1+vs.length
    ·rw[zLc oM,zLy oM,zLc oM,zLy oM,zLy oM];congr 1
    ·rw[zLy oM,zLy oM,zLn oM];congr 1;omega
def CellIs(ok:Nat->Prop)(w:World)(bs:List PB)(mem:List PO):List EV->List Value->Prop
 |[],us=>us=[]
 |x::xs,us=>∃u us',us=u::us'/\FitsE ok w bs mem x u/\(x=.pub .top∨u.oneCell'=true)/\CellIs ok w bs mem xs us'
section
variable{ok:Nat->Prop}{w:World}{bs:List PB}
theorem CellIs.length:∀{l:List EV}{us:List Value},CellIs ok w bs mem l us->us.length=l.length
 |[],us,h=>by simp only[CellIs]at h;simp[h]
 |x::xs,us,h=>by
  simp only[CellIs]at h;obtain⟨u,us',rfl,_,_,h2⟩:=h;simp[CellIs.length h2]
theorem CellIs.append:∀{l l':List EV}{us us':List Value},CellIs ok w bs mem l us->CellIs ok w bs mem l' us'->CellIs ok w bs mem (l++l') (us++us')
 |[],l',us,us',h,h'=>by simp only[CellIs]at h;subst h;simpa using h'
 |x::xs,l',us,us',h,h'=>by
  simp only[CellIs]at h;obtain⟨u,us2,rfl,h0,h1,h2⟩:=h;simp only[List.cons_append,CellIs];exact⟨u,us2++us',rfl,h0,h1,CellIs.append h2 h'⟩
theorem CellIs.take:∀{l:List EV}{us:List Value}(k:Nat),CellIs ok w bs mem l us->CellIs ok w bs mem (l.take k) (us.take k)
 |[],us,k,h=>by simp only[CellIs]at h;subst h;simp[CellIs]
 |x::xs,us,0,h=>by simp[CellIs]
 |x::xs,us,k+1,h=>by
  simp only[CellIs]at h;obtain⟨u,us2,rfl,h0,h1,h2⟩:=h;simp only[List.take_succ_cons,CellIs];exact⟨u,_,rfl,h0,h1,CellIs.take k h2⟩
theorem CellIs.drop:∀{l:List EV}{us:List Value}(k:Nat),CellIs ok w bs mem l us->CellIs ok w bs mem (l.drop k) (us.drop k)
 |[],us,k,h=>by simp only[CellIs]at h;subst h;simp[CellIs]
 |x::xs,us,0,h=>by simpa using h
 |x::xs,us,k+1,h=>by
  simp only[CellIs]at h;obtain⟨u,us2,rfl,h0,h1,h2⟩:=h;simpa using CellIs.drop k h2
theorem CellIs.of:∀{l:List EV}{us:List Value},FitsEL ok w bs mem l us->(∀v∈us,v.oneCell'=true)->CellIs ok w bs mem l us
 |[],us,h,_=>by simpa only[FitsEL,CellIs]using h
 |x::xs,us,h,h1=>by
  simp only[FitsEL]at h;obtain⟨u,us2,rfl,h0,h2⟩:=h;simp only[CellIs];exact⟨u,us2,rfl,h0,.inr (h1 u sI),CellIs.of h2 (fun v hv=>h1 v (by simp[hv]))⟩
theorem CellIs.fits:∀{l:List EV}{us:List Value},CellIs ok w bs mem l us->(∀x∈l,x≠ .pub .top)->FitsEL ok w bs mem l us/\∀v∈us,v.oneCell'=true
 |[],us,h,_=>by simp only[CellIs]at h;subst h;simp[FitsEL]
 |x::xs,us,h,hn=>by
  simp only[CellIs]at h;obtain⟨u,us2,rfl,h0,h1,h2⟩:=h;obtain⟨h3,h4⟩:=CellIs.fits h2 (fun y hy=>hn y (by simp[hy]));refine⟨by simp only[FitsEL];exact⟨u,us2,rfl,h0,h3⟩,fun v hv=>?_⟩;rcases List.mem_cons.1 hv with rfl|hv
  ·exact h1.resolve_left (hn x sI)
  ·exact h4 v hv
theorem CellIs.tops(us:List Value):CellIs ok w bs mem (us.map fun _=>.pub .top) us:=by
 induction us with
 |nil=>simp[CellIs]
 |cons u us ih=>simp only[List.map_cons,CellIs];exact⟨u,us,rfl,by simp[FitsE,Fits],.inl trivial,ih⟩
theorem fa{a:Act}(place:Nat->Option (Nat × Nat)):∀(ps:List (Nat × Operand))(qs:List (Nat × List EV))(cells cells':List EV)(cs:Array Value),
  (∀p∈ps,FitsE ok w bs mem (evO fr p.2) (a.eval p.2))->vc mem fr ps qs->CellIs ok w bs mem cells cs.toList->xA place cells qs=some cells'->
  ∃cs':Array Value,Instr.fill place cs (ps.map fun p=>(p.1,a.eval p.2))=some cs'/\CellIs ok w bs mem cells' cs'.toList
 |[],qs,cells,cells',cs,_,hq,hc,hf=>by
  simp only[vc]at hq;subst hq;simp only[xA,zLs]at hf;subst hf;exact⟨cs,rfl,hc⟩
 |(i,x)::ps,qs,cells,cells',cs,hp,hq,hc,hf=>by
  simp only[vc]at hq;obtain⟨l,qs',rfl,hce,hq⟩:=hq;simp only[xA]at hf;obtain⟨us,h1,h2,h3⟩:=kc (hp (i,x) sI) hce;have hlen:=FitsEL.length h3;cases hpl:place i with
  |none=>simp[hpl]at hf
  |some os=>
   obtain⟨off,size⟩:=os;simp only[hpl]at hf;split at hf
   ·rename_i hcond
    obtain⟨hsz,hfit⟩:=hcond;have hcl:=hc.length;simp only[Array.length_toList]at hcl;have h5:¬((a.eval x).cells.size≠size∨off+(a.eval x).cells.size>cs.size):=by rw[h1];simp;omega
    have h6:=sS us cs off 0 oM;simp only[Nat.add_zero]at h6
    obtain⟨cs',h7,h8⟩:=fa place ps qs' _ cells' ((a.eval x).cells.zipIdx.foldl (fun cs(c,j)=>cs.setIfInBounds (off+j) c) cs) (fun p hpp=>hp p (by simp[hpp])) hq (by
     rw[h1]
     have e:(us.toArray.zipIdx.foldl (fun cs(c,j)=>cs.setIfInBounds (off+j) c) cs).toList=cs.toList.take off++us++cs.toList.drop (off+us.length):=by
      rw[←h6];simp
     rw[e,show off+us.length=off+size from oM];exact((hc.take off).append (CellIs.of h3 h2)).append (hc.drop (off+size))) hf
    refine⟨cs',?_,h8⟩;simp only[List.map_cons,Instr.fill,hpl];rw[zLy (by simpa using h5)];exact h7
   ·cases hf
end
end
def zU(P:Program)(T:TypeId)(pl:List (Nat × Nat))(zs:List Value):Prop:=
 ∃fs,P.underlying T=some (.struct fs)/\(P.info? T).bind (·.zero)=some (.agg zs.toArray)/\fs.toList.mapM (fun f=>(P.info? f.type).map fun i=>(f.offset,i.size))=some pl
def wL(P:Program)(T:TypeId)(size:Nat)(zs:List Value):Prop:=
 ∃n e i,P.underlying T=some (.array n e)/\(P.info? T).bind (·.zero)=some (.agg zs.toArray)/\P.info? e=some i/\i.size=size
section
variable{P:Program}{G:Glob}{fr:Nat->EV}{mem:List PO}{o:Oper}
variable{parts:Array (Nat × Operand)}{T:TypeId}{zs:List Value}{qs:List (Nat × List EV)}{pl:List (Nat × Nat)}{size:Nat}{cs:List AV}
theorem lA{p:Nat × Operand}(h:p∈parts.toList):p.2∈(parts.toList.map (·.2)).toArray:=by
 simp only[List.mem_toArray];exact List.mem_map_of_mem h
theorem ac{place:Nat->Option (Nat × Nat)}{cells:List EV}(ho:o.op=.build T parts)
  (hb:∀(a:Act)(cs:Array Value),Instr.fill place zs.toArray (parts.toList.map fun p=>(p.1,a.eval p.2))=some cs->P.built T (parts.toList.map fun p=>(p.1,a.eval p.2))=some cs)
  (hz:zs.all Value.oneCell'=true) (hq:vc mem fr parts.toList qs) (hf:xA place (zs.map fun v=>.pub (.v v)) qs=some cells) (hn:∀x∈cells,x≠ .pub .top)
  {ok:Nat->Prop} {bs:List PB} {w:World} {a:Act} (hfit:∀y∈o.op.operands,FitsE ok w bs mem (evO fr y) (a.eval y)):
  ∃us:List Value,(execOp a.eval o).run P w=.ok (.value (.agg us.toArray)) w/\(∀u∈us,u.oneCell'=true)/\FitsEL ok w bs mem cells us:=by
 have hz1:FitsEL ok w bs mem (zs.map fun v=>.pub (.v v)) zs:=by
  have:=(FitsEL.pub (bs:=bs) (mem:=mem)).2 (xW (ok:=ok) (w:=w) zs hz);simpa[List.map_map,Function.comp_def]using this
 obtain⟨cs,h1,h2⟩:=fa (a:=a) place parts.toList qs _ cells zs.toArray (fun p hp=>hfit p.2 (by simp only[ho,Op.operands];exact lA hp)) hq
  (by simpa using CellIs.of hz1 (fun v hv=>by rw[zLu]at hz;exact hz v hv)) hf
 obtain⟨h3,h4⟩:=h2.fits hn;refine⟨cs.toList,?_,h4,h3⟩;have hr:=run_build (P:=P) w T (parts.map fun p=>(p.1,a.eval p.2)) cs (by simpa using hb a cs h1);simp only[execOp,ho,Sem.run_bind];rw[show(parts.map fun x=>match x with|(i,x)=>(i,a.eval x))=parts.map fun p=>(p.1,a.eval p.2) from rfl,hr];simp
theorem cb(hs:zU P T pl zs)(a:Act)(cs:Array Value)
  (h:Instr.fill (pl[·]?) zs.toArray (parts.toList.map fun p=>(p.1,a.eval p.2))=some cs):P.built T (parts.toList.map fun p=>(p.1,a.eval p.2))=some cs:=by
 obtain⟨fs,h1,h2,h3⟩:=hs;cases hi:P.info? T with
 |none=>simp[hi]at h2
 |some it=>
  have hz:it.zero=some (.agg zs.toArray):=by simpa[hi]using h2
  unfold Program.built;simp only[hi,h1,hz,h3,Value.cells];simpa using h
theorem dQ(hs:wL P T size zs)(a:Act)(cs:Array Value)
  (h:Instr.fill (fun i=>some (i*size,size)) zs.toArray (parts.toList.map fun p=>(p.1,a.eval p.2))=some cs):P.built T (parts.toList.map fun p=>(p.1,a.eval p.2))=some cs:=by
 obtain⟨n,e,i,h1,h2,h3,rfl⟩:=hs;cases hi:P.info? T with
 |none=>simp[hi]at h2
 |some it=>
  have hz:it.zero=some (.agg zs.toArray):=by simpa[hi]using h2
  unfold Program.built;simp only[hi,h1,hz,h3,Value.cells];exact h
theorem zu(ho:o.op=.build T parts)(hs:zU P T pl zs)
  (hz:zs.all Value.oneCell'=true) (hq:vc mem fr parts.toList qs) (hf:xA (pl[·]?) (zs.map fun v=>.pub (.v v)) qs=some (cs.map .pub)) (hn:∀x∈cs,x≠ .top):OpY P G fr mem o (.pub (.agg cs)):=
 qb fun ok bs w a _ _ hfit=>by
  obtain⟨us,h1,h2,h3⟩:=ac ho (cb hs) hz hq hf (fun x hx=>by
   obtain⟨y,hy,rfl⟩:=zLj.1 hx;simpa using hn y hy) hfit
  exact⟨_,h1,by simp only[FitsE,Fits];exact⟨us,rfl,h2,FitsEL.pub.1 h3⟩⟩
theorem rT{cs:List EV}(ho:o.op=.build T parts)(hs:zU P T pl zs)
  (hz:zs.all Value.oneCell'=true) (hq:vc mem fr parts.toList qs) (hf:xA (pl[·]?) (zs.map fun v=>.pub (.v v)) qs=some cs) (hn:∀x∈cs,x≠ .pub .top):OpY P G fr mem o (.mix cs):=
 qb fun ok bs w a _ _ hfit=>by
  obtain⟨us,h1,h2,h3⟩:=ac ho (cb hs) hz hq hf hn hfit;exact⟨_,h1,by simp only[FitsE];exact⟨us,rfl,h2,h3⟩⟩
theorem v8(ho:o.op=.build T parts)(hs:wL P T size zs)
  (hz:zs.all Value.oneCell'=true) (hq:vc mem fr parts.toList qs) (hf:xA (fun i=>some (i*size,size)) (zs.map fun v=>.pub (.v v)) qs=some (cs.map .pub)) (hn:∀x∈cs,x≠ .top):OpY P G fr mem o (.pub (.agg cs)):=
 qb fun ok bs w a _ _ hfit=>by
  obtain⟨us,h1,h2,h3⟩:=ac ho (dQ hs) hz hq hf (fun x hx=>by
   obtain⟨y,hy,rfl⟩:=zLj.1 hx;simpa using hn y hy) hfit
  exact⟨_,h1,by simp only[FitsE,Fits];exact⟨us,rfl,h2,FitsEL.pub.1 h3⟩⟩
theorem flat_get:∀{rows:List (List AV)},(∀r∈rows,r.length=size)->∀(i j:Nat)(r:List AV),rows[i]?=some r->j<size->rows.flatten[i*size+j]?=r[j]?
 |[],_,i,j,r,h,_=>by simp at h
 |q::qs,hs,i,j,r,h,hj=>by
  have hq:q.length=size:=hs q sI;cases i with
  |zero=>simp at h;subst h;simp[List.getElem?_append,hq,hj]
  |succ i=>
   simp at h;have:=flat_get (fun r hr=>hs r (by simp[hr])) i j r h hj;rw[List.flatten_cons,List.getElem?_append,zLy (by rw[hq,Nat.add_mul];omega),hq,show(i+1)*size+j-size=i*size+j from by rw[Nat.add_mul];omega];exact this
theorem zw{E:TypeId}{len:Nat}{i:TypeInfo}{rows:List (List AV)}(ho:o.op=.buildSlice T len parts)
  (ht:P.underlying T=some (.slice E)) (hi:P.info? E=some i) (hsz:i.size=size) (hpos:0<size) (hz:i.zero.isSome=true) (hmax:len*size<=16777216)
  (hq:vc mem fr parts.toList qs) (hf:xA (fun i=>some (i*size,size)) (List.replicate (len*size) (.pub .top)) qs=some (rows.flatten.map .pub))
  (hn:∀x∈rows.flatten,x≠ .top) (hl:rows.length=len) (hrs:∀r∈rows,r.length=size):OpY P G fr mem o (.pub (.sl rows)):=by
 subst hsz;intro n ok bs w a hG hB hm hfit K Q hK;obtain⟨z,hz⟩:=Option.isSome_iff_exists.1 hz;obtain⟨z0,hz0⟩:∃z0:Array Value,z0=if len*i.size=0 then#[]else z.cells:=⟨_,rfl⟩
 obtain⟨cs,h1,h2⟩:=fa (a:=a) (fun k=>some (k*i.size,i.size)) parts.toList qs _ (rows.flatten.map .pub) ((Array.range (len*i.size)).map (z0[· % z0.size]!)) (fun p hp=>hfit p.2 (by simp only[ho,Op.operands];exact lA hp)) hq
  (by
   have h:=CellIs.tops (ok:=ok) (w:=w) (bs:=bs) (mem:=mem) ((Array.range (len*i.size)).map (z0[· % z0.size]!)).toList;rwa[show((Array.range (len*i.size)).map (z0[· % z0.size]!)).toList.map (fun _=>EV.pub .top)=List.replicate (len*i.size) (.pub .top) from by rw[List.map_const'];simp]at h) hf
 obtain⟨h3,h4⟩:=h2.fits (fun x hx=>by
   obtain⟨y,hy,rfl⟩:=zLj.1 hx;simpa using hn y hy)
 refine qx (w':=w.alloc (.cells cs E)) (u:=.slice (some ⟨w.heap.size,0,none⟩) len len) ?_ (hK _ _ (qu ..) ?_)
 ·have hbig:¬len*i.size>2^24:=oM;have h1':Instr.fill (fun k=>some (k*i.size,i.size)) ((Array.range (len*i.size)).map (z0[· % z0.size]!)) (parts.map fun p=>(p.1,a.eval p.2)).toList=some cs:=by simpa using h1
  have hbs:(Instr.buildSlice T len (parts.map fun p=>(p.1,a.eval p.2))).run P w=.ok (.slice (some ⟨w.heap.size,0,none⟩) len len) (w.alloc (.cells cs E)):=by
   unfold Instr.buildSlice
   by_cases h0:len*i.size=0
   ·rw[zLc h0]at hz0;subst hz0;rw[h0]at h1';simp only[Sem.run_bind,run_underlying ht,Result.andThen_ok,sizeOf,typeInfo,run_program,hi,Sem.run_pure,h0,if_true,newRow];have h00:¬(0:Nat)>2^24:=oM;simp only[h00,if_false,Sem.run_bind,Sem.run_pure,Result.andThen_ok,h1'];rfl
   ·rw[zLy h0]at hz0;subst hz0;simp only[Sem.run_bind,run_underlying ht,Result.andThen_ok,sizeOf,typeInfo,run_program,hi,Sem.run_pure,hbig,if_false,h0,zeroValue,hz,newRow,h1'];rfl
  simp only[execOp,ho,Sem.run_bind];have e:(parts.map fun x=>match x with|(i,x)=>(i,a.eval x))=parts.map fun p=>(p.1,a.eval p.2):=rfl;rw[e,hbs];rfl
 ·simp only[FitsE,Fits]
  have hlen:len<=maxLen:=by
   have:len<=len*i.size:=Nat.le_mul_of_pos_right _ hpos;unfold maxLen;omega
  refine⟨some ⟨w.heap.size,0,none⟩,len,i.size,by rw[hl],oM,hlen,hrs,fun _=>⟨w.heap.size,0,rfl,H3 ..,FitsR.of_get hrs fun k r hr=>?_⟩⟩;have hc:=lx E (FitsEL.pub.1 h3) h4 hm.lt;rw[Array.toArray_toList]at hc;refine FitsC.of_get fun j x hx=>?_
  have hj:j<i.size:=by
   have:=(zLg hx).1;rwa[hrs r (zLo hr)]at this
  have:=hc.get (i:=k*i.size+j) (x:=x) (by rw[flat_get hrs k j r hr hj];exact hx);simpa[Nat.add_assoc]using this
end
theorem zb{x:EV}(ho:OpY P G st.fr st.mem o x)(h:qq (r:=r) P G ops l ⟨st.n,qc st.fr o.dst x,st.mem⟩ Q)(hg:jq o=true:=by exact rfl)(hd:qB o st.n=true:=by exact rfl):qq (r:=r) P G ops (o::l) st Q:=jp hg hd ho h
theorem zh{x:EV}(hg:qe ops st.fr o=some c)(ho:c=true->OpY P G st.fr st.mem o x)(h:qq (r:=r) P G ops l ⟨st.n,qc st.fr o.dst (if c=true then x else .pub (.tup [])),st.mem⟩ Q)(hn:jl ops st.n=true:=by exact rfl)(hd:qB o st.n=true:=by exact rfl):qq (r:=r) P G ops (o::l) st Q:=fH hn hg hd ho h
theorem zb5{id:Nat}{y:Code}(h:qq (r:=r) P G l.toArray l st (aF (fun s=>qp (r:=r) P G y s Q) Q)):qp (r:=r) P G (.seq (.region id l.toArray false) y) st Q:=Hj (lQ h)
theorem zb6{K:ASt->Prop}(h:K st):qq (r:=r) P G ops [] st (aF K Q):=H5 (show aF K Q .normal st from h)
end Go.Av
end
abbrev Go.TP:=List Go.Av.PO
abbrev Go.TA:=List Go.Av.AV
abbrev Go.TE:=List Go.Av.EV
namespace Go.Av
theorem nC{r:Option Nat}{P:Program}{G:Glob}{st:ASt}{Q:Exit->ASt->Prop}{c:Operand}{x y:Code}{b:Bool}(h1:b=true->qp (r:=r) P G x st Q)(h2:b=false->qp (r:=r) P G y st Q)(hc:evO st.fr c=.pub (.v (.bool b)):=by rfl):qp (r:=r) P G (.cond c x y) st Q:=za hc h1 h2
end Go.Av
