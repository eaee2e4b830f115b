import Derived.Test.YtigbomcjnlikjaaGreatDoorInsA
set_option linter.unusedVariables false
set_option linter.unusedSimpArgs false
set_option maxRecDepth 100000
set_option maxHeartbeats 9000000
section
namespace Go.Av
namespace Ct
open Go.Proofs Tryz
theorem wu:qV tP 124 3=true:=nR
theorem i6:zS tP 121 true 3=true:=nR
theorem rA:(tP.info? 121).bind (·.zero)=some (.agg #[nZ,nZ,nZ]):=nR
theorem vx:zS tP 233 true 6=true:=nR
theorem xB:(tP.info? 233).bind (·.zero)=some (.agg #[nZ,nZ,nZ,.slice none 0 0,nZ,nZ]):=nR
theorem zaN:zU tP 231 [(0,1),(1,1)] [nZ,nZ]:=⟨_,underlying231,nR,nR⟩
theorem Iu:zU tP 233 [(0,4),(4,2)] [nZ,nZ,nZ,.slice none 0 0,nZ,nZ]:=⟨_,underlying233,nR,nR⟩
theorem QX:zU tP 57 [(0,1),(1,1)] [nZ,.slice none 0 0]:=⟨_,underlying57,nR,nR⟩
theorem bY:zS tP 57 true 2=true:=nR
end Ct
end Go.Av
namespace Go.Av
namespace Ct
open Go.Proofs Tryz
variable{G:Glob}
structure Stn where
 pt:Int
 lo:Int
 hi:Int
structure Mp where
 wide:Int
 rows:Int
 slope:Int
 st:List Stn
structure Fld where
 wide:Int
 vals:List Int
def ei(n:Int):AV:=.v (.int .i64 n)
def eStn(s:Stn):TA:=[.v (.int .i64 s.pt),.v (.int .i64 s.lo),.v (.int .i64 s.hi)]
def eMp(m:Mp):TA:=[.v (.int .i64 m.wide),.v (.int .i64 m.rows),.v (.int .i64 m.slope),.sl (m.st.map eStn)]
def eInts(l:List Int):AV:=.sl (l.map fun n=>[.v (.int .i64 n)])
def eFld(f:Fld):TA:=[.v (.int .i64 f.wide),eInts f.vals]
def inB(x lo hi:Int):Bool:=decide (lo<=x)&&decide (x<=hi)
def eC(a b:Int):Int:=max (a-b) (b-a)
def jC(w a b:Int):Int:=eC (a/w) (b/w)+eC (a % w) (b % w)
variable{N a b w:Int}{l:List Stn}{k:Nat}
theorem dm(hw:1<=w)(ha:0<=a/\a<=N):0<=a/w/\a/w<=N/\0<=a % w/\a % w<w:=
 ⟨Int.ediv_nonneg ha.1 oM,Int.le_trans (Int.ediv_le_self _ ha.1) ha.2,Int.emod_nonneg _ oM,Int.emod_lt_of_pos _ oM⟩
theorem fb(ha:0<=a/\a<=N)(hb:0<=b/\b<=N):0<=eC a b/\eC a b<=N:=by unfold eC;omega
theorem mG(hw:1<=w)(ha:0<=a/\a<=N)(hb:0<=b/\b<=N):0<=jC w a b/\jC w a b<=N+w:=by
 have h1:=dm hw ha;have h2:=dm hw hb;have h3:=fb (N:=N) ⟨h1.1,h1.2.1⟩ ⟨h2.1,h2.2.1⟩;have h4:=fb (N:=w) ⟨h1.2.2.1,oM⟩ ⟨h2.2.2.1,oM⟩;unfold jC;omega
theorem cE(h:k<l.length):(l.map eStn)[k]?=some (eStn l[k]):=by simp[h]
theorem xY:∀q∈l.map eStn,q.length=3:=by simp[eStn]
theorem zA{l:List Int}(h:k<l.length):(l.map fun n=>[AV.v (.int .i64 n)])[k]?=some [.v (.int .i64 l[k])]:=by simp[h]
theorem zn{l:List Int}:∀q∈l.map (fun n=>[AV.v (.int .i64 n)]),q.length=1:=sI
theorem f78(x lo hi:Int):ACall tP G 132 [.v (.int .i64 x),.v (.int .i64 lo),.v (.int .i64 hi)] (.v (.bool (inB x lo hi))):=by
 refine aC func132 ?_;refine Z19 ?_;exact aR
theorem f68(x lo hi:Int):ACall tP G 227 [.v (.int .i64 x),.v (.int .i64 lo),.v (.int .i64 hi)] (.v (.bool (inB x lo hi))):=by
 refine aC func227 ?_;refine Z19 ?_;exact aR
theorem f79(x:Int):ACall tP G 133 [.v (.int .i64 x)] (.v (.bool (inB x 0 99999))):=by
 refine aC func133 ?_;refine Z8 ?_;refine yc (f78 _ _ _) ?_;refine Z4 ?_;exact aR
theorem f91(x y:Int):ACall tP G 131 [.v (.int .i64 x),.v (.int .i64 y)] (.v (.bool (inB x 1 6&&inB y 1 5))):=by
 refine aC func131 ?_;refine Z8 ?_;refine yc (f78 _ _ _) ?_;refine Z2 ?_;refine yd Y (fun hg=>(f78 _ _ _)) ?_;refine Z5 ?_;exact aR
theorem f41(m:Mp)(x:Int)(h1:1<=m.wide/\m.wide<=6)(h2:1<=m.rows/\m.rows<=5):ACall tP G 56 [.agg (eMp m),.v (.int .i64 x)] (.v (.bool (inB x 0 (m.wide*m.rows-1)))):=by
 have h3:1*1<=m.wide*m.rows:=Int.mul_le_mul h1.1 h2.1 oM oM;have h4:m.wide*m.rows<=6*5:=Int.mul_le_mul h1.2 h2.2 oM oM;refine aC func56 ?_;refine Z15 ?_;refine yc (f78 _ _ _) ?_;refine Z4 ?_;exact aR
def np(m:Mp)(s:Stn):Bool:=inB s.pt 0 (m.wide*m.rows-1)&&inB s.lo 0 99999&&inB s.hi 0 99999&&decide (s.lo<=s.hi)
def kX(m:Mp):Bool:=inB m.wide 1 6&&inB m.rows 1 5&&inB m.slope 0 5000&&decide (m.st.length<=12)
def mapB(m:Mp):Bool:=kX m&&m.st.all (np m)
theorem wN{α:Type}{p:α->Bool}{l:List α}(h:(l.take k).all p=true)(hk:k<l.length)(hp:p l[k]=true):(l.take (k+1)).all p=true:=by
 rw[zLt hk,List.all_append,h];simp[hp]
theorem yM{α:Type}{p:α->Bool}{l:List α}(hk:k<l.length)(hp:p l[k]=false):l.all p=false:=by
 rw[List.all_eq_false];exact⟨l[k],zLm hk,by simp[hp]⟩
theorem f40(m:Mp):ACall tP G 54 [.agg (eMp m)] (.v (.bool (mapB m))):=by
 refine aC func54 ?_;refine Z13 ?_;refine yc (f91 _ _) ?_;refine Z4 ?_;refine yd Y (fun hg=>(f78 _ _ _)) ?_;refine Z10 ?_;refine nC ?_ ?_<;>intro h0
 ·skip;have hf:kX m=false:=by cases hc:kX m<;>simp_all[kX,inB]<;>omega
  refine Z7 ?_;exact⟨.inr Y,AVle.of (by simp[mapB,hf])⟩
 ·skip;have hh:kX m=true:=by simp[kX,inB]at h0⊢;omega
  have hw:1<=m.wide/\m.wide<=6:=by simp_all[kX,inB]
  have hr:1<=m.rows/\m.rows<=5:=by simp_all[kX,inB]
  refine Z9 ?_;refine zD (ι:={k:Nat//k<=m.st.length/\(m.st.take k).all (np m)=true}) (fun k=>⟨Tryz.f54.ntmps,frL [(1,.pub (.ptr (eMp m))),(3,I (k.1:Int))],[]⟩) (fun k=>m.st.length-k.1) (⟨0,sI⟩) ?_ ?_
  ·exact zd _ rL (Y)
  ·rintro⟨k,hk⟩;dsimp only;refine Z10 ?_;refine nC ?_ ?_<;>intro h1
   ·skip;have hlt:k<m.st.length:=by simpa using h1
    have hl:m.st.length<=12:=by simp[kX]at hh;omega
    refine Z9 ?_;refine zb (zc Y Y Y wu oM (cE hlt) xY) (Z ?_);refine zI Y Y Y Y Y Y Y rA i6 Y rF (zF Y) Y (Z7 ?_);refine yc (f41 m _ hw hr) ?_;refine Z5 ?_;refine yd Y (fun hg=>(f79 _)) ?_;refine Z6 ?_;refine yd Y (fun hg=>(f79 _)) ?_;refine Z13 ?_;refine nC ?_ ?_<;>intro h2
    ·skip
     have hs:np m m.st[k]=false:=by
      rw[Bool.eq_false_iff];intro hc;simp[np,inB]at hc h2;omega
     refine Z11 ?_;exact⟨.inr Y,AVle.of (by simp[mapB,yM hlt hs])⟩
    ·skip;have hs:np m m.st[k]=true:=by simp[np,inB]at h2⊢;omega
     refine Z8 ?_;exact⟨⟨k+1,oM,wN hk.2 hlt hs⟩,by dsimp only;omega,zd _ rL (Y)⟩
   ·skip;have hge:m.st.length<=k:=by simpa using h1
    refine Z11 ?_;exact⟨.inr Y,AVle.of (by rw[zLk hge]at hk;simp[mapB,hh,hk.2])⟩
def kE(w slope:Int)(p:Int)(l:List Stn):Int:=l.foldl (fun a s=>max a (s.lo-slope*jC w p s.pt)) 0
def kF(w slope:Int)(p:Int)(l:List Stn):Int:=l.foldl (fun a s=>min a (s.hi+slope*jC w p s.pt)) 99999
def okM(m:Mp):Prop:=1<=m.wide/\m.wide<=6/\1<=m.rows/\m.rows<=5/\0<=m.slope/\m.slope<=5000/\m.st.length<=12/\∀s∈m.st,0<=s.pt/\s.pt<=m.wide*m.rows-1/\0<=s.lo/\s.lo<=s.hi/\s.hi<=99999
theorem okM_iff(m:Mp):mapB m=true↔okM m:=by
 unfold mapB kX okM np inB;simp only[zLa,zLd,zLu];constructor
 ·rintro⟨⟨⟨⟨h1,h2⟩,h3⟩,h4⟩,h5⟩;refine⟨h1.1,h1.2,h2.1,h2.2,h3.1,h3.2,h4,fun s hs=>?_⟩;have:=h5 s hs;omega
 ·rintro⟨h1,h2,h3,h4,h5,h6,h7,h8⟩;refine⟨⟨⟨⟨⟨h1,h2⟩,h3,h4⟩,h5,h6⟩,h7⟩,fun s hs=>?_⟩;have:=h8 s hs;omega
theorem area(h1:1<=a)(h2:a<=6)(h3:1<=b)(h4:b<=5):1<=a*b/\a*b<=30:=
 ⟨by have:=Int.mul_le_mul h1 h3 oM oM;omega,by have:=Int.mul_le_mul h2 h4 oM oM;omega⟩
theorem NA{s d:Int}(h1:0<=s)(h2:s<=5000)(h3:0<=d)(h4:d<=100):0<=s*d/\s*d<=500000:=
 ⟨Int.mul_nonneg h1 h3,by have:=Int.mul_le_mul h2 h4 h3 oM;omega⟩
theorem DK{sl p:Int}(h:k<l.length):kE w sl p (l.take (k+1))=max (kE w sl p (l.take k)) (l[k].lo-sl*jC w p l[k].pt):=by
 unfold kE;rw[zLt h,List.foldl_append];rfl
theorem CU{sl p:Int}(h:k<l.length):kF w sl p (l.take (k+1))=min (kF w sl p (l.take k)) (l[k].hi+sl*jC w p l[k].pt):=by
 unfold kF;rw[zLt h,List.foldl_append];rfl
theorem w9{α β:Type}(f:β->α->β)(I:β->Prop):∀(l:List α)(b:β),I b->(∀b a,a∈l->I b->I (f b a))->I (l.foldl f b)
 |[],b,h,_=>h
 |a::l,b,h,hs=>w9 f I l _ (hs b a sI h) (fun b x hx hb=>hs b x (by simp[hx]) hb)
end Ct
end Go.Av
end
