import Derived.Test.YtigbomcjnlikjaaGreatDoorPlatD
import Derived.Test.YtigbomcjnlikjaaGreatDoorSp
set_option maxRecDepth 100000
set_option maxHeartbeats 9000000
namespace Go.Av
open Go.Proofs Tryz
theorem ki:zS tP 3 false 1=true:=nR
theorem hU:zS tP 24 false 1=true:=nR
theorem zY:qV tP 24 1=true:=nR
theorem vd:zS tP 63 true 2=true:=nR
theorem Xs:tP.info? 3=some Tryz.t3:=nR
theorem ag:zO tP 63 0 0=true:=nR
theorem xE:zO tP 63 1 1=true:=nR
theorem EP:zS tP 37 true 25=true:=nR
theorem IC:(tP.info? 57).bind (·.zero)=some (.agg #[nZ,.slice none 0 0]):=nR
theorem iV:zU tP 63 [(0,1),(1,1)] [nZ,nZ]:=⟨_,underlying63,nR,nR⟩
theorem rh:zO tP 48 0 0=true:=nR
theorem sA:qV tP 38 3=true:=nR
theorem Eb:qN tP 24 3 1 8:=⟨underlying24,Tryz.t3,_,nR,rfl,rfl,rfl,rfl,dE⟩
theorem mixed:tP.follows .mixedOrders=true:=nR
theorem fL:zS tP 126 true 4=true:=nR
theorem uM:(tP.info? 126).bind (·.zero)=some (.agg #[nZ,nZ,nZ,.slice none 0 0]):=nR
theorem tw:zS tP 57 true 2=true:=nR
theorem zB:(tP.info? 4).bind (·.zero)=some (.bool false):=nR
theorem vG:zO tP 37 6 10=true:=nR
theorem IU:zS tP 33 true 9=true:=nR
theorem ty4:zS tP 4 false 1=true:=nR
theorem si:zS tP 82 true 7=true:=nR
theorem kD:zO tP 33 1 1=true:=nR
theorem FM:zS tP 204 false 1=true:=nR
theorem Qv:qN tP 29 82 7 56:=⟨underlying29,Tryz.t82,_,nR,rfl,rfl,rfl,rfl,dE⟩
theorem F7:zS tP 228 false 1=true:=nR
theorem IP:zO tP 68 0 0=true:=nR
theorem iu:zS tP 46 false 1=true:=nR
theorem kB:zO tP 37 1 1=true:=nR
theorem eX:zO tP 26 0 0=true:=nR
theorem ib:qV tP 108 1=true:=nR
theorem lC:zO tP 178 0 0=true:=nR
theorem pS:zO tP 48 1 1=true:=nR
theorem oG:zO tP 37 0 0=true:=nR
theorem mO:qV tP 173 4=true:=nR
theorem jG:zS tP 42 false 1=true:=nR
theorem UP:(tP.info? 33).bind (·.zero)=some (.agg #[nZ,.slice none 0 0,.slice none 0 0,.slice none 0 0,nZ,nZ,nZ,nZ,nZ]):=nR
theorem NI:tP.info? 82=some Tryz.t82:=nR
theorem AC:zO tP 68 1 9=true:=nR
theorem wO:zO tP 178 2 26=true:=nR
theorem bR:zS tP 174 false 1=true:=nR
theorem Gt:qV tP 174 1=true:=nR
theorem gQ:zO tP 178 3 27=true:=nR
theorem Im:zS tP 175 false 1=true:=nR
theorem AZ:zS tP 194 true 2=true:=nR
theorem o9:zO tP 197 1 1=true:=nR
theorem Uw:(tP.info? 24).bind (·.zero)=some (.slice none 0 0):=nR
theorem u7:(tP.info? 194).bind (·.zero)=some (.agg #[nZ,nZ]):=nR
theorem dY:zS tP 158 true 10=true:=nR
theorem FR:zS tP 70 true 6=true:=nR
theorem Pz:(tP.info? 70).bind (·.zero)=some (.agg #[nZ,nZ,nZ,nZ,nZ,nZ]):=nR
theorem uD:(tP.info? 158).bind (·.zero)=some (.agg #[nZ,nZ,nZ,nZ,nZ,nZ,nZ,nZ,.slice none 0 0,.map none]):=nR
theorem Xp:zU tP 158 [(0,9),(9,1)] [nZ,nZ,nZ,nZ,nZ,nZ,nZ,nZ,.slice none 0 0,.map none]:=⟨_,underlying158,nR,nR⟩
theorem AO:zO tP 70 1 2=true:=nR
theorem XR:qN tP 46 108 1 24:=⟨underlying46,Tryz.t108,_,nR,rfl,rfl,rfl,rfl,dE⟩
theorem U9:qN tP 108 9 1 16:=⟨underlying108,Tryz.t9,_,nR,rfl,rfl,rfl,rfl,dE⟩
theorem XL:zS tP 26 true 3=true:=nR
theorem eN:qV tP 77 1=true:=nR
theorem ii:qV tP 46 1=true:=nR
theorem fe:zO tP 48 2 2=true:=nR
theorem X5:zU tP 75 [(0,1),(1,1),(2,1),(3,1),(4,2),(6,2),(8,2)] [nZ,nZ,nZ,nZ,nZ,nZ,nZ,nZ,nZ,nZ]:=⟨_,underlying75,nR,nR⟩
theorem I1:(tP.info? 82).bind (·.zero)=some (.agg #[nZ,nZ,nZ,nZ,nZ,nZ,nZ]):=nR
theorem UU:zU tP 82 [(0,1),(1,1),(2,1),(3,2),(5,1),(6,1)] [nZ,nZ,nZ,nZ,nZ,nZ,nZ]:=⟨_,underlying82,nR,nR⟩
theorem X0:qN tP 38 48 3 56:=⟨underlying38,Tryz.t48,_,nR,rfl,rfl,rfl,rfl,dE⟩
theorem OY:tP.info? 48=some Tryz.t48:=nR
theorem sB:(tP.info? 183).bind (·.zero)=some (.agg #[.slice none 0 0,.slice none 0 0]):=nR
theorem Rz:wL tP 295 1 [.nilFunc,.nilFunc]:=⟨_,_,Tryz.t228,underlying295,nR,nR,nR⟩
theorem It:vy tP 295 2 1=true:=nR
theorem yu:vy tP 183 2 1=true:=nR
theorem pq:zS tP 183 true 2=true:=nR
theorem uT:zO tP 57 1 1=true:=nR
theorem dO:zS tP 242 true 7=true:=nR
theorem cg:zO tP 242 1 5=true:=nR
theorem pU:zO tP 242 2 6=true:=nR
theorem G8:(tP.info? 242).bind (·.zero)=some (.agg #[.nilFunc,nZ,.bool false,.bool false,.bool false,.slice none 0 0,.slice none 0 0]):=nR
theorem iC:zO tP 242 0 0=true:=nR
theorem GF:zS tP 213 false 1=true:=nR
theorem lY:zO tP 215 1 1=true:=nR
theorem A7:zS tP 35 true 3=true:=nR
theorem pN:zO tP 37 9 21=true:=nR
theorem rM:zS tP 66 true 9=true:=nR
theorem Vu:(tP.info? 37).bind (·.zero)=some (.agg #[.slice none 0 0,.slice none 0 0,.slice none 0 0,nZ,nZ,nZ,nZ,nZ,nZ,nZ,nZ,.slice none 0 0,.slice none 0 0,.slice none 0 0,nZ,nZ,nZ,nZ,nZ,nZ,.slice none 0 0,nZ,nZ,nZ,nZ]):=nR
theorem fB:zO tP 37 7 19=true:=nR
theorem rR:zO tP 37 8 20=true:=nR
theorem zv3:(tP.info? 3).bind (·.zero)=some (nZ):=nR
theorem nz:zO tP 26 1 1=true:=nR
end Go.Av
