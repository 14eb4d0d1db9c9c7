/-
  PROVED HERE: contracts of functions (Db). No condition beside each statement's own.
-/
import Derived.Test.YtfooahfebojldaaGreatDoorDa
set_option linter.unusedVariables false
set_option linter.unusedSimpArgs false
namespace Go.Proofs.b0
open Go aw Go.Proofs cu
set_option maxRecDepth 100000
set_option maxHeartbeats 1000000
theorem zB(a b:Nat):cU (Int.ofNat a) (Int.ofNat b)=decide (a=b):=by
 by_cases h:a=b
 · rw[Cn h];simp[h]
 · rw[y8 h];simp[h]
end Go.Proofs.b0
namespace Go.Proofs.b0
open Go aw Go.Proofs cu
set_option maxRecDepth 100000
set_option maxHeartbeats 1000000
end Go.Proofs.b0
namespace Go.Proofs.b0
open Go aw Go.Proofs cu
set_option maxRecDepth 100000
set_option maxHeartbeats 1000000
end Go.Proofs.b0
namespace Go.Proofs.b0
open Go aw Go.Proofs cu
set_option maxRecDepth 100000
set_option maxHeartbeats 1000000
end Go.Proofs.b0
namespace Go.Proofs.b0
open Go aw Go.Proofs cu
set_option maxRecDepth 100000
set_option maxHeartbeats 1000000
theorem IM(k:Nat)(bP:aJ)(aW:List aJ)(xs:List aZ)(rt:Option aZ):wr (.mk k bP aW xs rt)=cu.shape k bP aW (xs.map aZ.k) (c9 xs) (lC rt):=by rw[wr]
theorem IN{aW ws:List aJ}{i:Nat}(ae:i<(kV aW ws).length)(aa:i<aW.length)(ad:i<ws.length):(kV aW ws)[i]=aW[i]++[58,32]++ws[i]:=List.getElem_zipWith (f:=λn w=>n++[58,32]++w) (h:=ae)
theorem Rv{hE:List Nat}{ws:List aJ}{i:Nat}(ae:i<(mh hE ws).length)(aa:i<hE.length)(ad:i<ws.length):(mh hE ws)[i]=if hE[i]=8 then[40]++ws[i]++[41] else ws[i]:=List.getElem_zipWith (f:=λ(k:Nat) (w:aJ)=>if k=8 then[40]++w++[41] else w) (h:=ae)
end Go.Proofs.b0
