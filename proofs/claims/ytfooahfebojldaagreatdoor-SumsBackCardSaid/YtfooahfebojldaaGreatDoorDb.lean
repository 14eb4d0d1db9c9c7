/-
  PROVED HERE: contracts of functions (Db). No condition beside each statement's own.
-/
import Derived.Test.YtfooahfebojldaaGreatDoorDa
set_option linter.unusedVariables false
set_option linter.unusedSimpArgs false
namespace Go.Proofs.cf
open Go ay Go.Proofs cS
set_option maxRecDepth 100000
set_option maxHeartbeats 1000000
theorem Cm(a b:Nat):de (Int.ofNat a) (Int.ofNat b)=decide (a=b):=by
 by_cases h:a=b
 · rw[BU h];simp[h]
 · rw[v5 h];simp[h]
end Go.Proofs.cf
namespace Go.Proofs.cf
open Go ay Go.Proofs cS
set_option maxRecDepth 100000
set_option maxHeartbeats 1000000
end Go.Proofs.cf
namespace Go.Proofs.cf
open Go ay Go.Proofs cS
set_option maxRecDepth 100000
set_option maxHeartbeats 1000000
end Go.Proofs.cf
namespace Go.Proofs.cf
open Go ay Go.Proofs cS
set_option maxRecDepth 100000
set_option maxHeartbeats 1000000
end Go.Proofs.cf
namespace Go.Proofs.cf
open Go ay Go.Proofs cS
set_option maxRecDepth 100000
set_option maxHeartbeats 1000000
theorem ME(k:Nat)(bZ:aL)(ns:List aL)(xs:List a3)(rt:Option a3):wr (.mk k bZ ns xs rt)=cS.shape k bZ ns (xs.map a3.k) (dx xs) (mP rt):=by rw[wr]
theorem MF{ns ws:List aL}{i:Nat}(af:i<(md ns ws).length)(ab:i<ns.length)(ae:i<ws.length):(md ns ws)[i]=ns[i]++[58,32]++ws[i]:=List.getElem_zipWith (f:=λn w=>n++[58,32]++w) (h:=af)
theorem WN{iW:List Nat}{ws:List aL}{i:Nat}(af:i<(nI iW ws).length)(ab:i<iW.length)(ae:i<ws.length):(nI iW ws)[i]=if iW[i]=8 then[40]++ws[i]++[41] else ws[i]:=List.getElem_zipWith (f:=λ(k:Nat) (w:aL)=>if k=8 then[40]++w++[41] else w) (h:=af)
end Go.Proofs.cf
