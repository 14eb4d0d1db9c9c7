/-
  PROVED HERE: contracts of functions (Db). No condition beside each statement's own.
-/
import Derived.Test.YtjkomfonmcmgdaaDoorDa
set_option linter.unusedVariables false
set_option linter.unusedSimpArgs false
set_option maxRecDepth 100000
set_option maxHeartbeats 1000000
namespace Go.Proofs.hK
open Go a8 Go.Proofs gp
theorem Dz(a b:Nat):cW (Int.ofNat a) (Int.ofNat b)=decide (a=b):=by
 by_cases h:a=b
 · rw[qc h];simp[h]
 · rw[oV h];simp[h]
theorem I6(k:Nat)(nm:a5)(ns:List a5)(xs:List aZ)(rt:Option aZ):wr (.mk k nm ns xs rt)=gp.shape k nm ns (xs.map aZ.k) (c0 xs) (lD rt):=by rw[wr]
theorem I7{ns ws:List a5}{i:Nat}(ag:i<(kV ns ws).length)(aa:i<ns.length)(ad:i<ws.length):(kV ns ws)[i]=ns[i]++[58,32]++ws[i]:=List.getElem_zipWith (f:=λn w=>n++[58,32]++w) (h:=ag)
theorem RV{hb:List Nat}{ws:List a5}{i:Nat}(ag:i<(mj hb ws).length)(aa:i<hb.length)(ad:i<ws.length):(mj hb ws)[i]=if hb[i]=8 then[40]++ws[i]++[41] else ws[i]:=List.getElem_zipWith (f:=λ(k:Nat) (w:a5)=>if k=8 then[40]++w++[41] else w) (h:=ag)
end Go.Proofs.hK
