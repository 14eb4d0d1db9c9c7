/-
  PROVED HERE: contracts of functions (Dy). No condition beside each statement's own.
-/
import Derived.Test.YtfooahfebojldaaGreatDoorDx
set_option linter.unusedVariables false
set_option linter.unusedSimpArgs false
namespace Go.Proofs.cN
open Go ay Go.Proofs cS Go.Proofs.cf
open Go.Proofs.cW (dC)
open Go.Proofs.ed (cM)
set_option maxRecDepth 100000
set_option maxHeartbeats 1000000
structure Dr where
 path:aL
 Pq:Bool
 pC:fN
def ab1(x:Dr):aL:=dC x.path++(if x.Pq then cM 1++e7 x.pC else cM 0)
def ab2(x:Dr):Bool:=!x.Pq||ht x.pC
def ab3(p q:aL)(l:List Dr):aL:=dC p++(dC q++(cM l.length++(l.map ab1).flatten))
def n1(p q:aL)(l:List Dr):aL:=if l.all ab2 then ab3 p q l else[]
end Go.Proofs.cN
