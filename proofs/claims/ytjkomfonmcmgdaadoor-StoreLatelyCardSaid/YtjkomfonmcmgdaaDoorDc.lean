/-
  PROVED HERE: contracts of functions (Dc). No condition beside each statement's own.
-/
import Derived.Test.YtjkomfonmcmgdaaDoorDb
import Derived.Test.YtjkomfonmcmgdaaDoorTx
set_option linter.unusedVariables false
set_option linter.unusedSimpArgs false
set_option maxRecDepth 100000
set_option maxHeartbeats 1000000
namespace Go.Proofs.hK
open Go a8 Go.Proofs gp
theorem fE.kind{B:Nat}{h:ab}:∀{t:aZ} {v:I},fE B h t v->∃M,v=.ptr M 0/\∀x,Ext B h x->aB x M (0+0)=some (.int .i64 (Int.ofNat t.k))
 |.mk b8 cG dw gF gf,v,bm=>by
  obtain⟨M,_,_,_,_,_,_,_,ax,av,bq,_⟩:=bm
  exact⟨M,ax,λx jw=>a_ ((jw.get M av).trans bq) rfl⟩
theorem RW(p:Option a5)(k:Nat)(hb:List Nat)(w:a5)(ws:List a5):sf p (k::hb) (w::ws)=((decide (k≠9)&&decide (k≠1))&&(o3 p w&&sf (some w) hb ws)):=by rw[sf]
def hY:Option aZ->Nat
 |none=>1
 |some t=>if 60<sz t then 3 else if fD t=true then 0 else 2
end Go.Proofs.hK
