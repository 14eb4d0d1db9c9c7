/-
  PROVED HERE: contracts of functions (Dw). No condition beside each statement's own.
-/
import Derived.Test.YtfooahfebojldaaGreatDoorDv
import Derived.Test.YtfooahfebojldaaGreatDoorTx
set_option linter.unusedVariables false
set_option linter.unusedSimpArgs false
namespace Go.Proofs.cn
open Go aw Go.Proofs cu Go.Proofs.b0
open Go.Proofs.cT (cS nk lK)
open Go.Proofs.dV (b_ ea dC eM fS)
set_option maxRecDepth 100000
set_option maxHeartbeats 1000000
end Go.Proofs.cn
namespace Go.Proofs.cn
open Go aw Go.Proofs cu Go.Proofs.b0
open Go.Proofs.cT (cS nk lK)
open Go.Proofs.dV (b_ ea dC eM fS)
set_option maxRecDepth 100000
set_option maxHeartbeats 1000000
end Go.Proofs.cn
namespace Go.Proofs.cn
open Go aw Go.Proofs cu Go.Proofs.b0
open Go.Proofs.cT (cS nk lK)
open Go.Proofs.dV (b_ ea dC eM fS)
set_option maxRecDepth 100000
set_option maxHeartbeats 1000000
end Go.Proofs.cn
namespace Go.Proofs.cn
open Go aw Go.Proofs cu Go.Proofs.b0
open Go.Proofs.cT (cS nk lK)
open Go.Proofs.dV (b_ ea dC eM fS)
set_option maxRecDepth 100000
set_option maxHeartbeats 1000000
end Go.Proofs.cn
namespace Go.Proofs.cn
open Go aw Go.Proofs cu Go.Proofs.b0
open Go.Proofs.cT (cS nk lK)
open Go.Proofs.dV (b_ ea dC eM fS)
set_option maxRecDepth 100000
set_option maxHeartbeats 1000000
end Go.Proofs.cn
namespace Go.Proofs.cn
open Go aw Go.Proofs cu Go.Proofs.b0
open Go.Proofs.cT (cS nk lK)
open Go.Proofs.dV (b_ ea dC eM fS)
set_option maxRecDepth 100000
set_option maxHeartbeats 1000000
end Go.Proofs.cn
namespace Go.Proofs.cn
open Go aw Go.Proofs cu Go.Proofs.b0
open Go.Proofs.cT (cS nk lK)
open Go.Proofs.dV (b_ ea dC eM fS)
set_option maxRecDepth 100000
set_option maxHeartbeats 1000000
end Go.Proofs.cn
namespace Go.Proofs.cn
open Go aw Go.Proofs cu Go.Proofs.b0
open Go.Proofs.cT (cS nk lK)
open Go.Proofs.dV (b_ ea dC eM fS)
set_option maxRecDepth 100000
set_option maxHeartbeats 1000000
end Go.Proofs.cn
namespace Go.Proofs.cn
open Go aw Go.Proofs cu Go.Proofs.b0
open Go.Proofs.cT (cS nk lK)
open Go.Proofs.dV (b_ ea dC eM fS)
set_option maxRecDepth 100000
set_option maxHeartbeats 1000000
end Go.Proofs.cn
namespace Go.Proofs.cn
open Go aw Go.Proofs cu Go.Proofs.b0
open Go.Proofs.cT (cS nk lK)
open Go.Proofs.dV (b_ ea dC eM fS)
set_option maxRecDepth 100000
set_option maxHeartbeats 1000000
end Go.Proofs.cn
namespace Go.Proofs.cn
open Go aw Go.Proofs cu Go.Proofs.b0
open Go.Proofs.cT (cS nk lK)
open Go.Proofs.dV (b_ ea dC eM fS)
set_option maxRecDepth 100000
set_option maxHeartbeats 1000000
theorem J0:∀l:List aJ,gL l l=true
 |[]=>rfl
 |x::l=>by rw[gL,tU,J0 l];rfl
mutual
theorem J1:∀t:aZ,pf t t=true
 |.mk k bP aW xs rt=>by rw[pf,Nat.beq_refl,tU,J0,J2 xs,J3 rt];rfl
theorem J2:∀l:List aZ,gk l l=true
 |[]=>by rw[gk]
 |t::l=>by rw[gk,J1 t,J2 l];rfl
theorem J3:∀o:Option aZ,gU o o=true
 |none=>by rw[gU]
 |some t=>by rw[gU];exact J1 t
end
theorem U7{o:Option aZ}(h:lF o=0):nc o o=true:=by
 cases o with
 |none=>cases h
 |some t=>
  have cK:sz t<=60:=by
   by_cases cK:60<sz t
   · simp only[lF] at h;rw[if_pos cK] at h;cases h
   · omega
  unfold nc
  rw[J3]
  simp[kU,cK]
theorem D2:∀(l:List ez) (p:aJ),k2 p l=true->lO l l=true
 |[],_,_=>rfl
 |e::l,p,h=>by
  rw[k2] at h
  simp only[Bool.and_eq_true,decide_eq_true_eq] at h
  rw[lO,tU,U7 h.2.2.1,D2 l e.1 h.2.2.2];rfl
theorem U8{x:hY}(h:ko x=true):ow x x=true:=by
 unfold ko at h
 simp only[Bool.and_eq_true] at h
 unfold ow
 rw[tU,D2 _ _ h.1,D2 _ _ h.2.1,beq_self_eq_true];rfl
end Go.Proofs.cn
