/-
  PROVED HERE: contracts of functions (Dw). No condition beside each statement's own.
-/
import Derived.Test.YtfooahfebojldaaGreatDoorDv
import Derived.Test.YtfooahfebojldaaGreatDoorTx
set_option linter.unusedVariables false
set_option linter.unusedSimpArgs false
namespace Go.Proofs.cN
open Go ay Go.Proofs cS Go.Proofs.cf
open Go.Proofs.cW (dC oU jc)
open Go.Proofs.ed (cM cv a_ cH ff)
set_option maxRecDepth 100000
set_option maxHeartbeats 1000000
end Go.Proofs.cN
namespace Go.Proofs.cN
open Go ay Go.Proofs cS Go.Proofs.cf
open Go.Proofs.cW (dC oU jc)
open Go.Proofs.ed (cM cv a_ cH ff)
set_option maxRecDepth 100000
set_option maxHeartbeats 1000000
end Go.Proofs.cN
namespace Go.Proofs.cN
open Go ay Go.Proofs cS Go.Proofs.cf
open Go.Proofs.cW (dC oU jc)
open Go.Proofs.ed (cM cv a_ cH ff)
set_option maxRecDepth 100000
set_option maxHeartbeats 1000000
end Go.Proofs.cN
namespace Go.Proofs.cN
open Go ay Go.Proofs cS Go.Proofs.cf
open Go.Proofs.cW (dC oU jc)
open Go.Proofs.ed (cM cv a_ cH ff)
set_option maxRecDepth 100000
set_option maxHeartbeats 1000000
end Go.Proofs.cN
namespace Go.Proofs.cN
open Go ay Go.Proofs cS Go.Proofs.cf
open Go.Proofs.cW (dC oU jc)
open Go.Proofs.ed (cM cv a_ cH ff)
set_option maxRecDepth 100000
set_option maxHeartbeats 1000000
end Go.Proofs.cN
namespace Go.Proofs.cN
open Go ay Go.Proofs cS Go.Proofs.cf
open Go.Proofs.cW (dC oU jc)
open Go.Proofs.ed (cM cv a_ cH ff)
set_option maxRecDepth 100000
set_option maxHeartbeats 1000000
end Go.Proofs.cN
namespace Go.Proofs.cN
open Go ay Go.Proofs cS Go.Proofs.cf
open Go.Proofs.cW (dC oU jc)
open Go.Proofs.ed (cM cv a_ cH ff)
set_option maxRecDepth 100000
set_option maxHeartbeats 1000000
end Go.Proofs.cN
namespace Go.Proofs.cN
open Go ay Go.Proofs cS Go.Proofs.cf
open Go.Proofs.cW (dC oU jc)
open Go.Proofs.ed (cM cv a_ cH ff)
set_option maxRecDepth 100000
set_option maxHeartbeats 1000000
end Go.Proofs.cN
namespace Go.Proofs.cN
open Go ay Go.Proofs cS Go.Proofs.cf
open Go.Proofs.cW (dC oU jc)
open Go.Proofs.ed (cM cv a_ cH ff)
set_option maxRecDepth 100000
set_option maxHeartbeats 1000000
end Go.Proofs.cN
namespace Go.Proofs.cN
open Go ay Go.Proofs cS Go.Proofs.cf
open Go.Proofs.cW (dC oU jc)
open Go.Proofs.ed (cM cv a_ cH ff)
set_option maxRecDepth 100000
set_option maxHeartbeats 1000000
end Go.Proofs.cN
namespace Go.Proofs.cN
open Go ay Go.Proofs cS Go.Proofs.cf
open Go.Proofs.cW (dC oU jc)
open Go.Proofs.ed (cM cv a_ cH ff)
set_option maxRecDepth 100000
set_option maxHeartbeats 1000000
theorem OW:∀l:List aL,hU l l=true
 |[]=>rfl
 |x::l=>by rw[hU,v7,OW l];rfl
mutual
theorem OX:∀t:a3,qP t t=true
 |.mk k bZ ns xs rt=>by rw[qP,Nat.beq_refl,v7,OW,OY xs,OZ rt];rfl
theorem OY:∀l:List a3,hr l l=true
 |[]=>by rw[hr]
 |t::l=>by rw[hr,OX t,OY l];rfl
theorem OZ:∀o:Option a3,h8 o o=true
 |none=>by rw[h8]
 |some t=>by rw[h8];exact OX t
end
theorem abo{o:Option a3}(h:mS o=0):oM o o=true:=by
 cases o with
 |none=>cases h
 |some t=>
  have cB:sz t<=60:=by
   by_cases cB:60<sz t
   · simp only[mS] at h;rw[if_pos cB] at h;cases h
   · omega
  unfold oM
  rw[OZ]
  simp[lD,cB]
theorem HZ:∀(l:List dQ) (p:aL),mh p l=true->m1 l l=true
 |[],_,_=>rfl
 |e::l,p,h=>by
  rw[mh] at h
  simp only[Bool.and_eq_true,decide_eq_true_eq] at h
  rw[m1,v7,abo h.2.2.1,HZ l e.1 h.2.2.2];rfl
theorem O0{x:fN}(h:ht x=true):p8 x x=true:=by
 unfold ht at h
 simp only[Bool.and_eq_true] at h
 unfold p8
 rw[v7,HZ _ _ h.1,HZ _ _ h.2.1,beq_self_eq_true];rfl
theorem O1{aW:Nat}{s:aL}{x:fN}(h:gZ aW s=some x):ht x=true:=by
 unfold gZ at h
 cases ai:ri aW s with
 |none=>rw[ai] at h;cases h
 |some y=>
  rw[ai] at h
  simp only[Option.bind_some] at h
  by_cases ah:(jc y.2&&ht y.1)=true
  · rw[if_pos ah] at h
    cases h
    rw[Bool.and_eq_true] at ah
    exact ah.2
  · rw[if_neg ah] at h;cases h
def abp:Option fN->fN
 |none=>⟨[],false,[],[]⟩
 |some z=>z
def abq:Option fN->Nat
 |none=>4
 |some _=>0
theorem HW.ky{h:aa}{o:Option fN}{x:ax}(aq:HW h o x):∃p b v w e g y,x=.ret (.aD [.agg [.str p,.bool b,v,w],.int .i64 (Int.ofNat e)]) g/\Ext h.n h g/\y.path=p/\y.eY=b/\kV g.n g v w y/\la y/\y=abp o/\e=abq o/\v.bF=true/\w.bF=true:=by
 cases o with
 |none=>
  obtain⟨g,rfl,ad⟩:=aq
  exact⟨[],false,.az,.az,4,g,⟨[],false,[],[]⟩,rfl,ad,rfl,rfl,⟨.inl ⟨rfl,rfl⟩,.inl ⟨rfl,rfl⟩⟩,⟨by simp,by simp,by simp,λe he=>(by cases he),λe he=>(by cases he)⟩,rfl,rfl,rfl,rfl⟩
 |some z=>
  obtain⟨g,vv,vt,rfl,ad,aH,hf⟩:=aq
  exact⟨_,_,vv,vt,0,g,z,rfl,ad,rfl,rfl,aH,hf,rfl,rfl,aH.v.cell,aH.t.cell⟩
theorem H2{p:aL}{b:Bool}{v w:J}(aH:v.bF=true)(hw:w.bF=true):eP 0 [.str p,.bool b,v,w] [.str [],.bool false,.az,.az]=some [.str p,.bool b,v,w]:=vY [.str p,.bool b,v,w] _ (by simp[J.bF] at*;exact⟨aH,hw⟩) (Nat.le_refl _)
end Go.Proofs.cN
