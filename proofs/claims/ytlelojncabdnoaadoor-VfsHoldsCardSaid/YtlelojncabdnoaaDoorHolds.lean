/-
  PROVED HERE: lodger/lodgerlaw07.VfsHolds answers true for every input. Conditions: none beside the row's own.
-/
import Derived.Test.YtlelojncabdnoaaDoorDz
import Derived.Test.YtlelojncabdnoaaDoorCards
import Derived.Test.YtlelojncabdnoaaDoorTie
import Derived.ProofKit
import Derived.OpenShut
import Derived.LaidMore
import Derived.Lay
import Derived.SevenTiedAt
import Derived.Stop.Joined
import Derived.ChangeMaps5
import Derived.SliceStrings
set_option maxRecDepth 100000
namespace Go.Proofs.YtlelojncabdnoaaDoor
open Go.ChangeShapes Go.WideShapes Go.ChangeAt Go.RowKit Go.ChangeMaps aU
theorem Tw:ownKnob Tryd.prog.godebug=none:=by kernel_rfl
theorem Tx:laidOutB Tryd.prog=true:=by kernel_rfl
theorem zb:Fit Tryd.prog:=Mi (by kernel_rfl) (by kernel_rfl) (by kernel_rfl)
theorem Ty:AN Tryd.prog=true:=by kernel_rfl
theorem Tz:u6 Tryd.prog ⟨16,[],.bool true⟩:=Mv zb (T:=[]) trivial (n:=60) (by kernel_rfl)
theorem TA:gN Tryd.prog Go.Proofs.h3.fK:=NQ (Fj zb (λe he=>by
 rcases List.mem_cons.1 he with rfl|he
 · exact Tz
 · cases he)) (Go.Proofs.h3.Pu zb)
theorem TB:∀t∈(#[24,25]:Array TypeId).toList,Tryd.prog.readableRec t=true/\t<Tryd.prog.types.size:=λt bd=>by
 simp at bd
 rcases bd with rfl|rfl
 · exact⟨by kernel_rfl,of_decide_eq_true (by kernel_rfl)⟩
 · exact⟨by kernel_rfl,of_decide_eq_true (by kernel_rfl)⟩
theorem TC:Tryd.prog.wantsStandIn 24=false:=by kernel_rfl
theorem TD:Tryd.prog.wantsStandIn 25=false:=by kernel_rfl
theorem TE:∀(j:Nat) t,(#[24,25]:Array TypeId)[j]? =some t->Tryd.prog.wantsStandIn t=false:=λj t bd=>by
 have hm:t∈[24,25]:=by
  have:=List.mem_of_getElem? (l:=[24,25]) (i:=j) (by simpa using bd)
  exact this
 rcases List.mem_cons.1 hm with rfl|hm
 · exact TC
 rcases List.mem_cons.1 hm with rfl|hm
 · exact TD
 · cases hm
theorem TF{H:Type}{enc:TypeId×Value->H}{W:World}{base:Nat}{args:Array Value}{ds:List (DataW H)}{p:List MemPlace}(eM:DataW.TrodAll enc Tryd.prog W 0 (λ_=>true) true (#[24,25]:Array TypeId).toList args.toList ds p)
  (kV:∀(j:Nat) t v,(#[24,25]:Array TypeId)[j]? =some t->args[j]? =some v->Value.okWide Tryd.prog W .any base t v)(eY:W.ShapedOpen Tryd.prog):
  (∃d1 d2,ds=[d1,d2])/\Calls Tryd.prog 3 args W λe fF=>e=.returned (.bool true)/\Below W.heap.size W fF:=by
 obtain⟨v,v',d,d',_,_,rfl,rfl,_,h1,aa⟩:=trodAll_two eM
 obtain⟨f2,aa⟩:=aa
 obtain⟨Q,aK⟩:=Go.Proofs.h3.Tv (kV 0 _ v rfl rfl)
 have bA:=kV 1 _ v' rfl rfl
 have dB:∃a0 len cap,v'=.slice a0 len cap:=okWide_slice Go.Proofs.h3.C2 bA
 obtain⟨a0,len,cap,rfl⟩:=dB
 obtain⟨l,μ,g,u,s1,s2,bw,m1,b5⟩:=Go.Proofs.h3.Tu (Ml eY Ty) bA aa
 obtain⟨ai,e⟩:=Go.Proofs.h3.Td 60 (Nat.le_refl _) Q m1
 exact⟨⟨d,d',rfl⟩,Mk (intr:=Go.Proofs.h3.fK) (n:=63) zb TA Tryd.func3 rfl (congrArg xQ e) s1 bw s2 ⟨_,_,rfl,aK μ,_,_,rfl,b5,rfl⟩⟩
theorem TG(os:Os)(started:os.Started)(H:Type)(enc:TypeId×Value->H):
  ReturnsInHanded {} Tryd.checked os 3 .any (λw args=>(Rows.vfsHoldsSpec.pre enc Tryd.prog Tryd.f3 Rows.vfsHoldsRow.domain false w args/\laidMetH Tryd.prog Rows.vfsHoldsRow.laid w)/\sizedMet enc Tryd.prog Tryd.f3 (OpenSpec.ofChange Rows.vfsHoldsSpec) false w args)
   (Rows.vfsHoldsSpec.post enc Tryd.prog Tryd.f3 false true false false):=by
 refine Mp (C:=Tryd.checked) (X:=λw _=>laidMetH Tryd.prog Rows.vfsHoldsRow.laid w) (λ_ _ _ af h=>h.of_heap af) Tw started (by kernel_rfl) Tryd.func3
  (ChangeSpec.witness_shaped (enc:=enc) (C:=Tryd.checked) (os:=os) (X:=λw _=>laidMetH Tryd.prog Rows.vfsHoldsRow.laid w) false (World.laidAll Tryd.prog os Rows.vfsHoldsRow.laid) #[.agg #[.int .i64 0,.int .i64 0,.int .i64 0,.int .u64 0,.int .u64 0],.slice none 0 0] 8 (World.laidAll_os _ _ _)
   (World.shaped_of_ZipB (by kernel_rfl) (by kernel_rfl)) (by kernel_rfl) (by kernel_rfl) (by kernel_rfl)
   (by rw[MakeChecks.laidMetH_plain _ _ _ (by kernel_rfl)];exact laidMet_laidAll _ (by kernel_rfl) (by kernel_rfl))) ?_
 intro W base args ds gs before TH iL _ hr eY
 have TI:=iL
 obtain⟨p,q,TJ,pk,rfl,_,_⟩:=iL
 have eM:DataW.TrodAll enc Tryd.prog W 0 (λ_=>true) true Tryd.f3.params.toList args.toList ds p:=TJ
 rw[Tryd.params3] at eM
 have kV:=TH
 rw[Tryd.params3] at kV
 obtain⟨TK,TL⟩:=TF eM kV eY
 refine TL.mono λe fF ⟨he,hw⟩=>?_
 subst he
 exact⟨_,rfl,Mm Tx (λt bd=>by rw[Tryd.params3] at bd;exact TB t bd) (by kernel_rfl) Tryd.underlying4 rfl TI (by obtain⟨d1,d2,rfl⟩:=TK;rfl) hw⟩
theorem law_said:Rows.VfsHoldsSaid:=
 OpenClaim.holds_of_wide 3 Tryd.f3 rfl rfl rfl rfl rfl rfl rfl ⟨rfl,rfl,rfl,rfl,rfl⟩ rfl rfl rfl rfl rfl (by kernel_rfl) Tryd.func3 (by kernel_rfl)
  (of_decide_eq_true (by kernel_rfl)) (by unfold Func.isWrapper;first|(rw[if_pos (by decide+kernel)];kernel_rfl)|(rw[if_neg (by decide+kernel)];exact⟨rfl,rfl⟩))
  (λos started H enc _=>TG os started H enc)
theorem law_holds:Rows.VfsHoldsCardSaid:=
 Claim7.holds_tied_plain_at .later [] [.data,.pinned] true (true,"dae1913e748e28fcac2054cb47c076656b715ccc66b6921e12ea90f1ad0967c7") true law_said (λ_ h=>by cases h) (by kernel_rfl) (λ_ h=>by cases h) vfsHolds_row_tie rfl ⟨rfl,rfl⟩ (by kernel_rfl) rfl
  (λf fn hf lQ=>by
   obtain rfl:f=3:=Option.some.inj ((show Tryd.prog.funcNamed "lodger/lodgerlaw07.VfsHolds" =some 3 by kernel_rfl).symm.trans hf)|>.symm
   obtain rfl:fn=Tryd.f3:=(Option.some.inj (Tryd.func3.symm.trans lQ)).symm
   exact⟨by kernel_rfl,λj t bd=>by
    rw[Tryd.params3] at bd
    have:=TE j t bd
    exact this⟩)
  (by kernel_rfl)
#print axioms law_holds
end Go.Proofs.YtlelojncabdnoaaDoor
