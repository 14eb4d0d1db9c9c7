/-
  PROVED HERE: lodger/lodgerlaw19.SumsReads answers true for every input. Conditions: none beside the row's own.
-/
import Derived.Test.YtfooahfebojldaaGreatDoorDn
import Derived.Test.YtfooahfebojldaaGreatDoorCards
import Derived.Test.YtfooahfebojldaaGreatDoorTie
import Derived.ProofKit
import Derived.OpenShut
import Derived.LaidMore
import Derived.Lay
import Derived.SevenTiedAt
import Derived.Stop.Joined
import Derived.ChangeMaps5
import Derived.SliceStrings
namespace Go.Proofs.YtfooahfebojldaaGreatDoor
open Go.ChangeShapes Go.WideShapes Go.ChangeAt Go.RowKit Go.ChangeMaps aC
set_option maxRecDepth 100000
theorem abO:ownKnob Tryz.prog.godebug=none:=by kernel_rfl
theorem abP:laidOutB Tryz.prog=true:=by kernel_rfl
theorem z2:Fit Tryz.prog:=RV (by kernel_rfl) (by kernel_rfl) (by kernel_rfl)
theorem abQ:Ej Tryz.prog=true:=by kernel_rfl
theorem abR:tR Tryz.prog ⟨12,[],.bool true⟩:=Eo z2 (T:=[]) trivial (n:=60) (by kernel_rfl)
theorem abS:tR Tryz.prog ⟨139,[.str dD.pc],.aL [.agg (dD.k3 dD.qg),.bool true]⟩:=Eo z2 (T:=[]) trivial (n:=60) (by kernel_rfl)
theorem abT:tR Tryz.prog ⟨139,[.str (dD.pc++[45,47,46])],.aL [.agg (dD.k3 (λn=>dD.kK n)),.bool true]⟩:=Eo z2 (T:=[]) trivial (n:=60) (by kernel_rfl)
theorem abU:tE Tryz.prog Go.Proofs.cT.cj:=JJ z2 (λe he=>by
 rcases List.mem_cons.1 he with rfl|he
 · exact abR
 rcases List.mem_cons.1 he with rfl|he
 · exact abS
 rcases List.mem_cons.1 he with rfl|he
 · exact abT
 · cases he)
theorem abV:∀t∈(#[9]:Array TypeId).toList,Tryz.prog.readableRec t=true/\t<Tryz.prog.types.size:=λt bh=>by
 simp at bh;subst bh;exact⟨by kernel_rfl,of_decide_eq_true (by kernel_rfl)⟩
theorem abW:Tryz.prog.wantsStandIn 9=false:=by kernel_rfl
theorem abX:∀(j:Nat) t,(#[9]:Array TypeId)[j]? =some t->Tryz.prog.wantsStandIn t=false:=λj t bh=>by
 have hm:t∈[9]:=by
  have:=List.mem_of_getElem? (l:=[9]) (i:=j) (by simpa using bh)
  exact this
 obtain rfl:t=9:=by simpa using hm
 exact abW
theorem abY{H:Type}{enc:TypeId×Value->H}{W:World}{base:Nat}{args:Array Value}{bd:List (DataW H)}{p:List MemPlace}(kB:DataW.TrodAll enc Tryz.prog W 0 (λ_=>true) true (#[9]:Array TypeId).toList args.toList bd p)
  (pZ:∀(j:Nat) t v,(#[9]:Array TypeId)[j]? =some t->args[j]? =some v->Value.okWide Tryz.prog W .any base t v)(ll:W.ShapedOpen Tryz.prog):
  (∃d,bd=[d])/\Calls Tryz.prog 3 args W λe iY=>e=.returned (.bool true)/\Below W.heap.size W iY:=by
 obtain⟨v,d,rfl,rfl,ab⟩:=trodAll_one kB
 obtain⟨s,rfl,_,_,_⟩:=open_string Tryz.underlying9 (pZ 0 9 v rfl rfl) ab
 obtain⟨ae,aB,aP⟩:=JE (P:=Tryz.prog) (RZ ll abQ)
 obtain⟨an,e⟩:=Go.Proofs.ew.abC 0 s.data.toList (oJ Tryz.prog.globals.size)
 exact⟨⟨d,rfl⟩,RY (intr:=Go.Proofs.cT.cj) (n:=502) z2 abU Tryz.func3 rfl (congrArg Bd e) ae aP aB ⟨.string s,[],rfl,⟨s,rfl,rfl⟩,rfl⟩⟩
theorem abZ(os:Os)(started:os.Started)(H:Type)(enc:TypeId×Value->H):
  ReturnsInHanded {} Tryz.checked os 3 .any (λw args=>(Rows.sumsReadsSpec.pre enc Tryz.prog Tryz.f3 Rows.sumsReadsRow.domain false w args/\laidMetH Tryz.prog Rows.sumsReadsRow.laid w)/\sizedMet enc Tryz.prog Tryz.f3 (OpenSpec.ofChange Rows.sumsReadsSpec) false w args)
   (Rows.sumsReadsSpec.post enc Tryz.prog Tryz.f3 false true false false):=by
 refine R3 (C:=Tryz.checked) (X:=λw _=>laidMetH Tryz.prog Rows.sumsReadsRow.laid w) (λ_ _ _ ah h=>h.of_heap ah) abO started (by kernel_rfl) Tryz.func3
  (ChangeSpec.witness_shaped (enc:=enc) (C:=Tryz.checked) (os:=os) (X:=λw _=>laidMetH Tryz.prog Rows.sumsReadsRow.laid w) false (World.laidAll Tryz.prog os Rows.sumsReadsRow.laid) #[.string ⟨#[]⟩] 8 (World.laidAll_os _ _ _)
   (World.shaped_of_ZipB (by kernel_rfl) (by kernel_rfl)) (by kernel_rfl) (by kernel_rfl) (by kernel_rfl)
   (by rw[MakeChecks.laidMetH_plain _ _ _ (by kernel_rfl)];exact laidMet_laidAll _ (by kernel_rfl) (by kernel_rfl))) ?_
 intro W base args bd gs before ab0 lq _ oh ll
 have ab1:=lq
 obtain⟨p,q,ab2,qY,rfl,_,_⟩:=lq
 have kB:DataW.TrodAll enc Tryz.prog W 0 (λ_=>true) true Tryz.f3.params.toList args.toList bd p:=ab2
 rw[Tryz.params3] at kB
 have pZ:=ab0
 rw[Tryz.params3] at pZ
 obtain⟨ab3,ab4⟩:=abY kB pZ ll
 refine ab4.mono λe iY ⟨he,hw⟩=>?_
 subst he
 exact⟨_,rfl,R0 abP (λt bh=>by rw[Tryz.params3] at bh;exact abV t bh) (by kernel_rfl) Tryz.underlying4 rfl ab1 (by obtain⟨d,rfl⟩:=ab3;rfl) hw⟩
theorem law_said:Rows.SumsReadsSaid:=
 OpenClaim.holds_of_wide 3 Tryz.f3 rfl rfl rfl rfl rfl rfl rfl ⟨rfl,rfl,rfl,rfl,rfl⟩ rfl rfl rfl rfl rfl (by kernel_rfl) Tryz.func3 (by kernel_rfl)
  (of_decide_eq_true (by kernel_rfl)) (by unfold Func.isWrapper;first|(rw[if_pos (by decide+kernel)];kernel_rfl)|(rw[if_neg (by decide+kernel)];exact⟨rfl,rfl⟩))
  (λos started H enc _=>abZ os started H enc)
theorem law_holds:Rows.SumsReadsCardSaid:=
 Claim7.holds_tied_plain_at .later [] [.data,.pinned] true (true,"c0573774f6049cb0526f7cf2d328633f841b19acab48d8170e88c3ef1576b465") true law_said (λ_ h=>by cases h) (by kernel_rfl) (λ_ h=>by cases h) sumsReads_row_tie rfl ⟨rfl,rfl⟩ (by kernel_rfl) rfl
  (λf fn hf n1=>by
   obtain rfl:f=3:=Option.some.inj ((show Tryz.prog.funcNamed "lodger/lodgerlaw19.SumsReads" =some 3 by kernel_rfl).symm.trans hf)|>.symm
   obtain rfl:fn=Tryz.f3:=(Option.some.inj (Tryz.func3.symm.trans n1)).symm
   exact⟨by kernel_rfl,λj t bh=>by
    rw[Tryz.params3] at bh
    have:=abX j t bh
    exact this⟩)
  (by kernel_rfl)
#print axioms law_holds
end Go.Proofs.YtfooahfebojldaaGreatDoor
