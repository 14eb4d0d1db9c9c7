/-
  PROVED HERE: lodger/lodgerlaw19.SumsApart answers true for every input. Conditions: none beside the row's own.
-/
import Derived.Test.YtfooahfebojldaaGreatDoorDz
import Derived.Test.YtfooahfebojldaaGreatDoorCards
import Derived.Test.YtfooahfebojldaaGreatDoorTie
import Derived.ProofKit
import Derived.OpenShut
import Derived.LaidMore
import Derived.Lay
import Derived.SevenTiedAt
import Derived.Stop.Joined
import Derived.ChangeMaps5
import Derived.SliceStrings
namespace Go.Proofs.YtfooahfebojldaaGreatDoor
open Go.ChangeShapes Go.WideShapes Go.ChangeAt Go.RowKit Go.ChangeMaps aw
set_option maxRecDepth 100000
theorem WR:ownKnob Tryz.prog.godebug=none:=by kernel_rfl
theorem WS:laidOutB Tryz.prog=true:=by kernel_rfl
theorem td:Fit Tryz.prog:=OB (by kernel_rfl) (by kernel_rfl) (by kernel_rfl)
theorem WT:BN Tryz.prog=true:=by kernel_rfl
theorem WU:rX Tryz.prog ⟨12,[],.bool true⟩:=BU td (T:=[]) trivial (n:=60) (by kernel_rfl)
theorem WV:rX Tryz.prog ⟨139,[.str cu.m8],.aK [.agg (cu.iW cu.og),.bool true]⟩:=BU td (T:=[]) trivial (n:=60) (by kernel_rfl)
theorem WW:rX Tryz.prog ⟨139,[.str (cu.m8++[45,47,46])],.aK [.agg (cu.iW (λn=>cu.qO n)),.bool true]⟩:=BU td (T:=[]) trivial (n:=60) (by kernel_rfl)
theorem WX:kI Tryz.prog Go.Proofs.b0.bW:=P6 (GW td (λe he=>by
 rcases List.mem_cons.1 he with rfl|he
 · exact WU
 rcases List.mem_cons.1 he with rfl|he
 · exact WV
 rcases List.mem_cons.1 he with rfl|he
 · exact WW
 · cases he)) (Qc td (λt aQ=>by cases aQ) (λe he=>by
 rcases List.mem_cons.1 he with rfl|he
 · exact Go.Proofs.b0.Qd td
 · cases he))
theorem WY:∀t∈(#[43,43,44]:Array TypeId).toList,Tryz.prog.readableRec t=true/\t<Tryz.prog.types.size:=λt aQ=>by
 simp at aQ
 rcases aQ with rfl|rfl
 · exact⟨by kernel_rfl,of_decide_eq_true (by kernel_rfl)⟩
 · exact⟨by kernel_rfl,of_decide_eq_true (by kernel_rfl)⟩
theorem K3:Tryz.prog.wantsStandIn 43=false:=by kernel_rfl
theorem WZ:Tryz.prog.wantsStandIn 44=false:=by kernel_rfl
theorem W0:∀(j:Nat) t,(#[43,43,44]:Array TypeId)[j]? =some t->Tryz.prog.wantsStandIn t=false:=λj t aQ=>by
 have hm:t∈[43,43,44]:=by
  have:=List.mem_of_getElem? (l:=[43,43,44]) (i:=j) (by simpa using aQ)
  exact this
 rcases List.mem_cons.1 hm with rfl|hm
 · exact K3
 rcases List.mem_cons.1 hm with rfl|hm
 · exact K3
 rcases List.mem_cons.1 hm with rfl|hm
 · exact WZ
 · cases hm
theorem W1{H:Type}{enc:TypeId×Value->H}{W:World}{base:Nat}{args:Array Value}{aS:List (DataW H)}{p:List MemPlace}(h8:DataW.TrodAll enc Tryz.prog W 0 (λ_=>true) true (#[43,43,44]:Array TypeId).toList args.toList aS p)
  (l5:∀(j:Nat) t v,(#[43,43,44]:Array TypeId)[j]? =some t->args[j]? =some v->Value.okWide Tryz.prog W .any base t v)(iv:W.ShapedOpen Tryz.prog):
  (∃d1 d2 d3,aS=[d1,d2,d3])/\Calls Tryz.prog 7 args W λe g5=>e=.returned (.bool true)/\Below W.heap.size W g5:=by
 obtain⟨v,v',W2,d,bn,W3,_,_,_,rfl,rfl,_,aa,ad,ar⟩:=trodAll_three h8
 obtain⟨s,t,rfl⟩:=Go.Proofs.cn.open_pair (l5 0 _ v rfl rfl)
 obtain⟨bo,uj,rfl⟩:=Go.Proofs.cn.open_pair (l5 1 _ v' rfl rfl)
 obtain⟨f3,ar⟩:=ar
 obtain⟨l,h4,μ,g,u,mX,s1,s2,bI,cm,fY,c7⟩:=Go.Proofs.cn.Wu (OG iv WT) (l5 2 _ W2 rfl rfl) ar
 obtain⟨ak,e⟩:=Go.Proofs.cn.WN 0 (p:=s.data.toList) (p':=t.data.toList) (q:=bo.data.toList) (q':=uj.data.toList) (Nat.le_refl _) cm fY
 exact⟨⟨d,bn,W3,rfl⟩,OF (intr:=Go.Proofs.b0.bW) (n:=502) td WX Tryz.func7 rfl (congrArg yK e) s1 bI s2 ⟨_,_,rfl,⟨_,rfl,_,_,rfl,⟨s,rfl,rfl⟩,_,_,rfl,⟨t,rfl,rfl⟩,rfl⟩,_,_,rfl,⟨_,rfl,_,_,rfl,⟨bo,rfl,rfl⟩,_,_,rfl,⟨uj,rfl,rfl⟩,rfl⟩,_,_,rfl,c7,rfl⟩⟩
theorem W4(os:Os)(started:os.Started)(H:Type)(enc:TypeId×Value->H):
  ReturnsInHanded {} Tryz.checked os 7 .any (λw args=>(Rows.sumsApartSpec.pre enc Tryz.prog Tryz.f7 Rows.sumsApartRow.domain false w args/\laidMetH Tryz.prog Rows.sumsApartRow.laid w)/\sizedMet enc Tryz.prog Tryz.f7 (OpenSpec.ofChange Rows.sumsApartSpec) false w args)
   (Rows.sumsApartSpec.post enc Tryz.prog Tryz.f7 false true false false):=by
 refine OK (C:=Tryz.checked) (X:=λw _=>laidMetH Tryz.prog Rows.sumsApartRow.laid w) (λ_ _ _ ah h=>h.of_heap ah) WR started (by kernel_rfl) Tryz.func7
  (ChangeSpec.witness_shaped (enc:=enc) (C:=Tryz.checked) (os:=os) (X:=λw _=>laidMetH Tryz.prog Rows.sumsApartRow.laid w) false (World.laidAll Tryz.prog os Rows.sumsApartRow.laid) #[.agg #[.string ⟨#[]⟩,.string ⟨#[]⟩],.agg #[.string ⟨#[]⟩,.string ⟨#[]⟩],.agg #[.slice none 0 0,.slice none 0 0]] 8 (World.laidAll_os _ _ _)
   (World.shaped_of_ZipB (by kernel_rfl) (by kernel_rfl)) (by kernel_rfl) (by kernel_rfl) (by kernel_rfl)
   (by rw[MakeChecks.laidMetH_plain _ _ _ (by kernel_rfl)];exact laidMet_laidAll _ (by kernel_rfl) (by kernel_rfl))) ?_
 intro W base args aS gs before W5 ix _ mm iv
 have W6:=ix
 obtain⟨p,q,W7,BP,rfl,_,_⟩:=ix
 have h8:DataW.TrodAll enc Tryz.prog W 0 (λ_=>true) true Tryz.f7.params.toList args.toList aS p:=W7
 rw[Tryz.params7] at h8
 have l5:=W5
 rw[Tryz.params7] at l5
 obtain⟨W8,W9⟩:=W1 h8 l5 iv
 refine W9.mono λe g5 ⟨he,hw⟩=>?_
 subst he
 exact⟨_,rfl,OH WS (λt aQ=>by rw[Tryz.params7] at aQ;exact WY t aQ) (by kernel_rfl) Tryz.underlying4 rfl W6 (by obtain⟨d1,d2,d3,rfl⟩:=W8;rfl) hw⟩
theorem law_said:Rows.SumsApartSaid:=
 OpenClaim.holds_of_wide 7 Tryz.f7 rfl rfl rfl rfl rfl rfl rfl ⟨rfl,rfl,rfl,rfl,rfl⟩ rfl rfl rfl rfl rfl (by kernel_rfl) Tryz.func7 (by kernel_rfl)
  (of_decide_eq_true (by kernel_rfl)) (by unfold Func.isWrapper;first|(rw[if_pos (by decide+kernel)];kernel_rfl)|(rw[if_neg (by decide+kernel)];exact⟨rfl,rfl⟩))
  (λos started H enc _=>W4 os started H enc)
theorem law_holds:Rows.SumsApartCardSaid:=
 Claim7.holds_tied_plain_at .later [] [.data,.pinned] true (true,"c0573774f6049cb0526f7cf2d328633f841b19acab48d8170e88c3ef1576b465") true law_said (λ_ h=>by cases h) (by kernel_rfl) (λ_ h=>by cases h) sumsApart_row_tie rfl ⟨rfl,rfl⟩ (by kernel_rfl) rfl
  (λf fn hf l4=>by
   obtain rfl:f=7:=Option.some.inj ((show Tryz.prog.funcNamed "lodger/lodgerlaw19.SumsApart" =some 7 by kernel_rfl).symm.trans hf)|>.symm
   obtain rfl:fn=Tryz.f7:=(Option.some.inj (Tryz.func7.symm.trans l4)).symm
   exact⟨by kernel_rfl,λj t aQ=>by
    rw[Tryz.params7] at aQ
    have:=W0 j t aQ
    exact this⟩)
  (by kernel_rfl)
#print axioms law_holds
end Go.Proofs.YtfooahfebojldaaGreatDoor
