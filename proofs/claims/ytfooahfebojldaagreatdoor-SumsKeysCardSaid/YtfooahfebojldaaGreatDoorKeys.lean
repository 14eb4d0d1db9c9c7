/-
  PROVED HERE: lodger/lodgerlaw19.SumsKeys answers true for every input. Conditions: none beside the row's own.
-/
import Derived.Test.YtfooahfebojldaaGreatDoorDz
import Derived.Test.YtfooahfebojldaaGreatDoorCards
import Derived.Test.YtfooahfebojldaaGreatDoorTie
import Derived.ProofKit
import Derived.OpenShut
import Derived.LaidMore
import Derived.Lay
import Derived.SevenTiedAt
import Derived.Stop.Joined
import Derived.ChangeMaps5
import Derived.SliceStrings
namespace Go.Proofs.YtfooahfebojldaaGreatDoor
open Go.ChangeShapes Go.WideShapes Go.ChangeAt Go.RowKit Go.ChangeMaps aB
set_option maxRecDepth 100000
theorem XG:ownKnob Tryz.prog.godebug=none:=by kernel_rfl
theorem XH:laidOutB Tryz.prog=true:=by kernel_rfl
theorem tr:Fit Tryz.prog:=OY (by kernel_rfl) (by kernel_rfl) (by kernel_rfl)
theorem XI:B2 Tryz.prog=true:=by kernel_rfl
theorem XJ:sf Tryz.prog ⟨12,[],.bool true⟩:=B_ tr (T:=[]) trivial (n:=60) (by kernel_rfl)
theorem XK:sf Tryz.prog ⟨139,[.str df.nH],.aP [.agg (df.jE df.oH),.bool true]⟩:=B_ tr (T:=[]) trivial (n:=60) (by kernel_rfl)
theorem XL:sf Tryz.prog ⟨139,[.str (df.nH++[45,47,46])],.aP [.agg (df.jE (λn=>df.ja n)),.bool true]⟩:=B_ tr (T:=[]) trivial (n:=60) (by kernel_rfl)
theorem XM:lj Tryz.prog Go.Proofs.cD.bW:=Qp (Hi tr (λe he=>by
 rcases List.mem_cons.1 he with rfl|he
 · exact XJ
 rcases List.mem_cons.1 he with rfl|he
 · exact XK
 rcases List.mem_cons.1 he with rfl|he
 · exact XL
 · cases he)) (Qw tr (λt aU=>by cases aU) (λe he=>by
 rcases List.mem_cons.1 he with rfl|he
 · exact Go.Proofs.cD.Qy tr
 · cases he))
theorem XN:∀t∈(#[9,9,31]:Array TypeId).toList,Tryz.prog.readableRec t=true/\t<Tryz.prog.types.size:=λt aU=>by
 simp at aU
 rcases aU with rfl|rfl
 · exact⟨by kernel_rfl,of_decide_eq_true (by kernel_rfl)⟩
 · exact⟨by kernel_rfl,of_decide_eq_true (by kernel_rfl)⟩
theorem Lo:Tryz.prog.wantsStandIn 9=false:=by kernel_rfl
theorem XO:Tryz.prog.wantsStandIn 31=false:=by kernel_rfl
theorem XP:∀(j:Nat) t,(#[9,9,31]:Array TypeId)[j]? =some t->Tryz.prog.wantsStandIn t=false:=λj t aU=>by
 have hm:t∈[9,9,31]:=by
  have:=List.mem_of_getElem? (l:=[9,9,31]) (i:=j) (by simpa using aU)
  exact this
 rcases List.mem_cons.1 hm with rfl|hm
 · exact Lo
 rcases List.mem_cons.1 hm with rfl|hm
 · exact Lo
 rcases List.mem_cons.1 hm with rfl|hm
 · exact XO
 · cases hm
theorem XQ{H:Type}{enc:TypeId×Value->H}{W:World}{base:Nat}{args:Array Value}{aW:List (DataW H)}{p:List MemPlace}(iB:DataW.TrodAll enc Tryz.prog W 0 (λ_=>true) true (#[9,9,31]:Array TypeId).toList args.toList aW p)
  (mM:∀(j:Nat) t v,(#[9,9,31]:Array TypeId)[j]? =some t->args[j]? =some v->Value.okWide Tryz.prog W .any base t v)(iT:W.ShapedOpen Tryz.prog):
  (∃d1 d2 d3,aW=[d1,d2,d3])/\Calls Tryz.prog 4 args W λe hC=>e=.returned (.bool true)/\Below W.heap.size W hC:=by
 obtain⟨v,v',Lp,d,bx,XR,_,_,_,rfl,rfl,_,aa,ad,aw⟩:=trodAll_three iB
 obtain⟨s,rfl,_,_,_⟩:=open_string Go.Proofs.dQ.u6 (mM 0 _ v rfl rfl) aa
 obtain⟨bC,rfl,_,_,_⟩:=open_string Go.Proofs.dQ.u6 (mM 1 _ v' rfl rfl) ad
 obtain⟨f3,aw⟩:=aw
 have aQ:Cell.okWide Tryz.prog W .any base 31 Lp:=by
  have bS:=mM 2 _ Lp rfl rfl
  simp only[Value.okWide] at bS
  exact bS
 obtain⟨na,len,cap,rfl⟩:=Go.Proofs.dQ.WN Go.Proofs.dQ.ER aQ
 obtain⟨l,μ,g,u,s1,s2,bq,cM,dn⟩:=Go.Proofs.dQ.XC (O3 iT XI) aQ aw
 obtain⟨an,e⟩:=Go.Proofs.dQ.Xt 0 (p:=s.data.toList) (q:=bC.data.toList) (Nat.le_refl _) cM
 exact⟨⟨d,bx,XR,rfl⟩,O2 (intr:=Go.Proofs.cD.bW) (n:=502) tr XM Tryz.func4 rfl (congrArg y5 e) s1 bq s2 ⟨_,_,rfl,⟨s,rfl,rfl⟩,_,_,rfl,⟨bC,rfl,rfl⟩,_,_,rfl,dn,rfl⟩⟩
theorem XS(os:Os)(started:os.Started)(H:Type)(enc:TypeId×Value->H):
  ReturnsInHanded {} Tryz.checked os 4 .any (λw args=>(Rows.sumsKeysSpec.pre enc Tryz.prog Tryz.f4 Rows.sumsKeysRow.domain false w args/\laidMetH Tryz.prog Rows.sumsKeysRow.laid w)/\sizedMet enc Tryz.prog Tryz.f4 (OpenSpec.ofChange Rows.sumsKeysSpec) false w args)
   (Rows.sumsKeysSpec.post enc Tryz.prog Tryz.f4 false true false false):=by
 refine O7 (C:=Tryz.checked) (X:=λw _=>laidMetH Tryz.prog Rows.sumsKeysRow.laid w) (λ_ _ _ aj h=>h.of_heap aj) XG started (by kernel_rfl) Tryz.func4
  (ChangeSpec.witness_shaped (enc:=enc) (C:=Tryz.checked) (os:=os) (X:=λw _=>laidMetH Tryz.prog Rows.sumsKeysRow.laid w) false (World.laidAll Tryz.prog os Rows.sumsKeysRow.laid) #[.string ⟨#[]⟩,.string ⟨#[]⟩,.slice none 0 0] 8 (World.laidAll_os _ _ _)
   (World.shaped_of_ZipB (by kernel_rfl) (by kernel_rfl)) (by kernel_rfl) (by kernel_rfl) (by kernel_rfl)
   (by rw[MakeChecks.laidMetH_plain _ _ _ (by kernel_rfl)];exact laidMet_laidAll _ (by kernel_rfl) (by kernel_rfl))) ?_
 intro W base args aW gs before XT hq _ m5 iT
 have XU:=hq
 obtain⟨p,q,XV,B4,rfl,_,_⟩:=hq
 have iB:DataW.TrodAll enc Tryz.prog W 0 (λ_=>true) true Tryz.f4.params.toList args.toList aW p:=XV
 rw[Tryz.params4] at iB
 have mM:=XT
 rw[Tryz.params4] at mM
 obtain⟨XW,XX⟩:=XQ iB mM iT
 refine XX.mono λe hC ⟨he,hw⟩=>?_
 subst he
 exact⟨_,rfl,O4 XH (λt aU=>by rw[Tryz.params4] at aU;exact XN t aU) (by kernel_rfl) Tryz.underlying4 rfl XU (by obtain⟨d1,d2,d3,rfl⟩:=XW;rfl) hw⟩
theorem law_said:Rows.SumsKeysSaid:=
 OpenClaim.holds_of_wide 4 Tryz.f4 rfl rfl rfl rfl rfl rfl rfl ⟨rfl,rfl,rfl,rfl,rfl⟩ rfl rfl rfl rfl rfl (by kernel_rfl) Tryz.func4 (by kernel_rfl)
  (of_decide_eq_true (by kernel_rfl)) (by unfold Func.isWrapper;first|(rw[if_pos (by decide+kernel)];kernel_rfl)|(rw[if_neg (by decide+kernel)];exact⟨rfl,rfl⟩))
  (λos started H enc _=>XS os started H enc)
theorem law_holds:Rows.SumsKeysCardSaid:=
 Claim7.holds_tied_plain_at .later [] [.data,.pinned] true (true,"c0573774f6049cb0526f7cf2d328633f841b19acab48d8170e88c3ef1576b465") true law_said (λ_ h=>by cases h) (by kernel_rfl) (λ_ h=>by cases h) sumsKeys_row_tie rfl ⟨rfl,rfl⟩ (by kernel_rfl) rfl
  (λf fn hf mL=>by
   obtain rfl:f=4:=Option.some.inj ((show Tryz.prog.funcNamed "lodger/lodgerlaw19.SumsKeys" =some 4 by kernel_rfl).symm.trans hf)|>.symm
   obtain rfl:fn=Tryz.f4:=(Option.some.inj (Tryz.func4.symm.trans mL)).symm
   exact⟨by kernel_rfl,λj t aU=>by
    rw[Tryz.params4] at aU
    have:=XP j t aU
    exact this⟩)
  (by kernel_rfl)
#print axioms law_holds
end Go.Proofs.YtfooahfebojldaaGreatDoor
