/-
  PROVED HERE: lodger/lodgerlaw19.SumsLays answers true for every input. Conditions: none beside the row's own.
-/
import Derived.Test.YtfooahfebojldaaGreatDoorDz
import Derived.Test.YtfooahfebojldaaGreatDoorCards
import Derived.Test.YtfooahfebojldaaGreatDoorTie
import Derived.ProofKit
import Derived.OpenShut
import Derived.LaidMore
import Derived.Lay
import Derived.SevenTiedAt
import Derived.Stop.Joined
import Derived.ChangeMaps5
import Derived.SliceStrings
namespace Go.Proofs.YtfooahfebojldaaGreatDoor
open Go.ChangeShapes Go.WideShapes Go.ChangeAt Go.RowKit Go.ChangeMaps aD
set_option maxRecDepth 100000
theorem Zz:ownKnob Tryz.prog.godebug=none:=by kernel_rfl
theorem ZA:laidOutB Tryz.prog=true:=by kernel_rfl
theorem tL:Fit Tryz.prog:=P0 (by kernel_rfl) (by kernel_rfl) (by kernel_rfl)
theorem ZB:CU Tryz.prog=true:=by kernel_rfl
theorem ZC:sx Tryz.prog ⟨12,[],.bool true⟩:=C1 tL (T:=[]) trivial (n:=60) (by kernel_rfl)
theorem ZD:sx Tryz.prog ⟨139,[.str dE.nX],.aW [.agg (dE.jV dE.o5),.bool true]⟩:=C1 tL (T:=[]) trivial (n:=60) (by kernel_rfl)
theorem ZE:sx Tryz.prog ⟨139,[.str (dE.nX++[45,47,46])],.aW [.agg (dE.jV (λn=>dE.jy n)),.bool true]⟩:=C1 tL (T:=[]) trivial (n:=60) (by kernel_rfl)
theorem ZF:lE Tryz.prog Go.Proofs.cR.bT:=Ru (Ik tL (λe he=>by
 rcases List.mem_cons.1 he with rfl|he
 · exact ZC
 rcases List.mem_cons.1 he with rfl|he
 · exact ZD
 rcases List.mem_cons.1 he with rfl|he
 · exact ZE
 · cases he)) (RA tL (λt a6=>by cases a6) (λe he=>by
 rcases List.mem_cons.1 he with rfl|he
 · exact Go.Proofs.cR.RB tL
 · cases he))
theorem ZG:∀t∈(#[38,38]:Array TypeId).toList,Tryz.prog.readableRec t=true/\t<Tryz.prog.types.size:=λt a6=>by
 simp at a6
 subst a6
 exact⟨by kernel_rfl,of_decide_eq_true (by kernel_rfl)⟩
theorem ZH:Tryz.prog.wantsStandIn 38=false:=by kernel_rfl
theorem ZI:∀(j:Nat) t,(#[38,38]:Array TypeId)[j]? =some t->Tryz.prog.wantsStandIn t=false:=λj t a6=>by
 have hm:t∈[38,38]:=by
  have:=List.mem_of_getElem? (l:=[38,38]) (i:=j) (by simpa using a6)
  exact this
 obtain rfl:t=38:=by simpa using hm
 exact ZH
theorem ZJ{H:Type}{enc:TypeId×Value->H}{W:World}{base:Nat}{args:Array Value}{bm:List (DataW H)}{p:List MemPlace}(iT:DataW.TrodAll enc Tryz.prog W 0 (λ_=>true) true (#[38,38]:Array TypeId).toList args.toList bm p)
  (nI:∀(j:Nat) t v,(#[38,38]:Array TypeId)[j]? =some t->args[j]? =some v->Value.okWide Tryz.prog W .any base t v)(jn:W.ShapedOpen Tryz.prog):
  (∃d1 d2,bm=[d1,d2])/\Calls Tryz.prog 5 args W λe hP=>e=.returned (.bool true)/\Below W.heap.size W hP:=by
 obtain⟨v,v',d,bG,_,_,rfl,rfl,_,aa,ad⟩:=trodAll_two iT
 obtain⟨f1,aa⟩:=aa
 obtain⟨f2,ad⟩:=ad
 obtain⟨oR,ZK,qJ,ka,bb,aV,bh⟩:=Go.Proofs.eN.Mq (nI 0 _ v rfl rfl) aa
 obtain⟨En,da,qK,AE,a3,aN,bz⟩:=Go.Proofs.eN.Mq (nI 1 _ v' rfl rfl) ad
 obtain⟨s1,s2,bE⟩:=Qe (P:=Tryz.prog) (P5 jn ZB) (bb++a3) (λx ab=>by
  rcases List.mem_append.1 ab with ab|ab
  · exact aV x ab
  · exact aN x ab)
 obtain⟨aA,aC⟩:=Go.Proofs.eN.Ml (Go.Proofs.eN.Zm (rows:=bb++a3))
 obtain⟨w,u,cV,dP⟩:=bh _ _ _ aA
 obtain⟨w',Qi,h2,fR⟩:=bz _ _ _ aC
 obtain⟨al,e⟩:=Go.Proofs.eN.Y7 0 (p:=oR) (p':=En) (b:=ZK) (b':=da) (Nat.le_refl _) cV h2
 exact⟨⟨d,bG,rfl⟩,P4 (intr:=Go.Proofs.cR.bT) (n:=502) tL ZF Tryz.func5 rfl (congrArg zD e) s1 bE s2 ⟨_,_,rfl,dP,_,_,rfl,fR,rfl⟩⟩
theorem ZL(os:Os)(started:os.Started)(H:Type)(enc:TypeId×Value->H):
  ReturnsInHanded {} Tryz.checked os 5 .any (λw args=>(Rows.sumsLaysSpec.pre enc Tryz.prog Tryz.f5 Rows.sumsLaysRow.domain false w args/\laidMetH Tryz.prog Rows.sumsLaysRow.laid w)/\sizedMet enc Tryz.prog Tryz.f5 (OpenSpec.ofChange Rows.sumsLaysSpec) false w args)
   (Rows.sumsLaysSpec.post enc Tryz.prog Tryz.f5 false true false false):=by
 refine P9 (C:=Tryz.checked) (X:=λw _=>laidMetH Tryz.prog Rows.sumsLaysRow.laid w) (λ_ _ _ ak h=>h.of_heap ak) Zz started (by kernel_rfl) Tryz.func5
  (ChangeSpec.witness_shaped (enc:=enc) (C:=Tryz.checked) (os:=os) (X:=λw _=>laidMetH Tryz.prog Rows.sumsLaysRow.laid w) false (World.laidAll Tryz.prog os Rows.sumsLaysRow.laid) #[.agg ⟨[.string ⟨#[]⟩,.bool false,.slice none 0 0,.slice none 0 0]⟩,.agg ⟨[.string ⟨#[]⟩,.bool false,.slice none 0 0,.slice none 0 0]⟩] 8 (World.laidAll_os _ _ _)
   (World.shaped_of_ZipB (by kernel_rfl) (by kernel_rfl)) (by kernel_rfl) (by kernel_rfl) (by kernel_rfl)
   (by rw[MakeChecks.laidMetH_plain _ _ _ (by kernel_rfl)];exact laidMet_laidAll _ (by kernel_rfl) (by kernel_rfl))) ?_
 intro W base args bm gs before ZM iC _ nk jn
 have ZN:=iC
 obtain⟨p,q,ZO,CW,rfl,_,_⟩:=iC
 have iT:DataW.TrodAll enc Tryz.prog W 0 (λ_=>true) true Tryz.f5.params.toList args.toList bm p:=ZO
 rw[Tryz.params5] at iT
 have nI:=ZM
 rw[Tryz.params5] at nI
 obtain⟨ZP,ZQ⟩:=ZJ iT nI jn
 refine ZQ.mono λe hP ⟨he,hw⟩=>?_
 subst he
 exact⟨_,rfl,P6 ZA (λt a6=>by rw[Tryz.params5] at a6;exact ZG t a6) (by kernel_rfl) Tryz.underlying4 rfl ZN (by obtain⟨d1,d2,rfl⟩:=ZP;rfl) hw⟩
theorem law_said:Rows.SumsLaysSaid:=
 OpenClaim.holds_of_wide 5 Tryz.f5 rfl rfl rfl rfl rfl rfl rfl ⟨rfl,rfl,rfl,rfl,rfl⟩ rfl rfl rfl rfl rfl (by kernel_rfl) Tryz.func5 (by kernel_rfl)
  (of_decide_eq_true (by kernel_rfl)) (by unfold Func.isWrapper;first|(rw[if_pos (by decide+kernel)];kernel_rfl)|(rw[if_neg (by decide+kernel)];exact⟨rfl,rfl⟩))
  (λos started H enc _=>ZL os started H enc)
theorem law_holds:Rows.SumsLaysCardSaid:=
 Claim7.holds_tied_plain_at .later [] [.data,.pinned] true (true,"c0573774f6049cb0526f7cf2d328633f841b19acab48d8170e88c3ef1576b465") true law_said (λ_ h=>by cases h) (by kernel_rfl) (λ_ h=>by cases h) sumsLays_row_tie rfl ⟨rfl,rfl⟩ (by kernel_rfl) rfl
  (λf fn hf m4=>by
   obtain rfl:f=5:=Option.some.inj ((show Tryz.prog.funcNamed "lodger/lodgerlaw19.SumsLays" =some 5 by kernel_rfl).symm.trans hf)|>.symm
   obtain rfl:fn=Tryz.f5:=(Option.some.inj (Tryz.func5.symm.trans m4)).symm
   exact⟨by kernel_rfl,λj t a6=>by
    rw[Tryz.params5] at a6
    have:=ZI j t a6
    exact this⟩)
  (by kernel_rfl)
#print axioms law_holds
end Go.Proofs.YtfooahfebojldaaGreatDoor
