/-
  PROVED HERE: lodger/lodgerlaw14.StoreNever answers true for every input. Conditions: none beside the row's own.
-/
import Derived.Test.YtjkomfonmcmgdaaGreatDoorDz
import Derived.Test.YtjkomfonmcmgdaaGreatDoorCards
import Derived.Test.YtjkomfonmcmgdaaGreatDoorTie
import Derived.ProofKit
import Derived.OpenShut
import Derived.LaidMore
import Derived.Lay
import Derived.SevenTiedAt
import Derived.Stop.Joined
import Derived.ChangeMaps5
import Derived.SliceStrings
namespace Go.Proofs.YtjkomfonmcmgdaaGreatDoor
open Go.ChangeShapes Go.WideShapes Go.ChangeAt Go.RowKit Go.ChangeMaps aM
set_option maxRecDepth 100000
theorem abO:ownKnob Tryz.prog.godebug=none:=by kernel_rfl
theorem abP:laidOutB Tryz.prog=true:=by kernel_rfl
theorem wF:Fit Tryz.prog:=xO (by kernel_rfl) (by kernel_rfl) (by kernel_rfl)
theorem abQ:DL Tryz.prog=true:=by kernel_rfl
theorem abR:s5 Tryz.prog ⟨15,[],.bool true⟩:=⟨Go.Proofs.dj.vr,200,Go.Proofs.dj.KI wF,by kernel_rfl⟩
theorem abS:s5 Tryz.prog ⟨106,[.str c_.oi],.aP [.agg (c_.j7 c_.pt),.bool true]⟩:=Ji wF (T:=[]) trivial (n:=60) (by kernel_rfl)
theorem abT:s5 Tryz.prog ⟨106,[.str (c_.oi++[45,47,46])],.aP [.agg (c_.j7 (λn=>c_.jQ n)),.bool true]⟩:=Ji wF (T:=[]) trivial (n:=60) (by kernel_rfl)
theorem abU:nk Tryz.prog Go.Proofs.cF.b1:=SZ (Jh wF (λe he=>by
 rcases List.mem_cons.1 he with rfl|he
 · exact abR
 rcases List.mem_cons.1 he with rfl|he
 · exact abS
 rcases List.mem_cons.1 he with rfl|he
 · exact abT
 · cases he)) (Go.Proofs.dj.KI wF)
theorem abV:∀t∈(#[43]:Array TypeId).toList,Tryz.prog.readableRec t=true/\t<Tryz.prog.types.size:=λt a_=>by
 simp at a_;subst a_;exact⟨by kernel_rfl,of_decide_eq_true (by kernel_rfl)⟩
theorem abW:Tryz.prog.wantsStandIn 43=false:=by kernel_rfl
theorem abX:∀(j:Nat) t,(#[43]:Array TypeId)[j]? =some t->Tryz.prog.wantsStandIn t=false:=λj t a_=>by
 have hm:t∈[43]:=by
  have:=List.mem_of_getElem? (l:=[43]) (i:=j) (by simpa using a_)
  exact this
 obtain rfl:t=43:=by simpa using hm
 exact abW
theorem abY{H:Type}{enc:TypeId×Value->H}{W:World}{base:Nat}{args:Array Value}{ds:List (DataW H)}{p:List MemPlace}(jL:DataW.TrodAll enc Tryz.prog W 0 (λ_=>true) true (#[43]:Array TypeId).toList args.toList ds p)
  (mn:∀(j:Nat) t v,(#[43]:Array TypeId)[j]? =some t->args[j]? =some v->Value.okWide Tryz.prog W .any base t v)(ib:W.ShapedOpen Tryz.prog):
  (∃d,ds=[d])/\Calls Tryz.prog 5 args W λe ig=>e=.returned (.bool true)/\Below W.heap.size W ig:=by
 obtain⟨v,d,rfl,rfl,ab⟩:=trodAll_one jL
 obtain⟨f1,ab⟩:=ab
 have aJ:Cell.okWide Tryz.prog W .any base 43 v:=by
  have bO:=mn 0 _ v rfl rfl
  simp only[Value.okWide] at bO
  exact bO
 obtain⟨adh,len,cap,rfl⟩:=Go.Proofs.dj.abD Go.Proofs.dj.GX aJ
 obtain⟨l,μ,g,u,s1,s2,bI,a3,ei⟩:=Go.Proofs.dj.abN (RL ib abQ) aJ ab
 obtain⟨an,e⟩:=Go.Proofs.dj.abw 200000 (Nat.le_refl _) a3
 exact⟨⟨d,rfl⟩,RK (intr:=Go.Proofs.cF.b1) (n:=200009) wF abU Tryz.func5 rfl (congrArg Aw e) s1 bI s2 ⟨_,_,rfl,ei,rfl⟩⟩
theorem abZ(os:Os)(started:os.Started)(H:Type)(enc:TypeId×Value->H):
  ReturnsInHanded {} Tryz.checked os 5 .any (λw args=>(Rows.storeNeverSpec.pre enc Tryz.prog Tryz.f5 Rows.storeNeverRow.domain false w args/\laidMetH Tryz.prog Rows.storeNeverRow.laid w)/\sizedMet enc Tryz.prog Tryz.f5 (OpenSpec.ofChange Rows.storeNeverSpec) false w args)
   (Rows.storeNeverSpec.post enc Tryz.prog Tryz.f5 false true false false):=by
 refine RP (C:=Tryz.checked) (X:=λw _=>laidMetH Tryz.prog Rows.storeNeverRow.laid w) (λ_ _ _ ai h=>h.of_heap ai) abO started (by kernel_rfl) Tryz.func5
  (ChangeSpec.witness_shaped (enc:=enc) (C:=Tryz.checked) (os:=os) (X:=λw _=>laidMetH Tryz.prog Rows.storeNeverRow.laid w) false (World.laidAll Tryz.prog os Rows.storeNeverRow.laid) #[.slice none 0 0] 8 (World.laidAll_os _ _ _)
   (World.shaped_of_ZipB (by kernel_rfl) (by kernel_rfl)) (by kernel_rfl) (by kernel_rfl) (by kernel_rfl)
   (by rw[MakeChecks.laidMetH_plain _ _ _ (by kernel_rfl)];exact laidMet_laidAll _ (by kernel_rfl) (by kernel_rfl))) ?_
 intro W base args ds gs before ab0 je _ g4 ib
 have ab1:=je
 obtain⟨p,q,ab2,DN,rfl,_,_⟩:=je
 have jL:DataW.TrodAll enc Tryz.prog W 0 (λ_=>true) true Tryz.f5.params.toList args.toList ds p:=ab2
 rw[Tryz.params5] at jL
 have mn:=ab0
 rw[Tryz.params5] at mn
 obtain⟨ab3,ab4⟩:=abY jL mn ib
 refine ab4.mono λe ig ⟨he,hw⟩=>?_
 subst he
 exact⟨_,rfl,RM abP (λt a_=>by rw[Tryz.params5] at a_;exact abV t a_) (by kernel_rfl) Tryz.underlying4 rfl ab1 (by obtain⟨d,rfl⟩:=ab3;rfl) hw⟩
theorem law_said:Rows.StoreNeverSaid:=
 OpenClaim.holds_of_wide 5 Tryz.f5 rfl rfl rfl rfl rfl rfl rfl ⟨rfl,rfl,rfl,rfl,rfl⟩ rfl rfl rfl rfl rfl (by kernel_rfl) Tryz.func5 (by kernel_rfl)
  (of_decide_eq_true (by kernel_rfl)) (by unfold Func.isWrapper;first|(rw[if_pos (by decide+kernel)];kernel_rfl)|(rw[if_neg (by decide+kernel)];exact⟨rfl,rfl⟩))
  (λos started H enc _=>abZ os started H enc)
theorem law_holds:Rows.StoreNeverCardSaid:=
 Claim7.holds_tied_plain_at .later [] [.data,.pinned] true (true,"7b785f11f1ad7ad39492cb8fd689bf19dea406622b85d9cf7741175f89cf8e70") false law_said (λ_ h=>by cases h) (by kernel_rfl) (λ_ h=>by cases h) storeNever_row_tie rfl ⟨rfl,rfl⟩ (by kernel_rfl) rfl
  (λf fn hf ng=>by
   obtain rfl:f=5:=Option.some.inj ((show Tryz.prog.funcNamed "lodger/lodgerlaw14.StoreNever" =some 5 by kernel_rfl).symm.trans hf)|>.symm
   obtain rfl:fn=Tryz.f5:=(Option.some.inj (Tryz.func5.symm.trans ng)).symm
   exact⟨by kernel_rfl,λj t a_=>by
    rw[Tryz.params5] at a_
    have:=abX j t a_
    exact this⟩)
  (by kernel_rfl)
#print axioms law_holds
end Go.Proofs.YtjkomfonmcmgdaaGreatDoor
