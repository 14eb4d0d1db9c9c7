/-
  PROVED HERE: lodger/lodgerlaw14.StoreLately answers true for every input. Conditions: none beside the row's own.
-/
import Derived.Test.YtjkomfonmcmgdaaDoorDz
import Derived.Test.YtjkomfonmcmgdaaDoorCards
import Derived.Test.YtjkomfonmcmgdaaDoorTie
import Derived.ProofKit
import Derived.OpenShut
import Derived.LaidMore
import Derived.Lay
import Derived.SevenTiedAt
import Derived.Stop.Joined
import Derived.ChangeMaps5
import Derived.SliceStrings
set_option maxRecDepth 100000
namespace Go.Proofs.YtjkomfonmcmgdaaDoor
open Go.ChangeShapes Go.WideShapes Go.ChangeAt Go.RowKit Go.ChangeMaps a8
theorem XB:ownKnob Tryd.prog.godebug=none:=by kernel_rfl
theorem XC:laidOutB Tryd.prog=true:=by kernel_rfl
theorem uR:Fit Tryd.prog:=Pn (by kernel_rfl) (by kernel_rfl) (by kernel_rfl)
theorem XD:Ce Tryd.prog=true:=by kernel_rfl
theorem XE:rF Tryd.prog ⟨5,[],.bool true⟩:=⟨Go.Proofs.hJ.tX,200,Go.Proofs.hJ.IP uR,by kernel_rfl⟩
theorem XF:rF Tryd.prog ⟨73,[.str gp.m4],.aJ [.agg (gp.i_ gp.n4),.bool true]⟩:=Hk uR (T:=[]) trivial (n:=60) (by kernel_rfl)
theorem XG:rF Tryd.prog ⟨73,[.str (gp.m4++[45,47,46])],.aJ [.agg (gp.i_ (λn=>gp.qv n)),.bool true]⟩:=Hk uR (T:=[]) trivial (n:=60) (by kernel_rfl)
theorem XH:l6 Tryd.prog Go.Proofs.hK.b5:=QF (Hj uR (λe he=>by
 rcases List.mem_cons.1 he with rfl|he
 · exact XE
 rcases List.mem_cons.1 he with rfl|he
 · exact XF
 rcases List.mem_cons.1 he with rfl|he
 · exact XG
 · cases he)) (Go.Proofs.hJ.IP uR)
theorem XI:∀t∈(#[5,5,22]:Array TypeId).toList,Tryd.prog.readableRec t=true/\t<Tryd.prog.types.size:=λt bm=>by
 have hm:t∈[5,5,22]:=bm
 rcases List.mem_cons.1 hm with rfl|hm
 · exact⟨by kernel_rfl,of_decide_eq_true (by kernel_rfl)⟩
 rcases List.mem_cons.1 hm with rfl|hm
 · exact⟨by kernel_rfl,of_decide_eq_true (by kernel_rfl)⟩
 rcases List.mem_cons.1 hm with rfl|hm
 · exact⟨by kernel_rfl,of_decide_eq_true (by kernel_rfl)⟩
 · cases hm
theorem L2:Tryd.prog.wantsStandIn 5=false:=by kernel_rfl
theorem XJ:Tryd.prog.wantsStandIn 22=false:=by kernel_rfl
theorem XK:∀(j:Nat) t,(#[5,5,22]:Array TypeId)[j]? =some t->Tryd.prog.wantsStandIn t=false:=λj t bm=>by
 have hm:t∈[5,5,22]:=by
  have:=List.mem_of_getElem? (l:=[5,5,22]) (i:=j) (by simpa using bm)
  exact this
 rcases List.mem_cons.1 hm with rfl|hm
 · exact L2
 rcases List.mem_cons.1 hm with rfl|hm
 · exact L2
 rcases List.mem_cons.1 hm with rfl|hm
 · exact XJ
 · cases hm
theorem XL{H:Type}{enc:TypeId×Value->H}{W:World}{base:Nat}{args:Array Value}{ds:List (DataW H)}{p:List MemPlace}(h8:DataW.TrodAll enc Tryd.prog W 0 (λ_=>true) true (#[5,5,22]:Array TypeId).toList args.toList ds p)
  (j7:∀(j:Nat) t v,(#[5,5,22]:Array TypeId)[j]? =some t->args[j]? =some v->Value.okWide Tryd.prog W .any base t v)(hl:W.ShapedOpen Tryd.prog):
  (∃d1 d2 d3,ds=[d1,d2,d3])/\Calls Tryd.prog 3 args W λe ho=>e=.returned (.bool true)/\Below W.heap.size W ho:=by
 obtain⟨v,v',L3,d,aW,XM,_,_,_,rfl,rfl,_,aa,ad,aq⟩:=trodAll_three h8
 obtain⟨f3,aq⟩:=aq
 obtain⟨a,aw,rfl⟩:=Go.Proofs.hJ.L1 (j7 0 _ v rfl rfl)
 obtain⟨b,ae,rfl⟩:=Go.Proofs.hJ.L1 (j7 1 _ v' rfl rfl)
 have dd:Cell.okWide Tryd.prog W .any base 22 L3:=by
  have bC:=j7 2 _ L3 rfl rfl
  simp only[Value.okWide] at bC
  exact bC
 obtain⟨b8,Y0,Y1,rfl⟩:=Go.Proofs.hJ.WD Go.Proofs.hJ.Ay dd
 obtain⟨hE,μ,g,u,s1,s2,cq,aR,dk⟩:=Go.Proofs.hJ.XA (Ps hl XD) dd aq
 obtain⟨ao,e⟩:=Go.Proofs.hJ.Xx 1000 (Nat.le_refl _) aw ae aR
 exact⟨⟨d,aW,XM,rfl⟩,Pr (intr:=Go.Proofs.hK.b5) (n:=1005) uR XH Tryd.func3 rfl (congrArg yN e) s1 cq s2 ⟨_,_,rfl,rfl,_,_,rfl,rfl,_,_,rfl,dk,rfl⟩⟩
theorem XN(os:Os)(started:os.Started)(H:Type)(enc:TypeId×Value->H):
  ReturnsInHanded {} Tryd.checked os 3 .any (λw args=>(Rows.storeLatelySpec.pre enc Tryd.prog Tryd.f3 Rows.storeLatelyRow.domain false w args/\laidMetH Tryd.prog Rows.storeLatelyRow.laid w)/\sizedMet enc Tryd.prog Tryd.f3 (OpenSpec.ofChange Rows.storeLatelySpec) false w args)
   (Rows.storeLatelySpec.post enc Tryd.prog Tryd.f3 false true false false):=by
 refine Pw (C:=Tryd.checked) (X:=λw _=>laidMetH Tryd.prog Rows.storeLatelyRow.laid w) (λ_ _ _ ah h=>h.of_heap ah) XB started (by kernel_rfl) Tryd.func3
  (ChangeSpec.witness_shaped (enc:=enc) (C:=Tryd.checked) (os:=os) (X:=λw _=>laidMetH Tryd.prog Rows.storeLatelyRow.laid w) false (World.laidAll Tryd.prog os Rows.storeLatelyRow.laid) #[.int .u8 0,.int .u8 0,.slice none 0 0] 8 (World.laidAll_os _ _ _)
   (World.shaped_of_ZipB (by kernel_rfl) (by kernel_rfl)) (by kernel_rfl) (by kernel_rfl) (by kernel_rfl)
   (by rw[MakeChecks.laidMetH_plain _ _ _ (by kernel_rfl)];exact laidMet_laidAll _ (by kernel_rfl) (by kernel_rfl))) ?_
 intro W base args ds gs before XO iH _ fS hl
 have XP:=iH
 obtain⟨p,q,XQ,fY,rfl,_,_⟩:=iH
 have h8:DataW.TrodAll enc Tryd.prog W 0 (λ_=>true) true Tryd.f3.params.toList args.toList ds p:=XQ
 rw[Tryd.params3] at h8
 have j7:=XO
 rw[Tryd.params3] at j7
 obtain⟨XR,XS⟩:=XL h8 j7 hl
 refine XS.mono λe ho ⟨he,hw⟩=>?_
 subst he
 exact⟨_,rfl,Pt XC (λt bm=>by rw[Tryd.params3] at bm;exact XI t bm) (by kernel_rfl) Tryd.underlying4 rfl XP (by obtain⟨d1,d2,d3,rfl⟩:=XR;rfl) hw⟩
theorem law_said:Rows.StoreLatelySaid:=
 OpenClaim.holds_of_wide 3 Tryd.f3 rfl rfl rfl rfl rfl rfl rfl ⟨rfl,rfl,rfl,rfl,rfl⟩ rfl rfl rfl rfl rfl (by kernel_rfl) Tryd.func3 (by kernel_rfl)
  (of_decide_eq_true (by kernel_rfl)) (by unfold Func.isWrapper;first|(rw[if_pos (by decide+kernel)];kernel_rfl)|(rw[if_neg (by decide+kernel)];exact⟨rfl,rfl⟩))
  (λos started H enc _=>XN os started H enc)
theorem law_holds:Rows.StoreLatelyCardSaid:=
 Claim7.holds_tied_plain_at .later [] [.data,.pinned] true (true,"b6b6592530cdcab72710ca3b920938f105b3c50e43c14f2e5d615de2374441aa") false law_said (λ_ h=>by cases h) (by kernel_rfl) (λ_ h=>by cases h) storeLately_row_tie rfl ⟨rfl,rfl⟩ (by kernel_rfl) rfl
  (λf fn hf l2=>by
   obtain rfl:f=3:=Option.some.inj ((show Tryd.prog.funcNamed "lodger/lodgerlaw14.StoreLately" =some 3 by kernel_rfl).symm.trans hf)|>.symm
   obtain rfl:fn=Tryd.f3:=(Option.some.inj (Tryd.func3.symm.trans l2)).symm
   exact⟨by kernel_rfl,λj t bm=>by
    rw[Tryd.params3] at bm
    have:=XK j t bm
    exact this⟩)
  (by kernel_rfl)
#print axioms law_holds
end Go.Proofs.YtjkomfonmcmgdaaDoor
