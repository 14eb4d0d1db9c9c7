/-
  PROVED HERE: lodger/lodgerlaw14.StorePlays answers true for every input. Conditions: none beside the row's own.
-/
import Derived.Test.YtjkomfonmcmgdaaGreatDoorDz
import Derived.Test.YtjkomfonmcmgdaaGreatDoorCards
import Derived.Test.YtjkomfonmcmgdaaGreatDoorTie
import Derived.ProofKit
import Derived.OpenShut
import Derived.LaidMore
import Derived.Lay
import Derived.SevenTiedAt
import Derived.Stop.Joined
import Derived.ChangeMaps5
import Derived.SliceStrings
set_option maxRecDepth 100000
namespace Go.Proofs.YtjkomfonmcmgdaaGreatDoor
open Go.ChangeShapes Go.WideShapes Go.ChangeAt Go.RowKit Go.ChangeMaps bg
theorem aiZ:ownKnob Tryz.prog.godebug=none:=by kernel_rfl
theorem ai0:laidOutB Tryz.prog=true:=by kernel_rfl
theorem zV:Fit Tryz.prog:=A2 (by kernel_rfl) (by kernel_rfl) (by kernel_rfl)
theorem ai1:HA Tryz.prog=true:=by kernel_rfl
theorem ai2:wi Tryz.prog ⟨15,[],.bool true⟩:=⟨Go.Proofs.kU.yO,200,Go.Proofs.kU.Pv zV,by kernel_rfl⟩
theorem ai3:wi Tryz.prog ⟨106,[.str ir.qP],.aR [.agg (ir.l4 ir.r3),.bool true]⟩:=N3 zV (T:=[]) trivial (n:=60) (by kernel_rfl)
theorem ai4:wi Tryz.prog ⟨106,[.str (ir.qP++[45,47,46])],.aR [.agg (ir.l4 (λn=>ir.lF n)),.bool true]⟩:=N3 zV (T:=[]) trivial (n:=60) (by kernel_rfl)
theorem ai5:pN Tryz.prog Go.Proofs.kh.ea:=X_ (N2 zV (λe he=>by
 rcases List.mem_cons.1 he with rfl|he
 · exact ai2
 rcases List.mem_cons.1 he with rfl|he
 · exact ai3
 rcases List.mem_cons.1 he with rfl|he
 · exact ai4
 · cases he)) (Go.Proofs.kU.Pv zV)
theorem ai6:∀t∈(#[22,3]:Array TypeId).toList,Tryz.prog.readableRec t=true/\t<Tryz.prog.types.size:=λt bm=>by
 simp at bm
 rcases bm with rfl|rfl
 · exact⟨by kernel_rfl,of_decide_eq_true (by kernel_rfl)⟩
 · exact⟨by kernel_rfl,of_decide_eq_true (by kernel_rfl)⟩
theorem ai7:Tryz.prog.wantsStandIn 22=false:=by kernel_rfl
theorem ai8:Tryz.prog.wantsStandIn 3=false:=by kernel_rfl
theorem ai9:∀(j:Nat) t,(#[22,3]:Array TypeId)[j]? =some t->Tryz.prog.wantsStandIn t=false:=λj t bm=>by
 have hm:t∈[22,3]:=by
  have:=List.mem_of_getElem? (l:=[22,3]) (i:=j) (by simpa using bm)
  exact this
 rcases List.mem_cons.1 hm with rfl|hm
 · exact ai7
 rcases List.mem_cons.1 hm with rfl|hm
 · exact ai8
 · cases hm
theorem ai_:Tryz.prog.underlying 3=some (.int .i64):=by kernel_rfl
theorem aja{H:Type}{enc:TypeId×Value->H}{W:World}{base:Nat}{args:Array Value}{ds:List (DataW H)}{p:List MemPlace}(lz:DataW.TrodAll enc Tryz.prog W 0 (λ_=>true) true (#[22,3]:Array TypeId).toList args.toList ds p)
  (nZ:∀(j:Nat) t v,(#[22,3]:Array TypeId)[j]? =some t->args[j]? =some v->Value.okWide Tryz.prog W .any base t v)(jK:W.ShapedOpen Tryz.prog):
  (∃d1 d2,ds=[d1,d2])/\Calls Tryz.prog 3 args W λe jO=>e=.returned (.bool true)/\Below W.heap.size W jO:=by
 obtain⟨v,v',d,d',_,_,rfl,rfl,_,I,ae⟩:=trodAll_two lz
 obtain⟨f1,I⟩:=I
 obtain⟨z,rfl⟩:=okWide_int ai_ (nZ 1 _ v' rfl rfl)
 have aN:Cell.okWide Tryz.prog W .any base 22 v:=by
  have bS:=nZ 0 _ v rfl rfl
  simp only[Value.okWide] at bS
  exact bS
 obtain⟨akr,len,cap,rfl⟩:=Go.Proofs.kU.agL Go.Proofs.kU.LL aN
 obtain⟨l,μ,g,u,s1,s2,b1,a3,dS⟩:=Go.Proofs.kU.aiY (WU jK ai1) aN I
 obtain⟨aw,e⟩:=Go.Proofs.kU.aiM 200000 (Nat.le_refl _) (z:=z) a3
 exact⟨⟨d,d',rfl⟩,WT (intr:=Go.Proofs.kh.ea) (n:=200009) zV ai5 Tryz.func3 rfl (congrArg D6 e) s1 b1 s2 ⟨_,_,rfl,dS,_,_,rfl,rfl,rfl⟩⟩
theorem ajb(os:Os)(started:os.Started)(H:Type)(enc:TypeId×Value->H):
  ReturnsInHanded {} Tryz.checked os 3 .any (λw args=>(Rows.storePlaysSpec.pre enc Tryz.prog Tryz.f3 Rows.storePlaysRow.domain false w args/\laidMetH Tryz.prog Rows.storePlaysRow.laid w)/\sizedMet enc Tryz.prog Tryz.f3 (OpenSpec.ofChange Rows.storePlaysSpec) false w args)
   (Rows.storePlaysSpec.post enc Tryz.prog Tryz.f3 false true false false):=by
 refine WY (C:=Tryz.checked) (X:=λw _=>laidMetH Tryz.prog Rows.storePlaysRow.laid w) (λ_ _ _ au h=>h.of_heap au) aiZ started (by kernel_rfl) Tryz.func3
  (ChangeSpec.witness_shaped (enc:=enc) (C:=Tryz.checked) (os:=os) (X:=λw _=>laidMetH Tryz.prog Rows.storePlaysRow.laid w) false (World.laidAll Tryz.prog os Rows.storePlaysRow.laid) #[.slice none 0 0,.int .i64 0] 8 (World.laidAll_os _ _ _)
   (World.shaped_of_ZipB (by kernel_rfl) (by kernel_rfl)) (by kernel_rfl) (by kernel_rfl) (by kernel_rfl)
   (by rw[MakeChecks.laidMetH_plain _ _ _ (by kernel_rfl)];exact laidMet_laidAll _ (by kernel_rfl) (by kernel_rfl))) ?_
 intro W base args ds gs before ajc kP _ hY jK
 have ajd:=kP
 obtain⟨p,q,aje,HC,rfl,_,_⟩:=kP
 have lz:DataW.TrodAll enc Tryz.prog W 0 (λ_=>true) true Tryz.f3.params.toList args.toList ds p:=aje
 rw[Tryz.params3] at lz
 have nZ:=ajc
 rw[Tryz.params3] at nZ
 obtain⟨ajf,ajg⟩:=aja lz nZ jK
 refine ajg.mono λe jO ⟨he,hw⟩=>?_
 subst he
 exact⟨_,rfl,WV ai0 (λt bm=>by rw[Tryz.params3] at bm;exact ai6 t bm) (by kernel_rfl) Tryz.underlying4 rfl ajd (by obtain⟨d1,d2,rfl⟩:=ajf;rfl) hw⟩
theorem law_said:Rows.StorePlaysSaid:=
 OpenClaim.holds_of_wide 3 Tryz.f3 rfl rfl rfl rfl rfl rfl rfl ⟨rfl,rfl,rfl,rfl,rfl⟩ rfl rfl rfl rfl rfl (by kernel_rfl) Tryz.func3 (by kernel_rfl)
  (of_decide_eq_true (by kernel_rfl)) (by unfold Func.isWrapper;first|(rw[if_pos (by decide+kernel)];kernel_rfl)|(rw[if_neg (by decide+kernel)];exact⟨rfl,rfl⟩))
  (λos started H enc _=>ajb os started H enc)
theorem law_holds:Rows.StorePlaysCardSaid:=
 Claim7.holds_tied_plain_at .later [] [.data,.pinned] true (true,"7b785f11f1ad7ad39492cb8fd689bf19dea406622b85d9cf7741175f89cf8e70") false law_said (λ_ h=>by cases h) (by kernel_rfl) (λ_ h=>by cases h) storePlays_row_tie rfl ⟨rfl,rfl⟩ (by kernel_rfl) rfl
  (λf fn hf pK=>by
   obtain rfl:f=3:=Option.some.inj ((show Tryz.prog.funcNamed "lodger/lodgerlaw14.StorePlays" =some 3 by kernel_rfl).symm.trans hf)|>.symm
   obtain rfl:fn=Tryz.f3:=(Option.some.inj (Tryz.func3.symm.trans pK)).symm
   exact⟨by kernel_rfl,λj t bm=>by
    rw[Tryz.params3] at bm
    have:=ai9 j t bm
    exact this⟩)
  (by kernel_rfl)
#print axioms law_holds
end Go.Proofs.YtjkomfonmcmgdaaGreatDoor
