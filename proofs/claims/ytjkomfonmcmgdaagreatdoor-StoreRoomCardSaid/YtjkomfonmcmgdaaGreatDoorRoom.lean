/-
  PROVED HERE: lodger/lodgerlaw14.StoreRoom answers true for every input. Conditions: none beside the row's own.
-/
import Derived.Test.YtjkomfonmcmgdaaGreatDoorDz
import Derived.Test.YtjkomfonmcmgdaaGreatDoorCards
import Derived.Test.YtjkomfonmcmgdaaGreatDoorTie
import Derived.ProofKit
import Derived.OpenShut
import Derived.LaidMore
import Derived.Lay
import Derived.SevenTiedAt
import Derived.Stop.Joined
import Derived.ChangeMaps5
import Derived.SliceStrings
namespace Go.Proofs.YtjkomfonmcmgdaaGreatDoor
open Go.ChangeShapes Go.WideShapes Go.ChangeAt Go.RowKit Go.ChangeMaps aP
set_option maxRecDepth 100000
theorem acJ:ownKnob Tryz.prog.godebug=none:=by kernel_rfl
theorem acK:laidOutB Tryz.prog=true:=by kernel_rfl
theorem w5:Fit Tryz.prog:=yd (by kernel_rfl) (by kernel_rfl) (by kernel_rfl)
theorem acL:Ea Tryz.prog=true:=by kernel_rfl
theorem acM:tA Tryz.prog ⟨15,[],.bool true⟩:=⟨Go.Proofs.dj.vV,200,Go.Proofs.dj.Li w5,by kernel_rfl⟩
theorem acN:tA Tryz.prog ⟨106,[.str c8.oI],.aQ [.agg (c8.ki c8.pS),.bool true]⟩:=JT w5 (T:=[]) trivial (n:=60) (by kernel_rfl)
theorem acO:tA Tryz.prog ⟨106,[.str (c8.oI++[45,47,46])],.aQ [.agg (c8.ki (λn=>c8.j3 n)),.bool true]⟩:=JT w5 (T:=[]) trivial (n:=60) (by kernel_rfl)
theorem acP:nG Tryz.prog Go.Proofs.cG.b0:=TG (JS w5 (λe he=>by
 rcases List.mem_cons.1 he with rfl|he
 · exact acM
 rcases List.mem_cons.1 he with rfl|he
 · exact acN
 rcases List.mem_cons.1 he with rfl|he
 · exact acO
 · cases he)) (Go.Proofs.dj.Li w5)
theorem acQ:∀t∈(#[43,3]:Array TypeId).toList,Tryz.prog.readableRec t=true/\t<Tryz.prog.types.size:=λt ba=>by
 simp at ba
 rcases ba with rfl|rfl
 · exact⟨by kernel_rfl,of_decide_eq_true (by kernel_rfl)⟩
 · exact⟨by kernel_rfl,of_decide_eq_true (by kernel_rfl)⟩
theorem acR:Tryz.prog.wantsStandIn 43=false:=by kernel_rfl
theorem acS:Tryz.prog.wantsStandIn 3=false:=by kernel_rfl
theorem acT:∀(j:Nat) t,(#[43,3]:Array TypeId)[j]? =some t->Tryz.prog.wantsStandIn t=false:=λj t ba=>by
 have hm:t∈[43,3]:=by
  have:=List.mem_of_getElem? (l:=[43,3]) (i:=j) (by simpa using ba)
  exact this
 rcases List.mem_cons.1 hm with rfl|hm
 · exact acR
 rcases List.mem_cons.1 hm with rfl|hm
 · exact acS
 · cases hm
theorem acU:Tryz.prog.underlying 3=some (.int .i64):=by kernel_rfl
theorem acV{H:Type}{enc:TypeId×Value->H}{W:World}{base:Nat}{args:Array Value}{ds:List (DataW H)}{p:List MemPlace}(jZ:DataW.TrodAll enc Tryz.prog W 0 (λ_=>true) true (#[43,3]:Array TypeId).toList args.toList ds p)
  (l0:∀(j:Nat) t v,(#[43,3]:Array TypeId)[j]? =some t->args[j]? =some v->Value.okWide Tryz.prog W .any base t v)(il:W.ShapedOpen Tryz.prog):
  (∃d1 d2,ds=[d1,d2])/\Calls Tryz.prog 4 args W λe ir=>e=.returned (.bool true)/\Below W.heap.size W ir:=by
 obtain⟨v,v',d,bd,_,_,rfl,rfl,_,ab,ad⟩:=trodAll_two jZ
 obtain⟨f1,ab⟩:=ab
 obtain⟨z,rfl⟩:=okWide_int acU (l0 1 _ v' rfl rfl)
 have aG:Cell.okWide Tryz.prog W .any base 43 v:=by
  have bJ:=l0 0 _ v rfl rfl
  simp only[Value.okWide] at bJ
  exact bJ
 obtain⟨aeb,len,cap,rfl⟩:=Go.Proofs.dj.ab5 Go.Proofs.dj.Ho aG
 obtain⟨l,μ,g,u,s1,s2,bK,aZ,ep⟩:=Go.Proofs.dj.acf (St il acL) aG ab
 obtain⟨an,e⟩:=Go.Proofs.dj.acE 200000 (Nat.le_refl _) (z:=z) aZ
 exact⟨⟨d,bd,rfl⟩,Ss (intr:=Go.Proofs.cG.b0) (n:=200009) w5 acP Tryz.func4 rfl (congrArg AZ e) s1 bK s2 ⟨_,_,rfl,ep,_,_,rfl,rfl,rfl⟩⟩
theorem acW(os:Os)(started:os.Started)(H:Type)(enc:TypeId×Value->H):
  ReturnsInHanded {} Tryz.checked os 4 .any (λw args=>(Rows.storeRoomSpec.pre enc Tryz.prog Tryz.f4 Rows.storeRoomRow.domain false w args/\laidMetH Tryz.prog Rows.storeRoomRow.laid w)/\sizedMet enc Tryz.prog Tryz.f4 (OpenSpec.ofChange Rows.storeRoomSpec) false w args)
   (Rows.storeRoomSpec.post enc Tryz.prog Tryz.f4 false true false false):=by
 refine Sx (C:=Tryz.checked) (X:=λw _=>laidMetH Tryz.prog Rows.storeRoomRow.laid w) (λ_ _ _ ak h=>h.of_heap ak) acJ started (by kernel_rfl) Tryz.func4
  (ChangeSpec.witness_shaped (enc:=enc) (C:=Tryz.checked) (os:=os) (X:=λw _=>laidMetH Tryz.prog Rows.storeRoomRow.laid w) false (World.laidAll Tryz.prog os Rows.storeRoomRow.laid) #[.slice none 0 0,.int .i64 0] 8 (World.laidAll_os _ _ _)
   (World.shaped_of_ZipB (by kernel_rfl) (by kernel_rfl)) (by kernel_rfl) (by kernel_rfl) (by kernel_rfl)
   (by rw[MakeChecks.laidMetH_plain _ _ _ (by kernel_rfl)];exact laidMet_laidAll _ (by kernel_rfl) (by kernel_rfl))) ?_
 intro W base args ds gs before acX js _ ha il
 have acY:=js
 obtain⟨p,q,acZ,Ec,rfl,_,_⟩:=js
 have jZ:DataW.TrodAll enc Tryz.prog W 0 (λ_=>true) true Tryz.f4.params.toList args.toList ds p:=acZ
 rw[Tryz.params4] at jZ
 have l0:=acX
 rw[Tryz.params4] at l0
 obtain⟨ac0,ac1⟩:=acV jZ l0 il
 refine ac1.mono λe ir ⟨he,hw⟩=>?_
 subst he
 exact⟨_,rfl,Su acK (λt ba=>by rw[Tryz.params4] at ba;exact acQ t ba) (by kernel_rfl) Tryz.underlying4 rfl acY (by obtain⟨d1,d2,rfl⟩:=ac0;rfl) hw⟩
theorem law_said:Rows.StoreRoomSaid:=
 OpenClaim.holds_of_wide 4 Tryz.f4 rfl rfl rfl rfl rfl rfl rfl ⟨rfl,rfl,rfl,rfl,rfl⟩ rfl rfl rfl rfl rfl (by kernel_rfl) Tryz.func4 (by kernel_rfl)
  (of_decide_eq_true (by kernel_rfl)) (by unfold Func.isWrapper;first|(rw[if_pos (by decide+kernel)];kernel_rfl)|(rw[if_neg (by decide+kernel)];exact⟨rfl,rfl⟩))
  (λos started H enc _=>acW os started H enc)
theorem law_holds:Rows.StoreRoomCardSaid:=
 Claim7.holds_tied_plain_at .later [] [.data,.pinned] true (true,"7b785f11f1ad7ad39492cb8fd689bf19dea406622b85d9cf7741175f89cf8e70") false law_said (λ_ h=>by cases h) (by kernel_rfl) (λ_ h=>by cases h) storeRoom_row_tie rfl ⟨rfl,rfl⟩ (by kernel_rfl) rfl
  (λf fn hf nB=>by
   obtain rfl:f=4:=Option.some.inj ((show Tryz.prog.funcNamed "lodger/lodgerlaw14.StoreRoom" =some 4 by kernel_rfl).symm.trans hf)|>.symm
   obtain rfl:fn=Tryz.f4:=(Option.some.inj (Tryz.func4.symm.trans nB)).symm
   exact⟨by kernel_rfl,λj t ba=>by
    rw[Tryz.params4] at ba
    have:=acT j t ba
    exact this⟩)
  (by kernel_rfl)
#print axioms law_holds
end Go.Proofs.YtjkomfonmcmgdaaGreatDoor
