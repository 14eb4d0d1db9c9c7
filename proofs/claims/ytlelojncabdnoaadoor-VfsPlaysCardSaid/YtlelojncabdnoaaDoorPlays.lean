/-
  PROVED HERE: lodger/lodgerlaw07.VfsPlays answers true for every input. Conditions: none beside the row's own.
-/
import Derived.Test.YtlelojncabdnoaaDoorDz
import Derived.Test.YtlelojncabdnoaaDoorCards
import Derived.Test.YtlelojncabdnoaaDoorTie
import Derived.ProofKit
import Derived.OpenShut
import Derived.LaidMore
import Derived.Lay
import Derived.SevenTiedAt
import Derived.Stop.Joined
import Derived.ChangeMaps5
import Derived.SliceStrings
set_option maxRecDepth 100000
namespace Go.Proofs.YtlelojncabdnoaaDoor
open Go.ChangeShapes Go.WideShapes Go.ChangeAt Go.RowKit Go.ChangeMaps aS
theorem WX:ownKnob Tryd.prog.godebug=none:=by kernel_rfl
theorem WY:laidOutB Tryd.prog=true:=by kernel_rfl
theorem Aj:Fit Tryd.prog:=NV (by kernel_rfl) (by kernel_rfl) (by kernel_rfl)
theorem WZ:BN Tryd.prog=true:=by kernel_rfl
theorem W0:v8 Tryd.prog ⟨16,[],.bool true⟩:=N6 Aj (T:=[]) trivial (n:=60) (by kernel_rfl)
theorem W1:hy Tryd.prog Go.Proofs.hD.fl:=Pj (Gs Aj (λe he=>by
 rcases List.mem_cons.1 he with rfl|he
 · exact W0
 · cases he)) (Go.Proofs.hD.QT Aj)
theorem W2:∀t∈(#[24,25]:Array TypeId).toList,Tryd.prog.readableRec t=true/\t<Tryd.prog.types.size:=λt bk=>by
 simp at bk
 rcases bk with rfl|rfl
 · exact⟨by kernel_rfl,of_decide_eq_true (by kernel_rfl)⟩
 · exact⟨by kernel_rfl,of_decide_eq_true (by kernel_rfl)⟩
theorem W3:Tryd.prog.wantsStandIn 24=false:=by kernel_rfl
theorem W4:Tryd.prog.wantsStandIn 25=false:=by kernel_rfl
theorem W5:∀(j:Nat) t,(#[24,25]:Array TypeId)[j]? =some t->Tryd.prog.wantsStandIn t=false:=λj t bk=>by
 have hm:t∈[24,25]:=by
  have:=List.mem_of_getElem? (l:=[24,25]) (i:=j) (by simpa using bk)
  exact this
 rcases List.mem_cons.1 hm with rfl|hm
 · exact W3
 rcases List.mem_cons.1 hm with rfl|hm
 · exact W4
 · cases hm
theorem W6{H:Type}{enc:TypeId×Value->H}{W:World}{base:Nat}{args:Array Value}{ds:List (DataW H)}{p:List MemPlace}(ff:DataW.TrodAll enc Tryd.prog W 0 (λ_=>true) true (#[24,25]:Array TypeId).toList args.toList ds p)
  (lS:∀(j:Nat) t v,(#[24,25]:Array TypeId)[j]? =some t->args[j]? =some v->Value.okWide Tryd.prog W .any base t v)(fr:W.ShapedOpen Tryd.prog):
  (∃d1 d2,ds=[d1,d2])/\Calls Tryd.prog 4 args W λe gr=>e=.returned (.bool true)/\Below W.heap.size W gr:=by
 obtain⟨v,v',d,d',_,_,rfl,rfl,_,h1,aa⟩:=trodAll_two ff
 obtain⟨f2,aa⟩:=aa
 obtain⟨Q,aT⟩:=Go.Proofs.hD.T2 (lS 0 _ v rfl rfl)
 have bl:=lS 1 _ v' rfl rfl
 have cg:∃a0 len cap,v'=.slice a0 len cap:=okWide_slice Go.Proofs.hD.z6 bl
 obtain⟨a0,len,cap,rfl⟩:=cg
 obtain⟨l,μ,g,u,s1,s2,bz,m1,bS,fX⟩:=Go.Proofs.hD.WW (NY fr WZ) bl aa
 obtain⟨ah,e⟩:=Go.Proofs.hD.WQ 60 (Nat.le_refl _) Q m1 fX
 exact⟨⟨d,d',rfl⟩,NX (intr:=Go.Proofs.hD.fl) (n:=67) Aj W1 Tryd.func4 rfl (congrArg yI e) s1 bz s2 ⟨_,_,rfl,aT μ,_,_,rfl,bS,rfl⟩⟩
theorem W7(os:Os)(started:os.Started)(H:Type)(enc:TypeId×Value->H):
  ReturnsInHanded {} Tryd.checked os 4 .any (λw args=>(Rows.vfsPlaysSpec.pre enc Tryd.prog Tryd.f4 Rows.vfsPlaysRow.domain false w args/\laidMetH Tryd.prog Rows.vfsPlaysRow.laid w)/\sizedMet enc Tryd.prog Tryd.f4 (OpenSpec.ofChange Rows.vfsPlaysSpec) false w args)
   (Rows.vfsPlaysSpec.post enc Tryd.prog Tryd.f4 false true false false):=by
 refine N2 (C:=Tryd.checked) (X:=λw _=>laidMetH Tryd.prog Rows.vfsPlaysRow.laid w) (λ_ _ _ af h=>h.of_heap af) WX started (by kernel_rfl) Tryd.func4
  (ChangeSpec.witness_shaped (enc:=enc) (C:=Tryd.checked) (os:=os) (X:=λw _=>laidMetH Tryd.prog Rows.vfsPlaysRow.laid w) false (World.laidAll Tryd.prog os Rows.vfsPlaysRow.laid) #[.agg #[.int .i64 0,.int .i64 0,.int .i64 0,.int .u64 0,.int .u64 0],.slice none 0 0] 8 (World.laidAll_os _ _ _)
   (World.shaped_of_ZipB (by kernel_rfl) (by kernel_rfl)) (by kernel_rfl) (by kernel_rfl) (by kernel_rfl)
   (by rw[MakeChecks.laidMetH_plain _ _ _ (by kernel_rfl)];exact laidMet_laidAll _ (by kernel_rfl) (by kernel_rfl))) ?_
 intro W base args ds gs before W8 jv _ hY fr
 have W9:=jv
 obtain⟨p,q,W_,qo,rfl,_,_⟩:=jv
 have ff:DataW.TrodAll enc Tryd.prog W 0 (λ_=>true) true Tryd.f4.params.toList args.toList ds p:=W_
 rw[Tryd.params4] at ff
 have lS:=W8
 rw[Tryd.params4] at lS
 obtain⟨Xa,Xb⟩:=W6 ff lS fr
 refine Xb.mono λe gr ⟨he,hw⟩=>?_
 subst he
 exact⟨_,rfl,NZ WY (λt bk=>by rw[Tryd.params4] at bk;exact W2 t bk) (by kernel_rfl) Tryd.underlying4 rfl W9 (by obtain⟨d1,d2,rfl⟩:=Xa;rfl) hw⟩
theorem law_said:Rows.VfsPlaysSaid:=
 OpenClaim.holds_of_wide 4 Tryd.f4 rfl rfl rfl rfl rfl rfl rfl ⟨rfl,rfl,rfl,rfl,rfl⟩ rfl rfl rfl rfl rfl (by kernel_rfl) Tryd.func4 (by kernel_rfl)
  (of_decide_eq_true (by kernel_rfl)) (by unfold Func.isWrapper;first|(rw[if_pos (by decide+kernel)];kernel_rfl)|(rw[if_neg (by decide+kernel)];exact⟨rfl,rfl⟩))
  (λos started H enc _=>W7 os started H enc)
theorem law_holds:Rows.VfsPlaysCardSaid:=
 Claim7.holds_tied_plain_at .later [] [.data,.pinned] true (true,"dae1913e748e28fcac2054cb47c076656b715ccc66b6921e12ea90f1ad0967c7") true law_said (λ_ h=>by cases h) (by kernel_rfl) (λ_ h=>by cases h) vfsPlays_row_tie rfl ⟨rfl,rfl⟩ (by kernel_rfl) rfl
  (λf fn hf mz=>by
   obtain rfl:f=4:=Option.some.inj ((show Tryd.prog.funcNamed "lodger/lodgerlaw07.VfsPlays" =some 4 by kernel_rfl).symm.trans hf)|>.symm
   obtain rfl:fn=Tryd.f4:=(Option.some.inj (Tryd.func4.symm.trans mz)).symm
   exact⟨by kernel_rfl,λj t bk=>by
    rw[Tryd.params4] at bk
    have:=W5 j t bk
    exact this⟩)
  (by kernel_rfl)
#print axioms law_holds
end Go.Proofs.YtlelojncabdnoaaDoor
