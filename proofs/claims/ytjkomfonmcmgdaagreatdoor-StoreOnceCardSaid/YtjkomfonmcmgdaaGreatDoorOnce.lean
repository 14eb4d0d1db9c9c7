/-
  PROVED HERE: lodger/lodgerlaw14.StoreOnce answers true for every input. Conditions: none beside the row's own.
-/
import Derived.Test.YtjkomfonmcmgdaaGreatDoorDz
import Derived.Test.YtjkomfonmcmgdaaGreatDoorCards
import Derived.Test.YtjkomfonmcmgdaaGreatDoorTie
import Derived.ProofKit
import Derived.OpenShut
import Derived.LaidMore
import Derived.Lay
import Derived.SevenTiedAt
import Derived.Stop.Joined
import Derived.ChangeMaps5
import Derived.SliceStrings
set_option maxRecDepth 100000
namespace Go.Proofs.YtjkomfonmcmgdaaGreatDoor
open Go.ChangeShapes Go.WideShapes Go.ChangeAt Go.RowKit Go.ChangeMaps bt
theorem ae3:ownKnob Tryz.prog.godebug=none:=by kernel_rfl
theorem ae4:laidOutB Tryz.prog=true:=by kernel_rfl
theorem xV:Fit Tryz.prog:=y6 (by kernel_rfl) (by kernel_rfl) (by kernel_rfl)
theorem ae5:Fo Tryz.prog=true:=by kernel_rfl
theorem ae6:uk Tryz.prog ⟨15,[],.bool true⟩:=⟨Go.Proofs.jj.wQ,200,Go.Proofs.jj.Mq xV,by kernel_rfl⟩
theorem ae7:uk Tryz.prog ⟨106,[.str hy.ph],.aO [.agg (hy.kK hy.qq),.bool true]⟩:=K1 xV (T:=[]) trivial (n:=60) (by kernel_rfl)
theorem ae8:uk Tryz.prog ⟨106,[.str (hy.ph++[45,47,46])],.aO [.agg (hy.kK (λn=>hy.ks n)),.bool true]⟩:=K1 xV (T:=[]) trivial (n:=60) (by kernel_rfl)
theorem ae9:om Tryz.prog Go.Proofs.jk.b3:=Vg (K0 xV (λe he=>by
 rcases List.mem_cons.1 he with rfl|he
 · exact ae6
 rcases List.mem_cons.1 he with rfl|he
 · exact ae7
 rcases List.mem_cons.1 he with rfl|he
 · exact ae8
 · cases he)) (Go.Proofs.jj.Mq xV)
theorem ae_:∀t∈(#[43,27,3]:Array TypeId).toList,Tryz.prog.readableRec t=true/\t<Tryz.prog.types.size:=λt bc=>by
 simp at bc
 rcases bc with rfl|rfl|rfl
 · exact⟨by kernel_rfl,of_decide_eq_true (by kernel_rfl)⟩
 · exact⟨by kernel_rfl,of_decide_eq_true (by kernel_rfl)⟩
 · exact⟨by kernel_rfl,of_decide_eq_true (by kernel_rfl)⟩
theorem afa:Tryz.prog.wantsStandIn 43=false:=by kernel_rfl
theorem afb:Tryz.prog.wantsStandIn 27=false:=by kernel_rfl
theorem afc:Tryz.prog.wantsStandIn 3=false:=by kernel_rfl
theorem afd:∀(j:Nat) t,(#[43,27,3]:Array TypeId)[j]? =some t->Tryz.prog.wantsStandIn t=false:=λj t bc=>by
 have hm:t∈[43,27,3]:=by
  have:=List.mem_of_getElem? (l:=[43,27,3]) (i:=j) (by simpa using bc)
  exact this
 rcases List.mem_cons.1 hm with rfl|hm
 · exact afa
 rcases List.mem_cons.1 hm with rfl|hm
 · exact afb
 rcases List.mem_cons.1 hm with rfl|hm
 · exact afc
 · cases hm
theorem afe:Tryz.prog.underlying 3=some (.int .i64):=by kernel_rfl
theorem aff{H:Type}{enc:TypeId×Value->H}{W:World}{base:Nat}{args:Array Value}{ds:List (DataW H)}{p:List MemPlace}(kn:DataW.TrodAll enc Tryz.prog W 0 (λ_=>true) true (#[43,27,3]:Array TypeId).toList args.toList ds p)
  (l2:∀(j:Nat) t v,(#[43,27,3]:Array TypeId)[j]? =some t->args[j]? =some v->Value.okWide Tryz.prog W .any base t v)(iH:W.ShapedOpen Tryz.prog):
  (∃d1 d2 d3,ds=[d1,d2,d3])/\Calls Tryz.prog 6 args W λe iK=>e=.returned (.bool true)/\Below W.heap.size W iK:=by
 obtain⟨v,v',afg,d,bh,afh,_,_,_,rfl,rfl,_,aa,ad,av⟩:=trodAll_three kn
 obtain⟨f1,aa⟩:=aa
 obtain⟨f2,ad⟩:=ad
 obtain⟨z,rfl⟩:=okWide_int afe (l2 2 _ afg rfl rfl)
 have aG:Cell.okWide Tryz.prog W .any base 43 v:=by
  have bI:=l2 0 _ v rfl rfl
  simp only[Value.okWide] at bI
  exact bI
 have cq:Cell.okWide Tryz.prog W .any base 27 v':=by
  have bI:=l2 1 _ v' rfl rfl
  simp only[Value.okWide] at bI
  exact bI
 obtain⟨agD,len,cap,rfl⟩:=Go.Proofs.jj.Qi Go.Proofs.jj.IB aG
 obtain⟨b6,agE,agF,rfl⟩:=Go.Proofs.jj.Qi Go.Proofs.jj.DT cq
 obtain⟨l,jf,μ,g,u,AT,s1,s2,bN,a5,bX,eu,fI⟩:=Go.Proofs.jj.aeZ (T8 iH ae5) aG aa cq ad
 obtain⟨an,e⟩:=Go.Proofs.jj.aeV 200000 (Nat.le_refl _) (z:=z) a5 bX
 exact⟨⟨d,bh,afh,rfl⟩,T7 (intr:=Go.Proofs.jk.b3) (n:=200009) xV ae9 Tryz.func6 rfl (congrArg BZ e) s1 bN s2 ⟨_,_,rfl,eu,_,_,rfl,fI,_,_,rfl,rfl,rfl⟩⟩
theorem afi(os:Os)(started:os.Started)(H:Type)(enc:TypeId×Value->H):
  ReturnsInHanded {} Tryz.checked os 6 .any (λw args=>(Rows.storeOnceSpec.pre enc Tryz.prog Tryz.f6 Rows.storeOnceRow.domain false w args/\laidMetH Tryz.prog Rows.storeOnceRow.laid w)/\sizedMet enc Tryz.prog Tryz.f6 (OpenSpec.ofChange Rows.storeOnceSpec) false w args)
   (Rows.storeOnceSpec.post enc Tryz.prog Tryz.f6 false true false false):=by
 refine Ub (C:=Tryz.checked) (X:=λw _=>laidMetH Tryz.prog Rows.storeOnceRow.laid w) (λ_ _ _ ak h=>h.of_heap ak) ae3 started (by kernel_rfl) Tryz.func6
  (ChangeSpec.witness_shaped (enc:=enc) (C:=Tryz.checked) (os:=os) (X:=λw _=>laidMetH Tryz.prog Rows.storeOnceRow.laid w) false (World.laidAll Tryz.prog os Rows.storeOnceRow.laid) #[.slice none 0 0,.slice none 0 0,.int .i64 0] 8 (World.laidAll_os _ _ _)
   (World.shaped_of_ZipB (by kernel_rfl) (by kernel_rfl)) (by kernel_rfl) (by kernel_rfl) (by kernel_rfl)
   (by rw[MakeChecks.laidMetH_plain _ _ _ (by kernel_rfl)];exact laidMet_laidAll _ (by kernel_rfl) (by kernel_rfl))) ?_
 intro W base args ds gs before afj jO _ hx iH
 have afk:=jO
 obtain⟨p,q,afl,Fq,rfl,_,_⟩:=jO
 have kn:DataW.TrodAll enc Tryz.prog W 0 (λ_=>true) true Tryz.f6.params.toList args.toList ds p:=afl
 rw[Tryz.params6] at kn
 have l2:=afj
 rw[Tryz.params6] at l2
 obtain⟨afm,afn⟩:=aff kn l2 iH
 refine afn.mono λe iK ⟨he,hw⟩=>?_
 subst he
 exact⟨_,rfl,T9 ae4 (λt bc=>by rw[Tryz.params6] at bc;exact ae_ t bc) (by kernel_rfl) Tryz.underlying4 rfl afk (by obtain⟨d1,d2,d3,rfl⟩:=afm;rfl) hw⟩
theorem law_said:Rows.StoreOnceSaid:=
 OpenClaim.holds_of_wide 6 Tryz.f6 rfl rfl rfl rfl rfl rfl rfl ⟨rfl,rfl,rfl,rfl,rfl⟩ rfl rfl rfl rfl rfl (by kernel_rfl) Tryz.func6 (by kernel_rfl)
  (of_decide_eq_true (by kernel_rfl)) (by unfold Func.isWrapper;first|(rw[if_pos (by decide+kernel)];kernel_rfl)|(rw[if_neg (by decide+kernel)];exact⟨rfl,rfl⟩))
  (λos started H enc _=>afi os started H enc)
theorem law_holds:Rows.StoreOnceCardSaid:=
 Claim7.holds_tied_plain_at .later [] [.data,.pinned] true (true,"7b785f11f1ad7ad39492cb8fd689bf19dea406622b85d9cf7741175f89cf8e70") false law_said (λ_ h=>by cases h) (by kernel_rfl) (λ_ h=>by cases h) storeOnce_row_tie rfl ⟨rfl,rfl⟩ (by kernel_rfl) rfl
  (λf fn hf oh=>by
   obtain rfl:f=6:=Option.some.inj ((show Tryz.prog.funcNamed "lodger/lodgerlaw14.StoreOnce" =some 6 by kernel_rfl).symm.trans hf)|>.symm
   obtain rfl:fn=Tryz.f6:=(Option.some.inj (Tryz.func6.symm.trans oh)).symm
   exact⟨by kernel_rfl,λj t bc=>by
    rw[Tryz.params6] at bc
    have:=afd j t bc
    exact this⟩)
  (by kernel_rfl)
#print axioms law_holds
end Go.Proofs.YtjkomfonmcmgdaaGreatDoor
