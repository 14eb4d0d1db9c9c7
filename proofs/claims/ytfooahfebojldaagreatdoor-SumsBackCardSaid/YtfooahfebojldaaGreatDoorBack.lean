/-
  PROVED HERE: lodger/lodgerlaw19.SumsBack answers true for every input. Conditions: none beside the row's own.
-/
import Derived.Test.YtfooahfebojldaaGreatDoorDz
import Derived.Test.YtfooahfebojldaaGreatDoorCards
import Derived.Test.YtfooahfebojldaaGreatDoorTie
import Derived.ProofKit
import Derived.OpenShut
import Derived.LaidMore
import Derived.Lay
import Derived.SevenTiedAt
import Derived.Stop.Joined
import Derived.ChangeMaps5
import Derived.SliceStrings
namespace Go.Proofs.YtfooahfebojldaaGreatDoor
open Go.ChangeShapes Go.WideShapes Go.ChangeAt Go.RowKit Go.ChangeMaps ay
set_option maxRecDepth 100000
theorem acs:ownKnob Tryz.prog.godebug=none:=by kernel_rfl
theorem acu:laidOutB Tryz.prog=true:=by kernel_rfl
theorem vj:Fit Tryz.prog:=TR (by kernel_rfl) (by kernel_rfl) (by kernel_rfl)
theorem acv:EZ Tryz.prog=true:=by kernel_rfl
theorem acw:tF Tryz.prog ⟨12,[],.bool true⟩:=E4 vj (T:=[]) trivial (n:=60) (by kernel_rfl)
theorem acx:tF Tryz.prog ⟨139,[.str cS.oH],.aD [.agg (cS.ko cS.pR),.bool true]⟩:=E4 vj (T:=[]) trivial (n:=60) (by kernel_rfl)
theorem acy:tF Tryz.prog ⟨139,[.str (cS.oH++[45,47,46])],.aD [.agg (cS.ko (λn=>cS.sv n)),.bool true]⟩:=E4 vj (T:=[]) trivial (n:=60) (by kernel_rfl)
theorem acz:l4 Tryz.prog Go.Proofs.cf.b7:=Vp (KS vj (λe he=>by
 rcases List.mem_cons.1 he with rfl|he
 · exact acw
 rcases List.mem_cons.1 he with rfl|he
 · exact acx
 rcases List.mem_cons.1 he with rfl|he
 · exact acy
 · cases he)) (Vx vj (λt a2=>by cases a2) (λe he=>by
 rcases List.mem_cons.1 he with rfl|he
 · exact Go.Proofs.cf.Vy vj
 · cases he))
theorem acA:∀t∈(#[38,38,9]:Array TypeId).toList,Tryz.prog.readableRec t=true/\t<Tryz.prog.types.size:=λt a2=>by
 simp at a2
 rcases a2 with rfl|rfl
 · exact⟨by kernel_rfl,of_decide_eq_true (by kernel_rfl)⟩
 · exact⟨by kernel_rfl,of_decide_eq_true (by kernel_rfl)⟩
theorem Qt:Tryz.prog.wantsStandIn 38=false:=by kernel_rfl
theorem acB:Tryz.prog.wantsStandIn 9=false:=by kernel_rfl
theorem acC:∀(j:Nat) t,(#[38,38,9]:Array TypeId)[j]? =some t->Tryz.prog.wantsStandIn t=false:=λj t a2=>by
 have hm:t∈[38,38,9]:=by
  have:=List.mem_of_getElem? (l:=[38,38,9]) (i:=j) (by simpa using a2)
  exact this
 rcases List.mem_cons.1 hm with rfl|hm
 · exact Qt
 rcases List.mem_cons.1 hm with rfl|hm
 · exact Qt
 rcases List.mem_cons.1 hm with rfl|hm
 · exact acB
 · cases hm
theorem acD{H:Type}{enc:TypeId×Value->H}{W:World}{base:Nat}{args:Array Value}{aV:List (DataW H)}{p:List MemPlace}(jH:DataW.TrodAll enc Tryz.prog W 0 (λ_=>true) true (#[38,38,9]:Array TypeId).toList args.toList aV p)
  (nv:∀(j:Nat) t v,(#[38,38,9]:Array TypeId)[j]? =some t->args[j]? =some v->Value.okWide Tryz.prog W .any base t v)(jU:W.ShapedOpen Tryz.prog):
  (∃d1 d2 d3,aV=[d1,d2,d3])/\Calls Tryz.prog 6 args W λe iq=>e=.returned (.bool true)/\Below W.heap.size W iq:=by
 obtain⟨v,v',acE,d,bx,acF,_,_,_,rfl,rfl,_,ab,ae,av⟩:=trodAll_three jH
 obtain⟨f1,ab⟩:=ab
 obtain⟨f2,ae⟩:=ae
 obtain⟨s,rfl,_,_,_⟩:=open_string Go.Proofs.cN.xf (nv 2 _ acE rfl rfl) av
 obtain⟨pD,acG,rP,ka,ba,aR,bj⟩:=Go.Proofs.cN.Pp (nv 0 _ v rfl rfl) ab
 obtain⟨Gu,dT,rQ,M6,bt,aT,bo⟩:=Go.Proofs.cN.Pp (nv 1 _ v' rfl rfl) ae
 obtain⟨s1,s2,bV⟩:=T6 (P:=Tryz.prog) (TW jU acv) (ba++bt) (λx ad=>by
  rcases List.mem_append.1 ad with ad|ad
  · exact aR x ad
  · exact aT x ad)
 obtain⟨aE,aC⟩:=Go.Proofs.cN.Pj (Go.Proofs.cN.abP (rows:=ba++bt))
 obtain⟨w,u,cE,dI⟩:=bj _ _ _ aE
 obtain⟨w',T_,hB,eS⟩:=bo _ _ _ aC
 obtain⟨an,e⟩:=Go.Proofs.cN.acb 0 (p:=pD) (p':=Gu) (b:=acG) (b':=dT) (s:=s.data.toList) (Nat.le_refl _) cE hB
 exact⟨⟨d,bx,acF,rfl⟩,TV (intr:=Go.Proofs.cf.b7) (n:=502) vj acz Tryz.func6 rfl (congrArg Bz e) s1 bV s2 ⟨_,_,rfl,dI,_,_,rfl,eS,_,_,rfl,⟨s,rfl,rfl⟩,rfl⟩⟩
theorem acH(os:Os)(started:os.Started)(H:Type)(enc:TypeId×Value->H):
  ReturnsInHanded {} Tryz.checked os 6 .any (λw args=>(Rows.sumsBackSpec.pre enc Tryz.prog Tryz.f6 Rows.sumsBackRow.domain false w args/\laidMetH Tryz.prog Rows.sumsBackRow.laid w)/\sizedMet enc Tryz.prog Tryz.f6 (OpenSpec.ofChange Rows.sumsBackSpec) false w args)
   (Rows.sumsBackSpec.post enc Tryz.prog Tryz.f6 false true false false):=by
 refine T0 (C:=Tryz.checked) (X:=λw _=>laidMetH Tryz.prog Rows.sumsBackRow.laid w) (λ_ _ _ aj h=>h.of_heap aj) acs started (by kernel_rfl) Tryz.func6
  (ChangeSpec.witness_shaped (enc:=enc) (C:=Tryz.checked) (os:=os) (X:=λw _=>laidMetH Tryz.prog Rows.sumsBackRow.laid w) false (World.laidAll Tryz.prog os Rows.sumsBackRow.laid) #[.agg ⟨[.string ⟨#[]⟩,.bool false,.slice none 0 0,.slice none 0 0]⟩,.agg ⟨[.string ⟨#[]⟩,.bool false,.slice none 0 0,.slice none 0 0]⟩,.string ⟨#[]⟩] 8 (World.laidAll_os _ _ _)
   (World.shaped_of_ZipB (by kernel_rfl) (by kernel_rfl)) (by kernel_rfl) (by kernel_rfl) (by kernel_rfl)
   (by rw[MakeChecks.laidMetH_plain _ _ _ (by kernel_rfl)];exact laidMet_laidAll _ (by kernel_rfl) (by kernel_rfl))) ?_
 intro W base args aV gs before acI lu _ nK jU
 have acJ:=lu
 obtain⟨p,q,acK,qA,rfl,_,_⟩:=lu
 have jH:DataW.TrodAll enc Tryz.prog W 0 (λ_=>true) true Tryz.f6.params.toList args.toList aV p:=acK
 rw[Tryz.params6] at jH
 have nv:=acI
 rw[Tryz.params6] at nv
 obtain⟨acL,acM⟩:=acD jH nv jU
 refine acM.mono λe iq ⟨he,hw⟩=>?_
 subst he
 exact⟨_,rfl,TX acu (λt a2=>by rw[Tryz.params6] at a2;exact acA t a2) (by kernel_rfl) Tryz.underlying4 rfl acJ (by obtain⟨d1,d2,d3,rfl⟩:=acL;rfl) hw⟩
theorem law_said:Rows.SumsBackSaid:=
 OpenClaim.holds_of_wide 6 Tryz.f6 rfl rfl rfl rfl rfl rfl rfl ⟨rfl,rfl,rfl,rfl,rfl⟩ rfl rfl rfl rfl rfl (by kernel_rfl) Tryz.func6 (by kernel_rfl)
  (of_decide_eq_true (by kernel_rfl)) (by unfold Func.isWrapper;first|(rw[if_pos (by decide+kernel)];kernel_rfl)|(rw[if_neg (by decide+kernel)];exact⟨rfl,rfl⟩))
  (λos started H enc _=>acH os started H enc)
theorem law_holds:Rows.SumsBackCardSaid:=
 Claim7.holds_tied_plain_at .later [] [.data,.pinned] true (true,"c0573774f6049cb0526f7cf2d328633f841b19acab48d8170e88c3ef1576b465") true law_said (λ_ h=>by cases h) (by kernel_rfl) (λ_ h=>by cases h) sumsBack_row_tie rfl ⟨rfl,rfl⟩ (by kernel_rfl) rfl
  (λf fn hf nu=>by
   obtain rfl:f=6:=Option.some.inj ((show Tryz.prog.funcNamed "lodger/lodgerlaw19.SumsBack" =some 6 by kernel_rfl).symm.trans hf)|>.symm
   obtain rfl:fn=Tryz.f6:=(Option.some.inj (Tryz.func6.symm.trans nu)).symm
   exact⟨by kernel_rfl,λj t a2=>by
    rw[Tryz.params6] at a2
    have:=acC j t a2
    exact this⟩)
  (by kernel_rfl)
#print axioms law_holds
end Go.Proofs.YtfooahfebojldaaGreatDoor
