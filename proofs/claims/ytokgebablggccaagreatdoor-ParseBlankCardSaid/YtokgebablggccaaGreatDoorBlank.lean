/-
  PROVED HERE: lodger/lodgerlaw10.ParseBlank answers true for every input. Conditions: none beside the row's own.
-/
import Derived.Test.YtokgebablggccaaGreatDoorDz
import Derived.Test.YtokgebablggccaaGreatDoorCards
import Derived.Test.YtokgebablggccaaGreatDoorTie
import Derived.ProofKit
import Derived.OpenShut
import Derived.LaidMore
import Derived.Lay
import Derived.SevenTiedAt
import Derived.Stop.Joined
import Derived.ChangeMaps5
import Derived.SliceStrings
import Derived.LaidHandle
set_option maxRecDepth 100000
namespace Go.Proofs.YtokgebablggccaaGreatDoor
open Go.ChangeShapes Go.WideShapes Go.ChangeAt Go.RowKit Go.ChangeMaps aJ
theorem akS:ownKnob Tryz.prog.godebug=none:=by kernel_rfl
theorem akT:laidOutB Tryz.prog=true:=by kernel_rfl
theorem V7:Fit Tryz.prog:=Zp (by kernel_rfl) (by kernel_rfl) (by kernel_rfl)
theorem akU:JP Tryz.prog=true:=by kernel_rfl
theorem akV:∀t∈(#[44,44]:Array TypeId).toList,Tryz.prog.readableRec t=true/\t<Tryz.prog.types.size:=λt aI=>by
 simp at aI
 subst aI
 exact⟨by kernel_rfl,of_decide_eq_true (by kernel_rfl)⟩
theorem akW:Tryz.prog.wantsStandIn 44=false:=by kernel_rfl
theorem akX:∀(j:Nat) t,(#[44,44]:Array TypeId)[j]? =some t->Tryz.prog.wantsStandIn t=false:=λj t aI=>by
 have hm:t∈[44,44]:=by
  have:=List.mem_of_getElem? (l:=[44,44]) (i:=j) (by simpa using aI)
  exact this
 obtain rfl:t=44:=by simpa using hm
 exact akW
theorem V8{W:World}{base:Nat}{v:Value}(h:Value.okWide Tryz.prog W .any base 44 v):Cell.okWide Tryz.prog W .any base 44 v:=by
 simp only[Value.okWide,iI.A5] at h
 exact h
def NK:List (String×DataW Unit):=[("unicode/utf8.acceptRanges",Rows.laid_unicode_utf8_acceptRanges),("unicode.White_Space",Rows.laid_unicode_White_Space),("strings.asciiSpace",Rows.laid_strings_asciiSpace),("unicode/utf8.first",Rows.laid_unicode_utf8_first)]
theorem akY{W:World}(mM:laidMetH Tryz.prog Rows.parseBlankRow.laid W):laidMet Tryz.prog NK W/\handlesMet Tryz.prog [("errors.errorType",iI.SP)] W:=mM
noncomputable def NL(os:Os):World:=(iI.afx os).layVars Tryz.prog NK
theorem akZ(os:Os):(NL os).os=os:=World.layVars_os _ _ _
theorem ak0(os:Os)(args:Array Value):laidMetH Tryz.prog Rows.parseBlankRow.laid ((NL os).forCall (λ_ _=>0) ⟨#[],args,[]⟩).memory:=
 laidMetH_of_parts (aaU (laid:=NK) args (by kernel_rfl) (by kernel_rfl)) (by kernel_rfl)
theorem ak1{H:Type}{enc:TypeId×Value->H}{W:World}{base:Nat}{args:Array Value}{bN:List (DataW H)}{p:List MemPlace}(lk:DataW.TrodAll enc Tryz.prog W 0 (λ_=>true) true (#[44,44]:Array TypeId).toList args.toList bN p)
  (ot:∀(j:Nat) t v,(#[44,44]:Array TypeId)[j]? =some t->args[j]? =some v->Value.okWide Tryz.prog W .any base t v)(cS:W.ShapedOpen Tryz.prog)(mM:laidMetH Tryz.prog Rows.parseBlankRow.laid W):
  (∃d1 d2,bN=[d1,d2])/\Calls Tryz.prog 5 args W λe jG=>e=.returned (.bool true)/\Below W.heap.size W jG:=by
 obtain⟨v,v',d,bT,_,_,rfl,rfl,_,i0,i1⟩:=trodAll_two lk
 obtain⟨EO,len,cap,rfl⟩:=okWide_slice iI.A5 (ot 0 44 v rfl rfl)
 obtain⟨c8,V6,ak2,rfl⟩:=okWide_slice iI.A5 (ot 1 44 v' rfl rfl)
 obtain⟨f0,sh⟩:=i0
 obtain⟨f1,fS⟩:=i1
 have ak3:DataW.trod enc Tryz.prog W 0 (λ_=>true) true f0 44 [.slice EO len cap]=some (d,_):=sh
 have ak4:DataW.trod enc Tryz.prog W 0 (λ_=>true) true f1 44 [.slice c8 V6 ak2]=some (bT,_):=fS
 obtain⟨b1,rows,aj,ab⟩:=iI.VT ak3 (V8 (ot 0 44 _ rfl rfl))
 obtain⟨ke,lY,sa,Be⟩:=iI.VT ak4 (V8 (ot 1 44 _ rfl rfl))
 obtain⟨ak5,ak6⟩:=akY mM
 obtain⟨ps,r5,_,_⟩:=ak5
 obtain⟨jU,t0,cs0,f0,G3,KZ,G4,ru,LM,p5,⟨_,_,_,_,_,_,_,_,_,_,⟨al,t1,kI,f1,dt,aV,mB,w8,p_,LN,⟨a1,t3,LL,f3,gD,bu,Ae,LO,LP,LQ,_,_⟩,_⟩,_⟩,_⟩:=r5
 have qp:=iI.adh G4 ru LM p5 (by kernel_rfl) mB w8 p_ LN (by kernel_rfl) Ae LO LP LQ (by kernel_rfl)
 obtain⟨el,fz,he⟩:=iI.afv ak6
 obtain⟨ae,aq,aQ⟩:=iI.afw (Zt cS akU) qp he (rows++lY) (λx ab=>by
  rcases List.mem_append.1 ab with ab|ab
  · exact aj x ab
  · exact sa x ab)
 obtain⟨bt,b3⟩:=lv.akQ (els:=sv W) (sz:=rq W) rows lY el fz
 obtain⟨z,bm,IX⟩:=ab _ _ _ bt
 obtain⟨ea,q4,ak7⟩:=Be _ _ _ b3
 obtain⟨N,ay,e⟩:=lv.akR (els:=sv W) (sz:=rq W) bm q4
 exact⟨⟨d,bT,rfl⟩,Zs (intr:=lv.fc) (n:=N) V7 (lv.agS V7) Tryz.func5 rfl (congrArg F4 e) ae aQ aq ⟨_,_,rfl,IX,_,_,rfl,ak7,rfl⟩⟩
theorem ak8(os:Os)(started:os.Started)(H:Type)(enc:TypeId×Value->H):
  ReturnsInHanded {} Tryz.checked os 5 .any (λw args=>(Rows.parseBlankSpec.pre enc Tryz.prog Tryz.f5 Rows.parseBlankRow.domain false w args/\laidMetH Tryz.prog Rows.parseBlankRow.laid w)/\sizedMet enc Tryz.prog Tryz.f5 (OpenSpec.ofChange Rows.parseBlankSpec) false w args)
   (Rows.parseBlankSpec.post enc Tryz.prog Tryz.f5 false true false false):=by
 refine Zv (C:=Tryz.checked) (X:=λw _=>laidMetH Tryz.prog Rows.parseBlankRow.laid w) (λ_ _ _ ar h=>h.of_heap ar) akS started (by kernel_rfl) Tryz.func5
  (ChangeSpec.witness_shaped (enc:=enc) (C:=Tryz.checked) (os:=os) (X:=λw _=>laidMetH Tryz.prog Rows.parseBlankRow.laid w) false (NL os) #[.slice none 0 0,.slice none 0 0] 8 (akZ _)
   (World.shaped_of_ZipB (by kernel_rfl) (by kernel_rfl)) (by kernel_rfl) (by kernel_rfl) (by kernel_rfl)
   (ak0 _ _)) ?_
 intro W base args bN gs before ak9 iv _ mM cS
 have ak_:=iv
 obtain⟨p,q,ala,l2,rfl,_,_⟩:=iv
 have lk:DataW.TrodAll enc Tryz.prog W 0 (λ_=>true) true Tryz.f5.params.toList args.toList bN p:=ala
 rw[Tryz.params5] at lk
 have ot:=ak9
 rw[Tryz.params5] at ot
 obtain⟨alb,alc⟩:=ak1 lk ot cS mM
 refine alc.mono λe jG ⟨he,hw⟩=>?_
 subst he
 exact⟨_,rfl,Zu akT (λt aI=>by rw[Tryz.params5] at aI;exact akV t aI) (by kernel_rfl) Tryz.underlying4 rfl ak_ (by obtain⟨d1,d2,rfl⟩:=alb;rfl) hw⟩
theorem law_said:Rows.ParseBlankSaid:=
 OpenClaim.holds_of_wide 5 Tryz.f5 rfl rfl rfl rfl rfl rfl rfl ⟨rfl,rfl,rfl,rfl,rfl⟩ rfl rfl rfl rfl rfl (by kernel_rfl) Tryz.func5 (by kernel_rfl)
  (of_decide_eq_true (by kernel_rfl)) (by unfold Func.isWrapper;first|(rw[if_pos (by decide+kernel)];kernel_rfl)|(rw[if_neg (by decide+kernel)];exact⟨rfl,rfl⟩))
  (λos started H enc _=>ak8 os started H enc)
theorem law_holds:Rows.ParseBlankCardSaid:=
 Claim7.holds_tied_plain_at .later [] [.data,.handle,.listed,.data,.pinned] true (true,"d858d45b6da1a514e926a579971b6b8fe00da9fab98f4e301e87a26e0501630c") true law_said (λ_ h=>by cases h) (by kernel_rfl) (λ_ h=>by cases h) parseBlank_row_tie rfl ⟨rfl,rfl⟩ (by kernel_rfl) rfl
  (λf fn aM ra=>by
   obtain rfl:f=5:=Option.some.inj ((show Tryz.prog.funcNamed "lodger/lodgerlaw10.ParseBlank" =some 5 by kernel_rfl).symm.trans aM)|>.symm
   obtain rfl:fn=Tryz.f5:=(Option.some.inj (Tryz.func5.symm.trans ra)).symm
   exact⟨by kernel_rfl,λj t aI=>by
    rw[Tryz.params5] at aI
    have:=akX j t aI
    exact this⟩)
  (by kernel_rfl)
#print axioms law_holds
end Go.Proofs.YtokgebablggccaaGreatDoor
