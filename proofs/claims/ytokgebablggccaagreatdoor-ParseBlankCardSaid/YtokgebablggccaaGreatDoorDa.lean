/-
  PROVED HERE: contracts of functions (Da). No condition beside each statement's own.
-/
import Derived.Test.YtokgebablggccaaGreatDoorSxa
import Derived.Test.YtokgebablggccaaGreatDoorTx
import Derived.Test.YtokgebablggccaaGreatDoorSxb
import Derived.Test.YtokgebablggccaaGreatDoorAx
import Derived.Test.YtokgebablggccaaGreatDoorProg
set_option linter.unusedVariables false
set_option linter.unusedSimpArgs false
set_option maxRecDepth 100000
set_option maxHeartbeats 1000000
namespace aJ
open Go Go.Proofs
noncomputable abbrev an:Program:=Tryz.prog
end aJ
namespace lp
open Go aJ
variable {b:UInt8}{f hi lo off x y:Nat}{r t:List UInt8}
variable {Q:cl->bD->Prop} {R:a8->Prop} (call:e0)
def cont:List UInt8->Bool
 |b::_=>b.toNat/64==2
 |[]=>false
def aH(l:List UInt8):Nat:=match l with
 |b::_=>b.toNat
 |[]=>0
def l_(c:Nat):Bool:=Utf8.valid (c:Int)
def dS:List UInt8->Nat×Nat
 |[]=>(65533,1)
 |b::t=>
  let bE:=b.toNat
  if bE<128 then(bE,1)
  else if bE/32==6&&cont t then
   let c:=(bE %32)*64+aH t %64
   if c>=128 then(c,2) else(65533,1)
  else if bE/16==14&&cont t&&cont (t.drop 1) then
   let c:=(bE %16)*4096+(aH t %64)*64+aH (t.drop 1) %64
   if c>=2048&&l_ c then(c,3) else(65533,1)
  else if bE/8==30&&cont t&&cont (t.drop 1)&&cont (t.drop 2) then
   let c:=(bE %8)*262144+(aH t %64)*4096+(aH (t.drop 1) %64)*64+aH (t.drop 2) %64
   if c>=65536&&l_ c then(c,4) else(65533,1)
  else(65533,1)
theorem RH(l:List UInt8)(k:Nat):((⟨l.toArray⟩:ByteArray).get! (0+k)).toNat=aH (l.drop k):=by
 show(l.toArray[0+k]!).toNat=_
 rw[Nat.zero_add,getElem!_def,List.getElem?_toArray]
 cases h:l[k]? with
 |none=>
  have:=List.getElem?_eq_none_iff.1 h
  rw[List.drop_eq_nil_of_le this];rfl
 |some x=>
  obtain⟨J,ae⟩:=List.getElem?_eq_some_iff.1 h
  rw[List.drop_eq_getElem_cons J,ae];rfl
theorem aa4(l:List UInt8)(k:Nat):(decide (0+k<(⟨l.toArray⟩:ByteArray).size)&&(((⟨l.toArray⟩:ByteArray).get! (0+k)).toNat/64==2))=cont (l.drop k):=by
 rw[RH]
 have ah:(⟨l.toArray⟩:ByteArray).size=l.length:=by show l.toArray.size=_;simp
 rw[ah,Nat.zero_add]
 by_cases h:k<l.length
 · rw[List.drop_eq_getElem_cons h];simp[h,aH,cont]
 · rw[List.drop_eq_nil_of_le (by omega)];simp[h,cont]
theorem aa5(b:UInt8)(t:List UInt8):BN (b::t)=dS (b::t):=by
 unfold BN
 rw[I8]
 simp only[OD,aa4]
 simp only[RH]
 unfold dS
 rfl
theorem uO(b:UInt8):b.toNat<256:=b.toNat_lt
def second(c:Nat):Nat×Nat×Nat:=
 if 194<=c/\c<=223 then(128,191,2)
 else if c=224 then(160,191,3)
 else if c=237 then(128,159,3)
 else if 224<c/\c<=239 then(128,191,3)
 else if c=240 then(144,191,4)
 else if 240<c/\c<=243 then(128,191,4)
 else if c=244 then(128,143,4)
 else(0,0,0)
def c5(l:List UInt8)(lo hi:Nat):Bool:=match l with
 |b::_=>decide (lo<=b.toNat)&&decide (b.toNat<=hi)
 |[]=>false
def ec:List UInt8->Nat
 |[]=>0
 |b::t=>if b.toNat<128 then 1 else
  match second b.toNat with
  |(lo,hi,2)=>if c5 t lo hi then 2 else 0
  |(lo,hi,3)=>if c5 t lo hi&&c5 (t.drop 1) 128 191 then 3 else 0
  |(lo,hi,4)=>if c5 t lo hi&&c5 (t.drop 1) 128 191&&c5 (t.drop 2) 128 191 then 4 else 0
  |_=>0
theorem GP(l:List UInt8):c5 l 128 191=cont l:=by
 cases l with
 |nil=>rfl
 |cons b l=>
  have:=uO b
  simp only[c5,cont]
  rw[Bool.eq_iff_iff];simp;omega
theorem GQ(s:List UInt8):ec s<=s.length:=by
 cases s with
 |nil=>exact Nat.le_refl _
 |cons b t=>
  have hw:∀(l:List UInt8) lo hi,c5 l lo hi=true->0<l.length:=λl lo hi h=>by
   cases l with
   |nil=>cases h
   |cons _ _=>simp
  show(if b.toNat<128 then 1 else
   match second b.toNat with
   |(lo,hi,2)=>if c5 t lo hi then 2 else 0
   |(lo,hi,3)=>if c5 t lo hi&&c5 (t.drop 1) 128 191 then 3 else 0
   |(lo,hi,4)=>if c5 t lo hi&&c5 (t.drop 1) 128 191&&c5 (t.drop 2) 128 191 then 4 else 0
   |_=>0)<=t.length+1
  by_cases h0:b.toNat<128
  · rw[if_pos h0];omega
  · rw[if_neg h0]
    generalize second b.toNat=x
    obtain⟨lo,hi,n⟩:=x
    have ae:(if c5 t lo hi then 2 else 0)<=t.length+1:=by
     split
     · rename_i h;have:=hw _ _ _ h;omega
     · omega
    have aq:(if c5 t lo hi&&c5 (t.drop 1) 128 191 then 3 else 0)<=t.length+1:=by
     split
     · rename_i h
       simp only[Bool.and_eq_true] at h
       have:=hw _ _ _ h.2
       rw[List.length_drop] at this
       omega
     · omega
    have aQ:(if c5 t lo hi&&c5 (t.drop 1) 128 191&&c5 (t.drop 2) 128 191 then 4 else 0)<=t.length+1:=by
     split
     · rename_i h
       simp only[Bool.and_eq_true] at h
       have:=hw _ _ _ h.2
       rw[List.length_drop] at this
       omega
     · omega
    match n with
    |0=>exact Nat.zero_le _
    |1=>exact Nat.zero_le _
    |2=>exact ae
    |3=>exact aq
    |4=>exact aQ
    |n+5=>exact Nat.zero_le _
def dT(c:Nat):List UInt8:=
 if c<128 then[UInt8.ofNat c]
 else if c<2048 then[UInt8.ofNat (192+c/64),UInt8.ofNat (128+c %64)]
 else if c<65536 then[UInt8.ofNat (224+c/4096),UInt8.ofNat (128+c/64 %64),UInt8.ofNat (128+c %64)]
 else[UInt8.ofNat (240+c/262144),UInt8.ofNat (128+c/4096 %64),UInt8.ofNat (128+c/64 %64),UInt8.ofNat (128+c %64)]
theorem of_nat_eq{n:Nat}(h:n=b.toNat):UInt8.ofNat n=b:=by subst h;simp
theorem qt(c:Nat):l_ c=true<->(c<=1114111/\¬(55296<=c/\c<=57343)):=by
 unfold l_ Utf8.valid;simp;omega
theorem GR(x:Nat):(194<=x/\x<=223/\second x=(128,191,2))\/(x=224/\second x=(160,191,3))\/(x=237/\second x=(128,159,3))\/(224<x/\x<=239/\x≠237/\second x=(128,191,3))\/
  (x=240/\second x=(144,191,4))\/(240<x/\x<=243/\second x=(128,191,4))\/(x=244/\second x=(128,143,4))\/((x<194\/244<x)/\second x=(0,0,0)):=by
 by_cases J:194<=x/\x<=223
 · exact .inl ⟨J.1,J.2,by simp[second,J]⟩
 by_cases ae:x=224
 · subst ae;exact .inr (.inl ⟨rfl,rfl⟩)
 by_cases aq:x=237
 · subst aq;exact .inr (.inr (.inl ⟨rfl,rfl⟩))
 by_cases aQ:224<x/\x<=239
 · exact .inr (.inr (.inr (.inl ⟨aQ.1,aQ.2,aq,by simp only[second,if_neg J,if_neg ae,if_neg aq,if_pos aQ]⟩)))
 by_cases bj:x=240
 · subst bj;exact .inr (.inr (.inr (.inr (.inl ⟨rfl,rfl⟩))))
 by_cases cW:240<x/\x<=243
 · exact .inr (.inr (.inr (.inr (.inr (.inl ⟨cW.1,cW.2,by simp only[second,if_neg J,if_neg ae,if_neg aq,if_neg aQ,if_neg bj,if_pos cW]⟩)))))
 by_cases eS:x=244
 · subst eS;exact .inr (.inr (.inr (.inr (.inr (.inr (.inl ⟨rfl,rfl⟩))))))
 · exact .inr (.inr (.inr (.inr (.inr (.inr (.inr ⟨by omega,by simp only[second,if_neg J,if_neg ae,if_neg aq,if_neg aQ,if_neg bj,if_neg cW,if_neg eS]⟩))))))
def K9(s:List UInt8):Prop:=
 (ec s=0/\dS s=(65533,1))\/(ec s=1/\∃b t,s=b::t/\b.toNat<128/\dS s=(b.toNat,1))\/
  (2<=ec s/\∃c,dS s=(c,ec s)/\128<=c/\c<=1114111/\l_ c=true/\dT c=s.take (ec s))
theorem aa6(ab:194<=x/\x<=223)(bH:y/64=2):128<=(x %32)*64+y %64/\(x %32)*64+y %64<2048/\192+((x %32)*64+y %64)/64=x/\128+((x %32)*64+y %64) %64=y:=by omega
theorem aa7{z:Nat}(ab:224<=x/\x<=239)(bH:y/64=2)(bm:z/64=2):
 (x %16)*4096+(y %64)*64+z %64<65536/\224+((x %16)*4096+(y %64)*64+z %64)/4096=x/\128+((x %16)*4096+(y %64)*64+z %64)/64 %64=y/\128+((x %16)*4096+(y %64)*64+z %64) %64=z:=by omega
theorem Dv{z w:Nat}(ab:240<=x/\x<=244)(bH:y/64=2)(bm:z/64=2)(hw:w/64=2):
 240+((x %8)*262144+(y %64)*4096+(z %64)*64+w %64)/262144=x/\128+((x %8)*262144+(y %64)*4096+(z %64)*64+w %64)/4096 %64=y/\128+((x %8)*262144+(y %64)*4096+(z %64)*64+w %64)/64 %64=z/\128+((x %8)*262144+(y %64)*4096+(z %64)*64+w %64) %64=w:=by omega
theorem uP(h:cont t=true):∃y r,t=y::r/\y.toNat/64=2:=by
 cases t with
 |nil=>cases h
 |cons y r=>exact⟨y,r,rfl,by simpa[cont] using h⟩
theorem w2(h:c5 t lo hi=true):∃y r,t=y::r/\lo<=y.toNat/\y.toNat<=hi:=by
 cases t with
 |nil=>cases h
 |cons y r=>exact⟨y,r,rfl,by simpa[c5] using h⟩
theorem ju{b:Bool}(h:¬b=true):b=false:=by simpa using h
theorem K_(ab:224<=b.toNat/\b.toNat<=239)(he:second b.toNat=(lo,hi,3))(J:128<=lo)(ae:hi<=191)
  (ai:∀y z:Nat,y/64=2->z/64=2->(lo<=y/\y<=hi<->(b.toNat %16)*4096+(y %64)*64+z %64>=2048/\l_ ((b.toNat %16)*4096+(y %64)*64+z %64)=true)):K9 (b::t):=by
 have c_:¬b.toNat<128:=by omega
 have aG:(b.toNat/32==6)=false:=by simp;omega
 have aE:(b.toNat/16==14)=true:=by simp;omega
 have br:(b.toNat/8==30)=false:=by simp;omega
 by_cases h:(c5 t lo hi&&c5 (t.drop 1) 128 191)=true
 · have ar:=h
   simp only[Bool.and_eq_true] at h
   obtain⟨y,r,rfl,ej,gl⟩:=w2 h.1
   rw[List.drop_succ_cons,List.drop_zero,GP] at h
   obtain⟨z,r',rfl,cN⟩:=uP h.2
   have lq:y.toNat/64=2:=by omega
   have ak:ec (b::y::z::r')=3:=by simp only[ec,if_neg c_,he,ar,if_true]
   obtain⟨aO,aZ⟩:=(ai y.toNat z.toNat lq cN).1 ⟨ej,gl⟩
   obtain⟨aV,aU,bu,e7⟩:=aa7 ab lq cN
   have aW:=(qt _).1 aZ
   refine .inr (.inr ⟨by omega,(b.toNat %16)*4096+(y.toNat %64)*64+z.toNat %64,?_,by omega,aW.1,aZ,?_⟩)
   · have y1:cont (y::z::r')=true:=by simp[cont,lq]
     have uy:cont (z::r')=true:=by simp[cont,cN]
     simp only[ak,dS,if_neg c_,aG,aE,y1,List.drop_succ_cons,List.drop_zero,uy,aH,Bool.and_true,Bool.false_and,Bool.false_eq_true,if_false,if_true,aZ,decide_eq_true aO]
   · rw[ak]
     simp only[dT,if_neg (show¬(b.toNat %16)*4096+(y.toNat %64)*64+z.toNat %64<128 by omega),if_neg (show¬(b.toNat %16)*4096+(y.toNat %64)*64+z.toNat %64<2048 by omega),if_pos aV,of_nat_eq aU,of_nat_eq bu,of_nat_eq e7]
     rfl
 · have ar:=ju h
   refine .inl ⟨by simp only[ec,if_neg c_,he,ar,Bool.false_eq_true,if_false],?_⟩
   have:(b.toNat/16==14&&cont t&&cont (t.drop 1))=true->¬(decide ((b.toNat %16)*4096+(aH t %64)*64+aH (t.drop 1) %64>=2048)&&l_ ((b.toNat %16)*4096+(aH t %64)*64+aH (t.drop 1) %64))=true:=by
    intro ab ak
    simp only[Bool.and_eq_true,decide_eq_true_eq] at ab ak
    obtain⟨y,r,rfl,ej⟩:=uP ab.1.2
    have bm:=ab.2
    rw[List.drop_succ_cons,List.drop_zero] at bm ak
    obtain⟨z,r',rfl,cN⟩:=uP bm
    have:=(ai y.toNat z.toNat ej cN).2 ak
    apply h
    simp only[c5,List.drop_succ_cons,List.drop_zero,Bool.and_eq_true,decide_eq_true_eq]
    omega
   simp only[dS,if_neg c_,aG,br,Bool.false_and,Bool.false_eq_true,if_false]
   split
   · rename_i ab
     rw[if_neg (this ab)]
   · rfl
theorem La(ab:240<=b.toNat/\b.toNat<=244)(he:second b.toNat=(lo,hi,4))(J:128<=lo)(ae:hi<=191)
  (ai:∀y z w:Nat,y/64=2->z/64=2->w/64=2->(lo<=y/\y<=hi<->(b.toNat %8)*262144+(y %64)*4096+(z %64)*64+w %64>=65536/\l_ ((b.toNat %8)*262144+(y %64)*4096+(z %64)*64+w %64)=true)):K9 (b::t):=by
 have c_:¬b.toNat<128:=by omega
 have aG:(b.toNat/32==6)=false:=by simp;omega
 have aE:(b.toNat/16==14)=false:=by simp;omega
 have br:(b.toNat/8==30)=true:=by simp;omega
 by_cases h:(c5 t lo hi&&c5 (t.drop 1) 128 191&&c5 (t.drop 2) 128 191)=true
 · have ar:=h
   simp only[Bool.and_eq_true] at h
   obtain⟨y,r,rfl,ej,gl⟩:=w2 h.1.1
   simp only[List.drop_succ_cons,List.drop_zero,GP] at h
   obtain⟨z,r',rfl,cN⟩:=uP h.1.2
   simp only[List.drop_succ_cons,List.drop_zero] at h
   obtain⟨w,Dw,rfl,b_⟩:=uP h.2
   have lq:y.toNat/64=2:=by omega
   have ak:ec (b::y::z::w::Dw)=4:=by simp only[ec,if_neg c_,he,ar,if_true]
   obtain⟨aO,aZ⟩:=(ai y.toNat z.toNat w.toNat lq cN b_).1 ⟨ej,gl⟩
   obtain⟨aU,bu,e7,gL⟩:=Dv ab lq cN b_
   have aW:=(qt _).1 aZ
   refine .inr (.inr ⟨by omega,(b.toNat %8)*262144+(y.toNat %64)*4096+(z.toNat %64)*64+w.toNat %64,?_,by omega,aW.1,aZ,?_⟩)
   · have y1:cont (y::z::w::Dw)=true:=by simp[cont,lq]
     have uy:cont (z::w::Dw)=true:=by simp[cont,cN]
     have Lb:cont (w::Dw)=true:=by simp[cont,b_]
     simp only[ak,dS,if_neg c_,aG,aE,br,y1,List.drop_succ_cons,List.drop_zero,uy,Lb,aH,Bool.and_true,Bool.false_and,Bool.false_eq_true,if_false,if_true,aZ,decide_eq_true aO]
   · rw[ak]
     simp only[dT,if_neg (show¬(b.toNat %8)*262144+(y.toNat %64)*4096+(z.toNat %64)*64+w.toNat %64<128 by omega),if_neg (show¬(b.toNat %8)*262144+(y.toNat %64)*4096+(z.toNat %64)*64+w.toNat %64<2048 by omega),if_neg (show¬(b.toNat %8)*262144+(y.toNat %64)*4096+(z.toNat %64)*64+w.toNat %64<65536 by omega),of_nat_eq aU,of_nat_eq bu,of_nat_eq e7,of_nat_eq gL]
     rfl
 · have ar:=ju h
   refine .inl ⟨by simp only[ec,if_neg c_,he,ar,Bool.false_eq_true,if_false],?_⟩
   have:(b.toNat/8==30&&cont t&&cont (t.drop 1)&&cont (t.drop 2))=true->¬(decide ((b.toNat %8)*262144+(aH t %64)*4096+(aH (t.drop 1) %64)*64+aH (t.drop 2) %64>=65536)&&l_ ((b.toNat %8)*262144+(aH t %64)*4096+(aH (t.drop 1) %64)*64+aH (t.drop 2) %64))=true:=by
    intro ab ak
    simp only[Bool.and_eq_true,decide_eq_true_eq] at ab ak
    obtain⟨y,r,rfl,ej⟩:=uP ab.1.1.2
    have bm:=ab.1.2
    have hw:=ab.2
    simp only[List.drop_succ_cons,List.drop_zero] at bm hw ak
    obtain⟨z,r',rfl,cN⟩:=uP bm
    simp only[List.drop_succ_cons,List.drop_zero] at hw ak
    obtain⟨w,Dw,rfl,b_⟩:=uP hw
    have:=(ai y.toNat z.toNat w.toNat ej cN b_).2 ak
    apply h
    simp only[c5,List.drop_succ_cons,List.drop_zero,Bool.and_eq_true,decide_eq_true_eq]
    omega
   simp only[dS,if_neg c_,aG,aE,Bool.false_and,Bool.false_eq_true,if_false]
   split
   · rename_i ab
     rw[if_neg (this ab)]
   · rfl
theorem uQ:∀s,K9 s
 |[]=>.inl ⟨rfl,rfl⟩
 |b::t=>by
  have ag:=uO b
  rcases GR b.toNat with⟨J,ae,he⟩|⟨J,he⟩|⟨J,he⟩|⟨J,ae,aq,he⟩|⟨J,he⟩|⟨J,ae,he⟩|⟨J,he⟩|⟨J,he⟩
  · have c_:¬b.toNat<128:=by omega
    have aG:(b.toNat/32==6)=true:=by simp;omega
    have aE:(b.toNat/16==14)=false:=by simp;omega
    have br:(b.toNat/8==30)=false:=by simp;omega
    by_cases h:cont t=true
    · obtain⟨y,r,rfl,ej⟩:=uP h
      have ak:ec (b::y::r)=2:=by simp only[ec,if_neg c_,he,GP,h,if_true]
      obtain⟨aV,aU,bu,e7⟩:=aa6 ⟨J,ae⟩ ej
      refine .inr (.inr ⟨by omega,(b.toNat %32)*64+y.toNat %64,?_,aV,by omega,(qt _).2 (by omega),?_⟩)
      · rw[ak]
        unfold dS
        simp only[if_neg c_,aG,h,Bool.and_true,if_true]
        exact if_pos aV
      · rw[ak]
        simp only[dT,if_neg (show¬(b.toNat %32)*64+y.toNat %64<128 by omega),if_pos aU,of_nat_eq bu,of_nat_eq e7]
        rfl
    · have ar:=ju h
      exact .inl ⟨by simp only[ec,if_neg c_,he,GP,ar,Bool.false_eq_true,if_false],by simp only[dS,if_neg c_,aG,aE,br,ar,Bool.and_false,Bool.false_and,Bool.false_eq_true,if_false]⟩
  · exact K_ (by omega) he (by omega) (by omega) λy z bH bm=>by rw[qt];omega
  · exact K_ (by omega) he (by omega) (by omega) λy z bH bm=>by rw[qt];omega
  · exact K_ (by omega) he (by omega) (by omega) λy z bH bm=>by rw[qt];omega
  · exact La (by omega) he (by omega) (by omega) λy z w bH bm hw=>by rw[qt];omega
  · exact La (by omega) he (by omega) (by omega) λy z w bH bm hw=>by rw[qt];omega
  · exact La (by omega) he (by omega) (by omega) λy z w bH bm hw=>by rw[qt];omega
  · by_cases h0:b.toNat<128
    · exact .inr (.inl ⟨by simp only[ec,if_pos h0],b,t,rfl,h0,by unfold dS;exact if_pos h0⟩)
    · refine .inl ⟨by simp only[ec,if_neg h0,he],?_⟩
      have aO:(b.toNat/32==6&&cont t)=true->¬((b.toNat %32)*64+aH t %64>=128):=λab ak=>by
       simp only[Bool.and_eq_true,beq_iff_eq] at ab;omega
      have aZ:(b.toNat/16==14)=false:=by simp;omega
      have bC:(b.toNat/8==30&&cont t&&cont (t.drop 1)&&cont (t.drop 2))=true->¬(decide ((b.toNat %8)*262144+(aH t %64)*4096+(aH (t.drop 1) %64)*64+aH (t.drop 2) %64>=65536)&&l_ ((b.toNat %8)*262144+(aH t %64)*4096+(aH (t.drop 1) %64)*64+aH (t.drop 2) %64))=true:=λab ak=>by
       simp only[Bool.and_eq_true,beq_iff_eq,qt] at ab ak;omega
      simp only[dS,if_neg h0,aZ,Bool.false_and,Bool.false_eq_true,if_false]
      split
      · rename_i ab;rw[if_neg (aO ab)]
      · split
        · rename_i ab;rw[if_neg (bC ab)]
        · rfl
def ie(b:UInt8):Bool:=(decide (97<=b.toNat)&&decide (b.toNat<=122))||(decide (65<=b.toNat)&&decide (b.toNat<=90))||b.toNat==95
def eC(b:UInt8):Bool:=decide (48<=b.toNat)&&decide (b.toNat<=57)
def ma(b:UInt8):Bool:=b.toNat==32||b.toNat==9||b.toNat==10||b.toNat==13
def words:List (List UInt8):=[[105,109,112,111,114,116],[97,115],[116,121,112,101],[108,101,116],[102,117,110],[102,110],[105,102],[116,104,101,110],[101,108,115,101],[105,110],[97,110,100],[111,114],[110,111,116],[114,111,108,108],[117,110,114,111,108,108],[116,114,117,101],[102,97,108,115,101],[110,105,108],[105,110,116],[98,111,111,108],[115,116,114],[97,110,121]]
def sC(s:List UInt8):Bool:=words.any λw=>gb w s
def k7:List (List UInt8):=[[45,62],[61,62],[61,61],[46,46],[61],[58],[46],[44],[40],[41],[123],[125],[124],[60],[43],[45],[42]]
def w3(s:List UInt8):Option (List UInt8):=k7.find? λg=>g.isPrefixOf s
def jT:Nat->List UInt8->Nat->Bool×Nat
 |0,_,off=>(true,off)
 |f+1,s,off=>match s with
  |[]=>(true,off)
  |b::t=>if b.toNat=10 then(true,off) else match ec (b::t) with
   |0=>(false,off)
   |n+1=>jT f (t.drop n) (off+(n+1))
inductive y2 where
 |ok (out:List UInt8) (off:Nat)
 |bad (off:Nat)
def gB:Nat->List UInt8->Nat->List UInt8->y2
 |0,_,_,_=>.bad 0
 |f+1,s,off,out=>match s with
  |[]=>.bad 0
  |b::t=>if b.toNat=10 then .bad 0
   else if b.toNat=34 then .ok out (off+1)
   else if b.toNat=92 then match t with
    |[]=>.bad off
    |e::ft=>if e.toNat=34\/e.toNat=92 then gB f ft (off+2) (out++[e])
     else if e.toNat=110 then gB f ft (off+2) (out++[10])
     else .bad off
   else match ec (b::t) with
    |0=>.bad off
    |n+1=>gB f (t.drop n) (off+(n+1)) (out++b::t.take n)
def jI:List UInt8->Nat->Option Nat
 |[],n=>some n
 |b::t,n=>let d:=b.toNat-48
  if n>(9223372036854775807-d)/10 then none else jI t (10*n+d)
inductive Lc where
 |skip (n:Nat)
 |tok (k:Nat) (t:List UInt8) (v n:Nat)
 |bad (off:Nat)
def el(s:List UInt8):Lc:=match s with
 |[]=>.bad 0
 |c::r=>
  if ma c then .skip 1
  else if c.toNat=35 then match jT s.length s 0 with
   |(true,n)=>.skip n
   |(false,n)=>.bad n
  else if ie c then
   let w:=s.takeWhile λb=>ie b||eC b
   if w.length>24 then .bad 0 else .tok (if sC w then 2 else 1) w 0 w.length
  else if eC c then
   let w:=s.takeWhile eC
   match jI w 0 with
   |none=>.bad 0
   |some v=>.tok 3 [] v w.length
  else if c.toNat=34 then match gB s.length r 1 [] with
   |.ok t n=>.tok 4 t 0 n
   |.bad n=>.bad n
  else match w3 s with
   |none=>.bad 0
   |some g=>.tok 5 g 0 g.length
structure bP where
 k:Nat
 t:List UInt8
 v:Nat
 at':Nat
def ig:Nat->List UInt8->Nat->List bP->Except Nat (List bP)
 |0,_,at',out=>.ok (out++[⟨0,[],0,at'⟩])
 |f+1,s,at',out=>match s with
  |[]=>.ok (out++[⟨0,[],0,at'⟩])
  |b::t=>match el (b::t) with
   |.skip n=>ig f ((b::t).drop n) (at'+n) out
   |.bad n=>.error (at'+n)
   |.tok k x v n=>ig f ((b::t).drop n) (at'+n) (out++[⟨k,x,v,at'⟩])
def px(s:List UInt8):Except Nat (List bP):=ig s.length s 0 []
theorem Ld:∀(f:Nat) (s:List UInt8) (off:Nat),off<=(jT f s off).2/\(jT f s off).2<=off+s.length
 |0,s,off=>by simp[jT]
 |f+1,[],off=>by simp[jT]
 |f+1,b::t,off=>by
  unfold jT
  simp only
  split
  · simp
  · cases h:ec (b::t) with
    |zero=>simp
    |succ n=>
     have J:=GQ (b::t)
     have bM:=Ld f (t.drop n) (off+(n+1))
     rw[h] at J
     simp only[List.length_cons,List.length_drop] at J bM⊢
     omega
theorem aa8(h:b.toNat=35):1<=(jT (f+1) (b::t) 0).2:=by
 have ak:ec (b::t)=1:=by simp only[ec];rw[if_pos (by omega)]
 unfold jT
 simp only[ak]
 rw[if_neg (by omega)]
 exact(Ld f (t.drop 0) (0+(0+1))).1
def y2.In(a b:Nat):y2->Prop
 |.ok _ n=>a<=n/\n<=b
 |.bad n=>n<=b
theorem y2.In.mono{a b a6 jb:Nat}{r:y2}(h:r.In a b)(a_:a6<=a)(ag:b<=jb):r.In a6 jb:=by
 cases r with
 |ok _ n=>exact⟨Nat.le_trans a_ h.1,Nat.le_trans h.2 ag⟩
 |bad n=>exact Nat.le_trans h ag
theorem GS:∀(f:Nat) (s:List UInt8) (off:Nat) (out:List UInt8),(gB f s off out).In off (off+s.length)
 |0,s,off,out=>Nat.zero_le _
 |f+1,[],off,out=>Nat.zero_le _
 |f+1,b::t,off,out=>by
  unfold gB
  simp only
  by_cases J:b.toNat=10
  · rw[if_pos J];exact Nat.zero_le _
  rw[if_neg J]
  by_cases ae:b.toNat=34
  · rw[if_pos ae];exact⟨by omega,by simp⟩
  rw[if_neg ae]
  by_cases aq:b.toNat=92
  · rw[if_pos aq]
    cases t with
    |nil=>exact Nat.le_add_right _ _
    |cons e ft=>
     simp only
     by_cases aQ:e.toNat=34\/e.toNat=92
     · rw[if_pos aQ];exact(GS f ft (off+2) _).mono (by omega) (by simp;omega)
     rw[if_neg aQ]
     by_cases bj:e.toNat=110
     · rw[if_pos bj];exact(GS f ft (off+2) _).mono (by omega) (by simp;omega)
     · rw[if_neg bj];exact Nat.le_add_right _ _
  · rw[if_neg aq]
    cases h:ec (b::t) with
    |zero=>exact Nat.le_add_right _ _
    |succ n=>
     have J:=GQ (b::t)
     rw[h,List.length_cons] at J
     exact(GS f (t.drop n) (off+(n+1)) _).mono (by omega) (by simp;omega)
theorem Le{s g:List UInt8}(h:w3 s=some g):g∈k7/\g.isPrefixOf s=true:=⟨List.mem_of_find?_eq_some h,List.find?_some (p:=λg=>List.isPrefixOf g s) h⟩
theorem RI:∀g∈k7,1<=g.length/\g.length<=2:=by decide
theorem Lf(p:UInt8->Bool):∀l:List UInt8,(l.takeWhile p).length<=l.length
 |[]=>by simp
 |b::l=>by
  rw[List.takeWhile_cons]
  split
  · simp;exact Lf p l
  · simp
def Lc.In(b:Nat):Lc->Prop
 |.skip n=>1<=n/\n<=b
 |.tok _ _ _ n=>1<=n/\n<=b
 |.bad n=>n<=b
theorem Dx(b:UInt8)(t:List UInt8):(el (b::t)).In (t.length+1):=by
 unfold el
 simp only
 by_cases J:ma b=true
 · rw[if_pos J];exact⟨Nat.le_refl _,by omega⟩
 rw[if_neg J]
 by_cases ae:b.toNat=35
 · rw[if_pos ae]
   have J:=aa8 (f:=t.length) (t:=t) ae
   have aq:=(Ld (t.length+1) (b::t) 0).2
   rw[List.length_cons] at aq⊢
   cases ab:jT (t.length+1) (b::t) 0 with
   |mk ok n=>
    rw[ab] at J aq
    cases ok
    · show n<=_;simp only at aq;omega
    · show 1<=n/\n<=_;simp only at J aq;omega
 rw[if_neg ae]
 by_cases aq:ie b=true
 · rw[if_pos aq]
   have J:=Lf (λb=>ie b||eC b) t
   have ae:((b::t).takeWhile λb=>ie b||eC b)=b::t.takeWhile λb=>ie b||eC b:=by rw[List.takeWhile_cons,if_pos (by simp[aq])]
   rw[ae]
   split
   · exact Nat.zero_le _
   · exact⟨by simp,by simp;omega⟩
 rw[if_neg aq]
 by_cases aQ:eC b=true
 · rw[if_pos aQ]
   have J:=Lf eC t
   have ae:((b::t).takeWhile eC)=b::t.takeWhile eC:=by rw[List.takeWhile_cons,if_pos aQ]
   rw[ae]
   cases jI (b::t.takeWhile eC) 0 with
   |none=>exact Nat.zero_le _
   |some v=>exact⟨by simp,by simp;omega⟩
 rw[if_neg aQ]
 by_cases bj:b.toNat=34
 · rw[if_pos bj]
   have J:=GS (b::t).length t 1 []
   cases ab:gB (b::t).length t 1 [] with
   |ok o n=>rw[ab] at J;exact⟨J.1,by have:=J.2;omega⟩
   |bad n=>rw[ab] at J;show n<=_;have:n<=1+t.length:=J;omega
 rw[if_neg bj]
 cases ab:w3 (b::t) with
 |none=>exact Nat.zero_le _
 |some g=>
  obtain⟨J,ae⟩:=Le ab
  have:=RI g J
  have aq:=(List.isPrefixOf_iff_prefix.1 ae).length_le
  rw[List.length_cons] at aq
  exact⟨this.1,aq⟩
def qu(b:UInt8):Bool:=!(b.toNat==10)
def line(u:List UInt8):List UInt8:=u.takeWhile qu
theorem Lg(t:List UInt8):cont (line t)=cont t/\(cont t=true->aH (line t)=aH t/\(line t).drop 1=line (t.drop 1)):=by
 cases t with
 |nil=>exact⟨rfl,λh=>by cases h⟩
 |cons b t=>
  cases ag:qu b with
  |true=>
   have e:line (b::t)=b::line t:=by unfold line;rw[List.takeWhile_cons,if_pos ag]
   rw[e]
   exact⟨rfl,λ_=>⟨rfl,rfl⟩⟩
  |false=>
   have e:line (b::t)=[]:=by unfold line;rw[List.takeWhile_cons,if_neg (by rw[ag];simp)]
   have si:b.toNat=10:=by simpa[qu] using ag
   rw[e]
   have:cont (b::t)=false:=by simp[cont,si]
   rw[this]
   exact⟨rfl,λh=>by cases h⟩
theorem Lh(t:List UInt8)(aA:11<=lo):c5 (line t) lo hi=c5 t lo hi/\(c5 t lo hi=true->(line t).drop 1=line (t.drop 1)):=by
 cases t with
 |nil=>exact⟨rfl,λh=>by cases h⟩
 |cons b t=>
  cases ag:qu b with
  |true=>
   have e:line (b::t)=b::line t:=by unfold line;rw[List.takeWhile_cons,if_pos ag]
   rw[e]
   exact⟨rfl,λ_=>rfl⟩
  |false=>
   have e:line (b::t)=[]:=by unfold line;rw[List.takeWhile_cons,if_neg (by rw[ag];simp)]
   have si:b.toNat=10:=by simpa[qu] using ag
   rw[e]
   have:c5 (b::t) lo hi=false:=by simp only[c5,si,Bool.and_eq_false_iff,decide_eq_false_iff_not];omega
   rw[this]
   exact⟨rfl,λh=>by cases h⟩
theorem Li(t:List UInt8):t.drop 2=(t.drop 1).drop 1:=by rw[List.drop_drop]
theorem Lj(b:UInt8)(t:List UInt8):dS (b::line t)=dS (b::t):=by
 obtain⟨c8,c9⟩:=Lg t
 unfold dS
 simp only[c8,Li]
 by_cases J:cont t=true
 · obtain⟨aO,aZ⟩:=c9 J
   obtain⟨bd,b2⟩:=Lg (t.drop 1)
   simp only[aO,aZ,bd]
   by_cases ae:cont (t.drop 1)=true
   · obtain⟨bC,cX⟩:=b2 ae
     obtain⟨a9,cI⟩:=Lg ((t.drop 1).drop 1)
     simp only[bC,cX,a9]
     by_cases aq:cont ((t.drop 1).drop 1)=true
     · rw[(cI aq).1]
     · simp only[ju aq,Bool.and_false,Bool.false_eq_true,if_false]
   · simp only[ju ae,Bool.and_false,Bool.false_and,Bool.false_eq_true,if_false]
 · simp only[ju J,Bool.and_false,Bool.false_and,Bool.false_eq_true,if_false]
theorem aa9(b:UInt8)(t:List UInt8):ec (b::line t)=ec (b::t):=by
 have key:∀lo hi,11<=lo->c5 (line t) lo hi=c5 t lo hi/\(c5 (line t) lo hi&&c5 ((line t).drop 1) 128 191)=(c5 t lo hi&&c5 (t.drop 1) 128 191)/\
   (c5 (line t) lo hi&&c5 ((line t).drop 1) 128 191&&c5 ((line t).drop 2) 128 191)=(c5 t lo hi&&c5 (t.drop 1) 128 191&&c5 (t.drop 2) 128 191):=by
  intro lo hi aA
  obtain⟨c8,c9⟩:=Lh t (hi:=hi) aA
  rw[c8,Li,Li]
  by_cases J:c5 t lo hi=true
  · rw[c9 J,J]
    obtain⟨bd,b2⟩:=Lh (t.drop 1) (lo:=128) (hi:=191) (by omega)
    rw[bd]
    refine⟨rfl,rfl,?_⟩
    by_cases ae:c5 (t.drop 1) 128 191=true
    · rw[b2 ae,(Lh ((t.drop 1).drop 1) (lo:=128) (hi:=191) (by omega)).1]
    · rw[ju ae];rfl
  · rw[ju J];exact⟨rfl,rfl,rfl⟩
 show(if b.toNat<128 then 1 else
  match second b.toNat with
  |(lo,hi,2)=>if c5 (line t) lo hi then 2 else 0
  |(lo,hi,3)=>if c5 (line t) lo hi&&c5 ((line t).drop 1) 128 191 then 3 else 0
  |(lo,hi,4)=>if c5 (line t) lo hi&&c5 ((line t).drop 1) 128 191&&c5 ((line t).drop 2) 128 191 then 4 else 0
  |_=>0)=(if b.toNat<128 then 1 else
  match second b.toNat with
  |(lo,hi,2)=>if c5 t lo hi then 2 else 0
  |(lo,hi,3)=>if c5 t lo hi&&c5 (t.drop 1) 128 191 then 3 else 0
  |(lo,hi,4)=>if c5 t lo hi&&c5 (t.drop 1) 128 191&&c5 (t.drop 2) 128 191 then 4 else 0
  |_=>0)
 by_cases h0:b.toNat<128
 · rw[if_pos h0,if_pos h0]
 · rw[if_neg h0,if_neg h0]
   rcases GR b.toNat with⟨_,_,he⟩|⟨_,he⟩|⟨_,he⟩|⟨_,_,_,he⟩|⟨_,he⟩|⟨_,_,he⟩|⟨_,he⟩|⟨_,he⟩<;>rw[he]<;>simp only
   · rw[(key 128 191 (by omega)).1]
   · rw[(key 160 191 (by omega)).2.1]
   · rw[(key 128 159 (by omega)).2.1]
   · rw[(key 128 191 (by omega)).2.1]
   · rw[(key 144 191 (by omega)).2.2]
   · rw[(key 128 191 (by omega)).2.2]
   · rw[(key 128 143 (by omega)).2.2]
theorem w4(h:b.toNat=10)(t:List UInt8):line (b::t)=[]:=by unfold line;rw[List.takeWhile_cons,if_neg (by simp[qu,h])]
theorem sD(h:¬b.toNat=10)(t:List UInt8):line (b::t)=b::line t:=by unfold line;rw[List.takeWhile_cons,if_pos (by simp[qu,h])]
theorem AZ:∀(n:Nat) (u:List UInt8),n<=(line u).length->(line u).drop n=line (u.drop n)
 |0,u,_=>rfl
 |n+1,[],h=>by simp[line] at h
 |n+1,b::u,h=>by
  by_cases ag:b.toNat=10
  · rw[w4 ag] at h;simp at h
  · rw[sD ag] at h⊢
    rw[List.drop_succ_cons,List.drop_succ_cons]
    exact AZ n u (by simpa using h)
theorem GU(ag:¬b.toNat=10):ec (b::t)<=(line (b::t)).length:=by
 rw[sD ag,<-aa9];exact GQ _
theorem RJ(ag:¬b.toNat=10):jT (f+1) (b::t) off=match ec (b::t) with
  |0=>(false,off)
  |n+1=>jT f ((b::t).drop (n+1)) (off+(n+1)):=by
 conv=>lhs;unfold jT
 simp only[if_neg ag,List.drop_succ_cons]
 all_goals (cases ec (b::t)<;>rfl)
theorem GV:∀(f:Nat) (u:List UInt8) (off:Nat),line u=[]->jT f u off=(true,off)
 |0,u,off,_=>rfl
 |f+1,[],off,_=>rfl
 |f+1,b::t,off,h=>by
  by_cases ag:b.toNat=10
  · unfold jT;simp only[if_pos ag]
  · rw[sD ag] at h;cases h
theorem RK:∀(f:Nat) (u:List UInt8) (off:Nat),(line u).length<=f->(jT f u off).1=true->(jT f u off).2=off+(line u).length
 |0,u,off,h,_=>by
  have:line u=[]:=List.eq_nil_of_length_eq_zero (by omega)
  rw[GV 0 u off this,this];rfl
 |f+1,[],off,h,_=>rfl
 |f+1,b::t,off,h,aj=>by
  by_cases ag:b.toNat=10
  · rw[GV _ _ _ (w4 ag t),w4 ag];rfl
  · rw[RJ ag] at aj⊢
    cases ak:ec (b::t) with
    |zero=>rw[ak] at aj;cases aj
    |succ n=>
     rw[ak] at aj
     have eF:=GU (t:=t) ag
     rw[ak] at eF
     have aH:=AZ (n+1) (b::t) eF
     have aA:(line ((b::t).drop (n+1))).length=(line (b::t)).length-(n+1):=by rw[<-aH,List.length_drop]
     have:=RK f _ (off+(n+1)) (by rw[aA];omega) aj
     simp only at this⊢
     rw[this,aA];omega
theorem GW{out:List UInt8}(J:¬b.toNat=10)(ae:¬b.toNat=34)(aq:¬b.toNat=92):gB (f+1) (b::t) off out=match ec (b::t) with
  |0=>.bad off
  |n+1=>gB f ((b::t).drop (n+1)) (off+(n+1)) (out++(b::t).take (n+1)):=by
 conv=>lhs;unfold gB
 simp only[if_neg J,if_neg ae,if_neg aq,List.drop_succ_cons,List.take_succ_cons]
 all_goals (cases ec (b::t)<;>rfl)
theorem Lk{out:List UInt8}(ae:b.toNat=34):gB (f+1) (b::t) off out=.ok out (off+1):=by
 conv=>lhs;unfold gB
 simp only[if_neg (show¬b.toNat=10 by omega),if_pos ae]
theorem GX{out:List UInt8}(ae:b.toNat=92):gB (f+1) (b::t) off out=match t with
  |[]=>.bad off
  |e::ft=>if e.toNat=34\/e.toNat=92 then gB f ft (off+2) (out++[e])
   else if e.toNat=110 then gB f ft (off+2) (out++[10])
   else .bad off:=by
 conv=>lhs;unfold gB
 simp only[if_neg (show¬b.toNat=10 by omega),if_neg (show¬b.toNat=34 by omega),if_pos ae]
 all_goals (cases t<;>rfl)
theorem aa_:∀(f:Nat) (u:List UInt8) (off:Nat) (out:List UInt8),line u=[]->gB f u off out=.bad 0
 |0,u,off,out,_=>rfl
 |f+1,[],off,out,_=>rfl
 |f+1,b::t,off,out,h=>by
  by_cases ag:b.toNat=10
  · unfold gB;simp only[if_pos ag]
  · rw[sD ag] at h;cases h
theorem aba{y:UInt8}(ab:194<=b.toNat/\b.toNat<=223)(bH:y.toNat/64=2):dS (b::y::r)=((b.toNat %32)*64+y.toNat %64,2):=by
 have c_:¬b.toNat<128:=by omega
 have aG:(b.toNat/32==6)=true:=by simp;omega
 have ak:cont (y::r)=true:=by simp[cont,bH]
 unfold dS
 simp only[if_neg c_,aG,ak,Bool.and_true,if_true]
 exact if_pos (by simp only[aH];omega)
theorem abb{y z:UInt8}(ab:224<=b.toNat/\b.toNat<=239)(bH:y.toNat/64=2)(bm:z.toNat/64=2)(ak:ec (b::y::z::r)=3):dS (b::y::z::r)=((b.toNat %16)*4096+(y.toNat %64)*64+z.toNat %64,3):=by
 have c_:¬b.toNat<128:=by omega
 have aG:(b.toNat/32==6)=false:=by simp;omega
 have aE:(b.toNat/16==14)=true:=by simp;omega
 have y1:cont (y::z::r)=true:=by simp[cont,bH]
 have uy:cont (z::r)=true:=by simp[cont,bm]
 have aM:dS (b::y::z::r)=if((b.toNat %16)*4096+(y.toNat %64)*64+z.toNat %64>=2048&&l_ ((b.toNat %16)*4096+(y.toNat %64)*64+z.toNat %64)) then((b.toNat %16)*4096+(y.toNat %64)*64+z.toNat %64,3) else(65533,1):=by
  conv=>lhs;unfold dS
  simp only[if_neg c_,aG,aE,y1,List.drop_succ_cons,List.drop_zero,uy,aH,Bool.and_true,Bool.false_and,Bool.false_eq_true,if_false,if_true]
 rcases uQ (b::y::z::r) with⟨h,_⟩|⟨h,_⟩|⟨_,c,h,_⟩
 · rw[ak] at h;cases h
 · rw[ak] at h;cases h
 · rw[ak,aM] at h
   rw[aM]
   split
   · rfl
   · rename_i aT;rw[if_neg aT] at h;cases h
theorem abc{y z w:UInt8}(ab:240<=b.toNat/\b.toNat<=244)(bH:y.toNat/64=2)(bm:z.toNat/64=2)(hw:w.toNat/64=2)(ak:ec (b::y::z::w::r)=4):dS (b::y::z::w::r)=((b.toNat %8)*262144+(y.toNat %64)*4096+(z.toNat %64)*64+w.toNat %64,4):=by
 have c_:¬b.toNat<128:=by omega
 have aG:(b.toNat/32==6)=false:=by simp;omega
 have aE:(b.toNat/16==14)=false:=by simp;omega
 have br:(b.toNat/8==30)=true:=by simp;omega
 have y1:cont (y::z::w::r)=true:=by simp[cont,bH]
 have uy:cont (z::w::r)=true:=by simp[cont,bm]
 have Lb:cont (w::r)=true:=by simp[cont,hw]
 have aM:dS (b::y::z::w::r)=if((b.toNat %8)*262144+(y.toNat %64)*4096+(z.toNat %64)*64+w.toNat %64>=65536&&l_ ((b.toNat %8)*262144+(y.toNat %64)*4096+(z.toNat %64)*64+w.toNat %64)) then((b.toNat %8)*262144+(y.toNat %64)*4096+(z.toNat %64)*64+w.toNat %64,4) else(65533,1):=by
  conv=>lhs;unfold dS
  simp only[if_neg c_,aG,aE,br,y1,List.drop_succ_cons,List.drop_zero,uy,Lb,aH,Bool.and_true,Bool.false_and,Bool.false_eq_true,if_false,if_true]
 rcases uQ (b::y::z::w::r) with⟨h,_⟩|⟨h,_⟩|⟨_,c,h,_⟩
 · rw[ak] at h;cases h
 · rw[ak] at h;cases h
 · rw[ak,aM] at h
   rw[aM]
   split
   · rfl
   · rename_i aT;rw[if_neg aT] at h;cases h
theorem A0{u:List UInt8}(h:ec u=0):dS u=(65533,1):=by
 rcases uQ u with⟨_,J⟩|⟨J,_⟩|⟨J,_⟩
 · exact J
 · omega
 · omega
theorem dec_lt(u:List UInt8):(dS u).1<=1114111/\(dS u).2<=4/\1<=(dS u).2:=by
 have aQ:ec u<=4:=by
  cases u with
  |nil=>exact Nat.zero_le _
  |cons b t=>
   show(if b.toNat<128 then 1 else
    match second b.toNat with
    |(lo,hi,2)=>if c5 t lo hi then 2 else 0
    |(lo,hi,3)=>if c5 t lo hi&&c5 (t.drop 1) 128 191 then 3 else 0
    |(lo,hi,4)=>if c5 t lo hi&&c5 (t.drop 1) 128 191&&c5 (t.drop 2) 128 191 then 4 else 0
    |_=>0)<=4
   split
   · omega
   · split<;>(try split)<;>omega
 rcases uQ u with⟨_,J⟩|⟨_,b,t,rfl,J,ae⟩|⟨J,c,ae,aq,bj,_⟩
 · rw[J];decide
 · rw[ae];simp only;omega
 · rw[ae];simp only;omega
structure RL(b lo hi sz x idx:Nat):Prop where
 he:second b=(lo,hi,sz)
 iO:128<=lo
 lH:hi<=191
 bQ:(sz=2/\194<=b/\b<=223)\/(sz=3/\224<=b/\b<=239)\/(sz=4/\240<=b/\b<=244)
 ab:x %8=sz/\x/16=idx/\x<240/\idx<16
theorem abd{b:Nat}(ag:128<=b)(ae:b<256):((b<194\/244<b)/\second b=(0,0,0))\/∃lo hi sz x idx,RL b lo hi sz x idx/\((x,idx,lo,hi)=(2,0,128,191)/\194<=b/\b<=223\/(x,idx,lo,hi)=(19,1,160,191)/\b=224\/(x,idx,lo,hi)=(35,2,128,159)/\b=237\/(x,idx,lo,hi)=(3,0,128,191)/\224<b/\b<=239/\b≠237\/
  (x,idx,lo,hi)=(52,3,144,191)/\b=240\/(x,idx,lo,hi)=(4,0,128,191)/\240<b/\b<=243\/(x,idx,lo,hi)=(68,4,128,143)/\b=244):=by
 rcases GR b with⟨J,ae,he⟩|⟨J,he⟩|⟨J,he⟩|⟨J,ae,aq,he⟩|⟨J,he⟩|⟨J,ae,he⟩|⟨J,he⟩|⟨J,he⟩
 · exact .inr ⟨_,_,_,2,0,⟨he,by omega,by omega,.inl ⟨rfl,J,ae⟩,by decide⟩,.inl ⟨rfl,J,ae⟩⟩
 · exact .inr ⟨_,_,_,19,1,⟨he,by omega,by omega,.inr (.inl ⟨rfl,by omega,by omega⟩),by decide⟩,.inr (.inl ⟨rfl,J⟩)⟩
 · exact .inr ⟨_,_,_,35,2,⟨he,by omega,by omega,.inr (.inl ⟨rfl,by omega,by omega⟩),by decide⟩,.inr (.inr (.inl ⟨rfl,J⟩))⟩
 · exact .inr ⟨_,_,_,3,0,⟨he,by omega,by omega,.inr (.inl ⟨rfl,by omega,by omega⟩),by decide⟩,.inr (.inr (.inr (.inl ⟨rfl,J,ae,aq⟩)))⟩
 · exact .inr ⟨_,_,_,52,3,⟨he,by omega,by omega,.inr (.inr ⟨rfl,by omega,by omega⟩),by decide⟩,.inr (.inr (.inr (.inr (.inl ⟨rfl,J⟩))))⟩
 · exact .inr ⟨_,_,_,4,0,⟨he,by omega,by omega,.inr (.inr ⟨rfl,by omega,by omega⟩),by decide⟩,.inr (.inr (.inr (.inr (.inr (.inl ⟨rfl,J,ae⟩)))))⟩
 · exact .inr ⟨_,_,_,68,4,⟨he,by omega,by omega,.inr (.inr ⟨rfl,by omega,by omega⟩),by decide⟩,.inr (.inr (.inr (.inr (.inr (.inr ⟨rfl,J⟩)))))⟩
 · exact .inl ⟨J,he⟩
theorem GY(h0:¬b.toNat<128)(he:second b.toNat=(lo,hi,2)):ec (b::t)=if c5 t lo hi then 2 else 0:=by
 simp only[ec,if_neg h0,he]
theorem A1(h0:¬b.toNat<128)(he:second b.toNat=(lo,hi,3)):ec (b::t)=if c5 t lo hi&&c5 (t.drop 1) 128 191 then 3 else 0:=by
 simp only[ec,if_neg h0,he]
theorem y3(h0:¬b.toNat<128)(he:second b.toNat=(lo,hi,4)):ec (b::t)=if c5 t lo hi&&c5 (t.drop 1) 128 191&&c5 (t.drop 2) 128 191 then 4 else 0:=by
 simp only[ec,if_neg h0,he]
theorem RM(h0:¬b.toNat<128)(he:second b.toNat=(0,0,0)):ec (b::t)=0:=by
 simp only[ec,if_neg h0,he]
end lp
namespace Go.Proofs.iI
open Go aJ Go.Proofs lp
variable {b:Nat}{h:I}{s:List UInt8}
variable {Q:cl->bD->Prop} {R:a8->Prop} (call:e0)
def Ll:List Nat:=[0,0,0,0,0,0,0,0,0,1,1,1,1,1,0,0,0,0,0,0,0,0,0,0,0,0,0,0,0,0,0,0,1,0,0,0,0,0,0,0,0,0,0,0,0,0,0,0,0,0,0,0,0,0,0,0,0,0,0,0,0,0,0,0,0,0,0,0,0,0,0,0,0,0,0,0,0,0,0,0,0,0,0,0,0,0,0,0,0,0,0,0,0,0,0,0,0,0,0,0,0,0,0,0,0,0,0,0,0,0,0,0,0,0,0,0,0,0,0,0,0,0,0,0,0,0,0,0,0,0,0,0,0,0,0,0,0,0,0,0,0,0,0,0,0,0,0,0,0,0,0,0,0,0,0,0,0,0,0,0,0,0,0,0,0,0,0,0,0,0,0,0,0,0,0,0,0,0,0,0,0,0,0,0,0,0,0,0,0,0,0,0,0,0,0,0,0,0,0,0,0,0,0,0,0,0,0,0,0,0,0,0,0,0,0,0,0,0,0,0,0,0,0,0,0,0,0,0,0,0,0,0,0,0,0,0,0,0,0,0,0,0,0,0,0,0,0,0,0,0,0,0,0,0,0,0]
def tO:List Nat:=[240,240,240,240,240,240,240,240,240,240,240,240,240,240,240,240,240,240,240,240,240,240,240,240,240,240,240,240,240,240,240,240,240,240,240,240,240,240,240,240,240,240,240,240,240,240,240,240,240,240,240,240,240,240,240,240,240,240,240,240,240,240,240,240,240,240,240,240,240,240,240,240,240,240,240,240,240,240,240,240,240,240,240,240,240,240,240,240,240,240,240,240,240,240,240,240,240,240,240,240,240,240,240,240,240,240,240,240,240,240,240,240,240,240,240,240,240,240,240,240,240,240,240,240,240,240,240,240,241,241,241,241,241,241,241,241,241,241,241,241,241,241,241,241,241,241,241,241,241,241,241,241,241,241,241,241,241,241,241,241,241,241,241,241,241,241,241,241,241,241,241,241,241,241,241,241,241,241,241,241,241,241,241,241,241,241,241,241,241,241,241,241,241,241,2,2,2,2,2,2,2,2,2,2,2,2,2,2,2,2,2,2,2,2,2,2,2,2,2,2,2,2,2,2,19,3,3,3,3,3,3,3,3,3,3,3,3,35,3,3,52,4,4,4,68,241,241,241,241,241,241,241,241,241,241,241]
def w5:List Nat:=[128,191,160,191,128,159,144,191,128,143,0,0,0,0,0,0,0,0,0,0,0,0,0,0,0,0,0,0,0,0,0,0]
def dL:List g2:=[⟨2,Ll⟩,⟨4,tO⟩,⟨5,w5⟩]
theorem qv:∀t∈dL,t.g<an.globals.size:=λt aI=>by
 have aQ:Nat.ble 7 an.globals.size=true:=by kernel_rfl
 have O2:=Nat.le_of_ble_eq_true aQ
 have cf:t.g<7:=by
  simp only[dL,List.mem_cons,List.not_mem_nil,or_false] at aI
  rcases aI with rfl|rfl|rfl<;>decide
 omega
noncomputable def k6(els:Nat->Nat):I:=kr an.globals.size els dL []
noncomputable def A2(f:Nat):a8:=eA an (uM dL []) 60 (.fn f) [] (k6 λ_=>0)
noncomputable def Dy:List sw:=[⟨33,[],A2 33⟩,⟨34,[],A2 34⟩]
def GZ:List rh:=[]
def ku:sA:=⟨25,26,68,85,29,0,143,7,26⟩
noncomputable def eD:Nat->List aa->I->Option (aa×I):=oF (oF (uM dL GZ) (sx an.globals.size dL Dy)) (oF (Dq ku) (Dr ku))
noncomputable def C(n:Nat):e0:=eA an eD n
theorem RN(aM:Fit an):kJ an (uM dL []):=Re aM qv (by simp)
theorem abe(aM:Fit an):∀e∈Dy,Rq an dL e:=λe he=>by
 simp only[Dy,List.mem_cons,List.not_mem_nil,or_false] at he
 rcases he with rfl|rfl
 · exact⟨uM dL [],60,RN aM,rfl,λels=>by kernel_rfl⟩
 · exact⟨uM dL [],60,RN aM,rfl,λels=>by kernel_rfl⟩
def oG:List ga->List (List UInt8)->Bool
 |[],[]=>true
 |⟨.str k,.bool true,_⟩::es,w::ws=>match gb k w with
  |true=>oG es ws
  |false=>false
 |_,_=>false
theorem RO(a b:List UInt8):gb a b=gb b a:=by
 rw[o_,o_,Bool.eq_iff_iff,beq_iff_eq,beq_iff_eq];exact eq_comm
theorem RP{P:Program}{h0:I}{kt:TypeId}(s:List UInt8):∀(es:List ga) (ws:List (List UInt8)) (i:Nat),oG es ws=true->jN P h0 kt (.str s) es i=some none/\(ws.any λw=>gb w s)=false\/(∃j,jN P h0 kt (.str s) es i=some (some (j,.bool true)))/\(ws.any λw=>gb w s)=true
 |[],[],i,_=>.inl ⟨rfl,rfl⟩
 |e::es,[],i,h=>by
  obtain⟨k,v,b⟩:=e
  cases k<;>cases v<;>(try (rename_i x;cases x))<;>simp[oG] at h
 |[],w::ws,i,h=>by simp[oG] at h
 |⟨k,v,b⟩::es,w::ws,i,h=>by
  unfold oG at h
  split at h
  · rename_i he;cases he
  · rename_i k' jb z8 w' abf J ae
    cases J;cases ae
    split at h
    · rename_i ai
      have abg:k'=w:=by rw[o_] at ai;exact beq_iff_eq.1 ai
      subst abg
      have ah:s7 (.str s) (.str k')=some (gb s k'):=rfl
      cases ab:gb s k' with
      |true=>
       refine .inr ⟨⟨i,?_⟩,?_⟩
       · simp only[jN,xC,ah,ab]
       · rw[List.any_cons,RO,ab];rfl
      |false=>
       have:=RP (P:=P) (h0:=h0) (kt:=kt) s es ws (i+1) h
       rw[List.any_cons,RO k' s,ab,Bool.false_or]
       simp only[jN,xC,ah,ab]
       exact this
    · cases h
  · cases h
theorem RQ(G n:Nat):∀(es:List ga) (ws:List (List UInt8)),oG es ws=true->oG (es.map (Dl G n)) ws=true
 |[],[],_=>rfl
 |[],_::_,h=>by simp[oG] at h
 |e::es,[],h=>by
  obtain⟨k,v,b⟩:=e
  cases k<;>cases v<;>(try (rename_i x;cases x))<;>simp[oG] at h
 |⟨k,v,b⟩::es,w::ws,h=>by
  unfold oG at h
  split at h
  · rename_i he;cases he
  · rename_i k' jb z8 w' abf J ae
    cases J;cases ae
    split at h
    · rename_i ai
      have bM:=RQ G n es ws h
      show oG (⟨.str k',.bool true,b⟩::es.map (Dl G n)) (w::ws)=true
      simp only[oG,ai]
      exact bM
    · cases h
  · cases h
def uR(h:I)(r:Nat):Prop:=∃es c,h.get r=some (.map es c)/\oG es words=true
noncomputable def Lm:a8->Bool
 |.ret (.map r) h=>match h.get r with
  |some (.map es _)=>match oG es words with
   |true=>match Nat.ble an.globals.size r with
    |true=>Nat.blt r h.n
    |false=>false
   |false=>false
  |_=>false
 |_=>false
theorem abh{x:a8}(h:Lm x=true):∃r g es c,x=.ret (.map r) g/\g.get r=some (.map es c)/\oG es words=true/\an.globals.size<=r/\r<g.n:=by
 unfold Lm at h
 split at h
 · rename_i r g
   split at h
   · rename_i es c aB
     split at h
     · rename_i ai
       split at h
       · rename_i aT
         exact⟨r,g,es,c,rfl,aB,ai,Nat.le_of_ble_eq_true aT,by simpa[Nat.blt_eq] using h⟩
       · cases h
     · cases h
   · cases h
 · cases h
theorem abi:Lm (A2 33)=true:=by kernel_rfl
theorem abj(m:Nat)(h:I)(aI:gH h dL=true):∃r g,C (m+1) (.fn 33) [] h=.ret (.map r) g/\uR g r/\Ext h.n h g/\h.n<=r/\r<g.n:=by
 obtain⟨r,g,es,c,J,ae,aq,aQ,bj⟩:=abh abi
 have ag:Nat.blt r an.globals.size=false:=by
  cases ab:Nat.blt r an.globals.size with
  |false=>rfl
  |true=>rw[Nat.blt_eq] at ab;omega
 have hi:eD 33 [] h=some (ln an.globals.size h.n (.map r),ks an.globals.size h.n g h (g.n-an.globals.size)):=by
  have aG:uM dL GZ 33 [] h=none:=rfl
  have aE:sx an.globals.size dL Dy 33 [] h=(match gH h dL with
   |true=>match A2 33 with
    |.ret v H=>some (ln an.globals.size h.n v,ks an.globals.size h.n H h (H.n-an.globals.size))
    |_=>none
   |false=>none):=rfl
  simp only[eD,oF,aG,aE,aI,J]
 have aj:ln an.globals.size h.n (.map r)=.map (r-an.globals.size+h.n):=by simp only[ln,ag]
 rw[aj] at hi
 refine⟨r-an.globals.size+h.n,ks an.globals.size h.n g h (g.n-an.globals.size),by simp only[C,eA,hi],⟨es.map (Dl an.globals.size h.n),c,?_,RQ _ _ _ _ aq⟩,⟨by rw[pw];omega,λb iZ=>by rw[yX,if_pos iZ]⟩,by omega,by rw[pw];omega⟩
 rw[yX,if_neg (by omega),if_pos (by omega)]
 have e:an.globals.size+(r-an.globals.size+h.n-h.n)=r:=by omega
 rw[e,ae];rfl
def rv(h:I)(b:Nat):Prop:=∃el k lo hi,h.get b=some (.cells (k7.map .str) el k lo hi)
def A3:List aa->List (List UInt8)->Bool
 |[],[]=>true
 |.str s::l,t::bl=>match gb s t with
  |true=>A3 l bl
  |false=>false
 |_,_=>false
theorem RR:∀(l:List aa) (bl:List (List UInt8)),A3 l bl=true->l=bl.map .str
 |[],[],_=>rfl
 |[],_::_,h=>by simp[A3] at h
 |v::l,[],h=>by cases v<;>simp[A3] at h
 |v::l,t::bl,h=>by
  cases v<;>simp only[A3] at h<;>(try (cases h;done))
  split at h
  · rename_i ag
    rw[o_] at ag
    rw[RR l bl h,List.map_cons,beq_iff_eq.1 ag]
  · cases h
noncomputable def Ln:a8->Bool
 |.ret (.slice b 0 17 (.exact 17)) h=>match h.get b with
  |some (.cells cs _ _ _ _)=>match A3 cs k7 with
   |true=>match Nat.ble an.globals.size b with
    |true=>Nat.blt b h.n
    |false=>false
   |false=>false
  |_=>false
 |_=>false
theorem abk{x:a8}(h:Ln x=true):∃b g el k lo hi,x=.ret (.slice b 0 17 (.exact 17)) g/\g.get b=some (.cells (k7.map .str) el k lo hi)/\an.globals.size<=b/\b<g.n:=by
 unfold Ln at h
 split at h
 · rename_i b g
   split at h
   · rename_i cs el k lo hi aB
     split at h
     · rename_i ai
       split at h
       · rename_i aT
         exact⟨b,g,el,k,lo,hi,rfl,by rw[aB,RR _ _ ai],Nat.le_of_ble_eq_true aT,by simpa[Nat.blt_eq] using h⟩
       · cases h
     · cases h
   · cases h
 · cases h
theorem abl:Ln (A2 34)=true:=by kernel_rfl
theorem RS(G n:Nat):∀bl:List (List UInt8),oD G n (bl.map .str)=bl.map .str
 |[]=>rfl
 |t::bl=>by simp only[List.map_cons,oD,ln,RS G n bl]
theorem abm(m:Nat)(h:I)(aI:gH h dL=true):∃b g,C (m+1) (.fn 34) [] h=.ret (.slice b 0 17 (.exact 17)) g/\rv g b/\Ext h.n h g/\h.n<=b/\b<g.n:=by
 obtain⟨r,g,el,k,lo,e5,J,ae,aQ,bj⟩:=abk abl
 have ag:Nat.blt r an.globals.size=false:=by
  cases ab:Nat.blt r an.globals.size with
  |false=>rfl
  |true=>rw[Nat.blt_eq] at ab;omega
 have hi:eD 34 [] h=some (ln an.globals.size h.n (.slice r 0 17 (.exact 17)),ks an.globals.size h.n g h (g.n-an.globals.size)):=by
  have aG:uM dL GZ 34 [] h=none:=rfl
  have aE:sx an.globals.size dL Dy 34 [] h=(match gH h dL with
   |true=>match A2 34 with
    |.ret v H=>some (ln an.globals.size h.n v,ks an.globals.size h.n H h (H.n-an.globals.size))
    |_=>none
   |false=>none):=rfl
  simp only[eD,oF,aG,aE,aI,J]
 have aj:ln an.globals.size h.n (.slice r 0 17 (.exact 17))=.slice (r-an.globals.size+h.n) 0 17 (.exact 17):=by simp only[ln,ag]
 rw[aj] at hi
 refine⟨r-an.globals.size+h.n,ks an.globals.size h.n g h (g.n-an.globals.size),by simp only[C,eA,hi],⟨el,k,lo,e5,?_⟩,⟨by rw[pw];omega,λb iZ=>by rw[yX,if_pos iZ]⟩,by omega,by rw[pw];omega⟩
 rw[yX,if_neg (by omega),if_pos (by omega)]
 have e:an.globals.size+(r-an.globals.size+h.n-h.n)=r:=by omega
 rw[e,ae,Option.bind_some]
 simp only[oE,RS]
theorem abn:∀t∈dL,t.g<7:=λt aI=>by
 simp only[dL,List.mem_cons,List.not_mem_nil,or_false] at aI
 rcases aI with rfl|rfl|rfl<;>decide
theorem nT{g:I}(hi:gH h dL=true)(ai:∀b,b<7->g.get b=h.get b):gH g dL=true:=GJ λt aI=>by
 obtain⟨el,aB⟩:=wX (tJ hi t aI)
 exact Ra ((ai t.g (abn t aI)).trans aB)
theorem abo(b:UInt8)(s:List UInt8)(h:I)(aP aY:Nat)
  (H1:eJ 0 (b::s)=some (ax aP))
  (a4:cz aP 128=true)
  (bh:df an 5 21 (ax aP) h=dW.val (aa.int IntKind.i32 (Int.ofNat aY)) h):
  a0 an Tryz.f110 none call [] (az [(0,.str (b::s))] h) (.ret)
   (az [(2,.int .i32 (.ofNat aY)),(3,ad 1)] h):=
 bA [2,3] (cY 2 3 (.v (ax aP)::cY 3 7 [.v (ax aP),.v (.int .i32 (.ofNat aY))])) 16 8 573711413 (jt (by kernel_rfl:(!gb (b::s) [])=true) H1 a4 bh bz)
theorem abp(b:UInt8)(s:List UInt8)(h:I)(aP aY ba:Nat)(aS:I)
  (H1:eJ 0 (b::s)=some (ax aP))
  (a4:cz aP 128=false)
  (bh:call (.fn 132) [.str (b::s)] h=a8.ret (.aF [.int .i32 (.ofNat aY),ad ba]) aS):
  a0 an Tryz.f110 none call [] (az [(0,.str (b::s))] h) (.ret)
   (az [(2,.int .i32 (.ofNat aY)),(3,ad ba)] aS):=
 bA [2,3] (cY 2 3 (.v (ax aP)::cY 3 6 [.c (.aF [.int .i32 (.ofNat aY),ad ba]) aS])) 16 7 35856965 (jt (by kernel_rfl:(!gb (b::s) [])=true) H1 a4 bh bz)
theorem abq(b n:Nat)(s:List UInt8)(h:I)(aP:Nat)
  (H1:cz s.length 1=false)
  (a4:eJ 0 s=some (ax b))
  (bh:Nat.le (Nat.succ b) 256)
  (bx:aC h 4 (0+b*1)=some (ax 241))
  (bW:df an 5 21 (ax b) h=dW.val (aa.int IntKind.i32 (Int.ofNat aP)) h)
  (cA:arith .andNot .i32 (.ofNat aP) (.negSucc 0)=some (.int .i32 (.ofNat 0))):
  a0 an Tryz.f132 none call [] (az [(0,.str s)] h) (.ret)
   (az [(2,.int .i32 (.ofNat 65533)),(3,ad 1)] h):=
 bA [2,3] [.b false,.v (ax b),.v (.ptr 4 (0+b*1)),.v (ax 241),.b true,.v (.int .i32 (.ofNat 241)),.v (.int .i32 (-2147483648)),.v (.int .i32 (-1)),.v (ax b),.v (.int .i32 (.ofNat aP)),.v (.int .i32 (.ofNat 0)),.v (.int .i32 (.ofNat 65533)),.v (.int .i32 (.ofNat 65533))] 16 13 620495948196813 (dN H1 a4 (⟨bh,rfl⟩:Nat.le (Nat.succ b) 256/\aa.ptr 4 (0+b*1)=aa.ptr 4 (0+b*1)) bx (by kernel_rfl:eQ 240 241=true) (by kernel_rfl:df an 5 21 (ax 241) h=dW.val (aa.int IntKind.i32 (Int.ofNat 241)) h) (by kernel_rfl:gv BinOp.shl IntKind.i32 (Int.ofNat 241) (Int.ofNat 31)=some (aa.int IntKind.i32 (Int.negSucc 2147483647))) (by kernel_rfl:gv BinOp.shr IntKind.i32 (Int.negSucc 2147483647) (Int.ofNat 31)=some (aa.int IntKind.i32 (Int.negSucc 0))) bW<|m9 cA (by kernel_rfl:arith BinOp.and IntKind.i32 (Int.ofNat 65533) (Int.negSucc 0)=some (aa.int IntKind.i32 (Int.ofNat 65533))) (by kernel_rfl:arith BinOp.or IntKind.i32 (Int.ofNat 0) (Int.ofNat 65533)=some (aa.int IntKind.i32 (Int.ofNat 65533))) bz)
theorem abr(b x lo hi:Nat)(s:List UInt8)(h:I)(aP aY ba:Nat)(aS:I)
  (H1:cz s.length 1=false)
  (a4:eJ 0 s=some (ax b))
  (bh:Nat.le (Nat.succ b) 256)
  (bx:aC h 4 (0+b*1)=some (ax x))
  (bW:eQ 240 x=false)
  (cA:arith .and .u8 (.ofNat x) (.ofNat 7)=some (ax aP))
  (c2:df an 5 3 (ax aP) h=dW.val (ad aY) h)
  (di:gv .shr .u8 (.ofNat x) (.ofNat 4)=some (ax ba))
  (eE:Nat.le (Nat.succ ba) 16)
  (g3:aJ.loadCells h 5 (0+ba*2) 2=some [ax lo,ax hi])
  (hp:aJ.storeCells (I.push h (aD [ax 0,ax 0] 213)) (I.n h) 0 [ax lo,ax hi]=some aS)
  (hK:cz s.length aY=true):
  a0 an Tryz.f132 none call [] (az [(0,.str s)] h) (.ret)
   (az [(2,.int .i32 (.ofNat 65533)),(3,ad 1)] aS):=
 bA [2,3] [.b false,.v (ax b),.v (.ptr 4 (0+b*1)),.v (ax x),.b false,.v (ax aP),.v (ad aY),.v (ax ba),.v (.ptr 5 (0+ba*2)),.v (.agg [ax lo,ax hi]),.cU (.aF []) aS,.b true] 16 12 38780996791245 (dN H1 a4 (⟨bh,rfl⟩:Nat.le (Nat.succ b) 256/\aa.ptr 4 (0+b*1)=aa.ptr 4 (0+b*1)) bx bW cA c2 di (⟨eE,rfl⟩:Nat.le (Nat.succ ba) 16/\aa.ptr 5 (0+ba*2)=aa.ptr 5 (0+ba*2))<|m9 g3 (⟨by kernel_rfl,hp,rfl⟩:some 2=some 2/\aJ.storeCells (I.push h (b5.cells [ax 0,ax 0] 213 ff.own 0 0)) (I.n h) 0 [ax lo,ax hi]=some aS/\aa.aF []=aa.aF []) hK bz)
theorem abt(b x lo hi:Nat)(s:List UInt8)(h:I)(aP aY ba:Nat)(aS:I)(cd db:Nat)
  (H1:cz s.length 1=false)
  (a4:eJ 0 s=some (ax b))
  (bh:Nat.le (Nat.succ b) 256)
  (bx:aC h 4 (0+b*1)=some (ax x))
  (bW:eQ 240 x=false)
  (cA:arith .and .u8 (.ofNat x) (.ofNat 7)=some (ax aP))
  (c2:df an 5 3 (ax aP) h=dW.val (ad aY) h)
  (di:gv .shr .u8 (.ofNat x) (.ofNat 4)=some (ax ba))
  (eE:Nat.le (Nat.succ ba) 16)
  (g3:aJ.loadCells h 5 (0+ba*2) 2=some [ax lo,ax hi])
  (hp:aJ.storeCells (I.push h (aD [ax 0,ax 0] 213)) (I.n h) 0 [ax lo,ax hi]=some aS)
  (hK:cz s.length aY=false)
  (iJ:eJ 1 s=some (ax cd))
  (iK:aC aS (I.n h) (0+0)=some (ax db))
  (j6:cz cd db=true):
  a0 an Tryz.f132 none call [] (az [(0,.str s)] h) (.ret)
   (az [(2,.int .i32 (.ofNat 65533)),(3,ad 1)] aS):=
 bA [2,3] (.b false::.v (ax b)::.v (.ptr 4 (0+b*1))::.v (ax x)::.b false::.v (ax aP)::.v (ad aY)::.v (ax ba)::.v (.ptr 5 (0+ba*2))::.v (.agg [ax lo,ax hi])::.cU (.aF []) aS::.b false::.v (ax cd)::.v (ax db)::cY 6 63 []) 256 20 0x2030405060708090a0b0c0d0e0f101010101000 (dN H1 a4 (⟨bh,rfl⟩:Nat.le (Nat.succ b) 256/\aa.ptr 4 (0+b*1)=aa.ptr 4 (0+b*1)) bx bW cA c2 di (⟨eE,rfl⟩:Nat.le (Nat.succ ba) 16/\aa.ptr 5 (0+ba*2)=aa.ptr 5 (0+ba*2))<|qh g3 (⟨by kernel_rfl,hp,rfl⟩:some 2=some 2/\aJ.storeCells (I.push h (b5.cells [ax 0,ax 0] 213 ff.own 0 0)) (I.n h) 0 [ax lo,ax hi]=some aS/\aa.aF []=aa.aF []) hK iJ iK j6 bz)
theorem abu(b x lo hi:Nat)(s:List UInt8)(h:I)(aP aY ba:Nat)(aS:I)(cd db dM:Nat)
  (H1:cz s.length 1=false)
  (a4:eJ 0 s=some (ax b))
  (bh:Nat.le (Nat.succ b) 256)
  (bx:aC h 4 (0+b*1)=some (ax x))
  (bW:eQ 240 x=false)
  (cA:arith .and .u8 (.ofNat x) (.ofNat 7)=some (ax aP))
  (c2:df an 5 3 (ax aP) h=dW.val (ad aY) h)
  (di:gv .shr .u8 (.ofNat x) (.ofNat 4)=some (ax ba))
  (eE:Nat.le (Nat.succ ba) 16)
  (g3:aJ.loadCells h 5 (0+ba*2) 2=some [ax lo,ax hi])
  (hp:aJ.storeCells (I.push h (aD [ax 0,ax 0] 213)) (I.n h) 0 [ax lo,ax hi]=some aS)
  (hK:cz s.length aY=false)
  (iJ:eJ 1 s=some (ax cd))
  (iK:aC aS (I.n h) (0+0)=some (ax db))
  (j6:cz cd db=false)
  (kS:aC aS (I.n h) (0+1)=some (ax dM))
  (mb:cz dM cd=true):
  a0 an Tryz.f132 none call [] (az [(0,.str s)] h) (.ret)
   (az [(2,.int .i32 (.ofNat 65533)),(3,ad 1)] aS):=
 bA [2,3] (.b false::.v (ax b)::.v (.ptr 4 (0+b*1))::.v (ax x)::.b false::.v (ax aP)::.v (ad aY)::.v (ax ba)::.v (.ptr 5 (0+ba*2))::.v (.agg [ax lo,ax hi])::.cU (.aF []) aS::.b false::.v (ax cd)::.v (ax db)::cY 2 0 (.v (ax dM)::cY 4 1 [])) 256 21 0x2030405060708090a0b0c0d0e0f10101110101012 (dN H1 a4 (⟨bh,rfl⟩:Nat.le (Nat.succ b) 256/\aa.ptr 4 (0+b*1)=aa.ptr 4 (0+b*1)) bx bW cA c2 di (⟨eE,rfl⟩:Nat.le (Nat.succ ba) 16/\aa.ptr 5 (0+ba*2)=aa.ptr 5 (0+ba*2))<|pq g3 (⟨by kernel_rfl,hp,rfl⟩:some 2=some 2/\aJ.storeCells (I.push h (b5.cells [ax 0,ax 0] 213 ff.own 0 0)) (I.n h) 0 [ax lo,ax hi]=some aS/\aa.aF []=aa.aF []) hK iJ iK j6 kS mb bz)
theorem abv(b x lo hi:Nat)(s:List UInt8)(h:I)(aP aY ba:Nat)(aS:I)(cd db dM eu fH hV hW iT j7:Nat)
  (H1:cz s.length 1=false)
  (a4:eJ 0 s=some (ax b))
  (bh:Nat.le (Nat.succ b) 256)
  (bx:aC h 4 (0+b*1)=some (ax x))
  (bW:eQ 240 x=false)
  (cA:arith .and .u8 (.ofNat x) (.ofNat 7)=some (ax aP))
  (c2:df an 5 3 (ax aP) h=dW.val (ad aY) h)
  (di:gv .shr .u8 (.ofNat x) (.ofNat 4)=some (ax ba))
  (eE:Nat.le (Nat.succ ba) 16)
  (g3:aJ.loadCells h 5 (0+ba*2) 2=some [ax lo,ax hi])
  (hp:aJ.storeCells (I.push h (aD [ax 0,ax 0] 213)) (I.n h) 0 [ax lo,ax hi]=some aS)
  (hK:cz s.length aY=false)
  (iJ:eJ 1 s=some (ax cd))
  (iK:aC aS (I.n h) (0+0)=some (ax db))
  (j6:cz cd db=false)
  (kS:aC aS (I.n h) (0+1)=some (ax dM))
  (mb:cz dM cd=false)
  (nb:eQ aY 2=true)
  (nc:arith .and .u8 (.ofNat b) (.ofNat 31)=some (ax eu))
  (nd:df an 5 21 (ax eu) aS=dW.val (aa.int IntKind.i32 (Int.ofNat fH)) aS)
  (oH:gv .shl .i32 (.ofNat fH) (.ofNat 6)=some (.int .i32 (.ofNat hV)))
  (qw:arith .and .u8 (.ofNat cd) (.ofNat 63)=some (ax hW))
  (uS:df an 5 21 (ax hW) aS=dW.val (aa.int IntKind.i32 (Int.ofNat iT)) aS)
  (uT:arith .or .i32 (.ofNat hV) (.ofNat iT)=some (.int .i32 (.ofNat j7))):
  a0 an Tryz.f132 none call [] (az [(0,.str s)] h) (.ret)
   (az [(2,.int .i32 (.ofNat j7)),(3,ad 2)] aS):=
 bA [2,3] (.b false::.v (ax b)::.v (.ptr 4 (0+b*1))::.v (ax x)::.b false::.v (ax aP)::.v (ad aY)::.v (ax ba)::.v (.ptr 5 (0+ba*2))::.v (.agg [ax lo,ax hi])::.cU (.aF []) aS::.b false::.v (ax cd)::.v (ax db)::cY 2 0 (.v (ax dM)::cY 5 1 [.v (ax eu),.v (.int .i32 (.ofNat fH)),.v (.int .i32 (.ofNat hV)),.v (ax hW),.v (.int .i32 (.ofNat iT)),.v (.int .i32 (.ofNat j7))])) 256 28 0x2030405060708090a0b0c0d0e0f1010111010101213141516171819 (dN H1 a4 (⟨bh,rfl⟩:Nat.le (Nat.succ b) 256/\aa.ptr 4 (0+b*1)=aa.ptr 4 (0+b*1)) bx bW cA c2 di (⟨eE,rfl⟩:Nat.le (Nat.succ ba) 16/\aa.ptr 5 (0+ba*2)=aa.ptr 5 (0+ba*2))<|dN g3 (⟨by kernel_rfl,hp,rfl⟩:some 2=some 2/\aJ.storeCells (I.push h (b5.cells [ax 0,ax 0] 213 ff.own 0 0)) (I.n h) 0 [ax lo,ax hi]=some aS/\aa.aF []=aa.aF []) hK iJ iK j6 kS mb nb<|qh nc nd oH qw uS uT bz)
theorem abw(b x lo hi:Nat)(s:List UInt8)(h:I)(aP aY ba:Nat)(aS:I)(cd db dM eu:Nat)
  (H1:cz s.length 1=false)
  (a4:eJ 0 s=some (ax b))
  (bh:Nat.le (Nat.succ b) 256)
  (bx:aC h 4 (0+b*1)=some (ax x))
  (bW:eQ 240 x=false)
  (cA:arith .and .u8 (.ofNat x) (.ofNat 7)=some (ax aP))
  (c2:df an 5 3 (ax aP) h=dW.val (ad aY) h)
  (di:gv .shr .u8 (.ofNat x) (.ofNat 4)=some (ax ba))
  (eE:Nat.le (Nat.succ ba) 16)
  (g3:aJ.loadCells h 5 (0+ba*2) 2=some [ax lo,ax hi])
  (hp:aJ.storeCells (I.push h (aD [ax 0,ax 0] 213)) (I.n h) 0 [ax lo,ax hi]=some aS)
  (hK:cz s.length aY=false)
  (iJ:eJ 1 s=some (ax cd))
  (iK:aC aS (I.n h) (0+0)=some (ax db))
  (j6:cz cd db=false)
  (kS:aC aS (I.n h) (0+1)=some (ax dM))
  (mb:cz dM cd=false)
  (nb:eQ aY 2=false)
  (nc:eJ 2 s=some (ax eu))
  (nd:cz eu 128=true):
  a0 an Tryz.f132 none call [] (az [(0,.str s)] h) (.ret)
   (az [(2,.int .i32 (.ofNat 65533)),(3,ad 1)] aS):=
 bA [2,3] (.b false::.v (ax b)::.v (.ptr 4 (0+b*1))::.v (ax x)::.b false::.v (ax aP)::.v (ad aY)::.v (ax ba)::.v (.ptr 5 (0+ba*2))::.v (.agg [ax lo,ax hi])::.cU (.aF []) aS::.b false::.v (ax cd)::.v (ax db)::cY 2 0 (.v (ax dM)::cY 5 0 (.v (ax eu)::cY 4 15 []))) 256 27 0x2030405060708090a0b0c0d0e0f10101110101012131415151500 (dN H1 a4 (⟨bh,rfl⟩:Nat.le (Nat.succ b) 256/\aa.ptr 4 (0+b*1)=aa.ptr 4 (0+b*1)) bx bW cA c2 di (⟨eE,rfl⟩:Nat.le (Nat.succ ba) 16/\aa.ptr 5 (0+ba*2)=aa.ptr 5 (0+ba*2))<|dN g3 (⟨by kernel_rfl,hp,rfl⟩:some 2=some 2/\aJ.storeCells (I.push h (b5.cells [ax 0,ax 0] 213 ff.own 0 0)) (I.n h) 0 [ax lo,ax hi]=some aS/\aa.aF []=aa.aF []) hK iJ iK j6 kS mb nb<|kP nc nd bz)
theorem abx(b x lo hi:Nat)(s:List UInt8)(h:I)(aP aY ba:Nat)(aS:I)(cd db dM eu:Nat)
  (H1:cz s.length 1=false)
  (a4:eJ 0 s=some (ax b))
  (bh:Nat.le (Nat.succ b) 256)
  (bx:aC h 4 (0+b*1)=some (ax x))
  (bW:eQ 240 x=false)
  (cA:arith .and .u8 (.ofNat x) (.ofNat 7)=some (ax aP))
  (c2:df an 5 3 (ax aP) h=dW.val (ad aY) h)
  (di:gv .shr .u8 (.ofNat x) (.ofNat 4)=some (ax ba))
  (eE:Nat.le (Nat.succ ba) 16)
  (g3:aJ.loadCells h 5 (0+ba*2) 2=some [ax lo,ax hi])
  (hp:aJ.storeCells (I.push h (aD [ax 0,ax 0] 213)) (I.n h) 0 [ax lo,ax hi]=some aS)
  (hK:cz s.length aY=false)
  (iJ:eJ 1 s=some (ax cd))
  (iK:aC aS (I.n h) (0+0)=some (ax db))
  (j6:cz cd db=false)
  (kS:aC aS (I.n h) (0+1)=some (ax dM))
  (mb:cz dM cd=false)
  (nb:eQ aY 2=false)
  (nc:eJ 2 s=some (ax eu))
  (nd:cz eu 128=false)
  (oH:cz 191 eu=true):
  a0 an Tryz.f132 none call [] (az [(0,.str s)] h) (.ret)
   (az [(2,.int .i32 (.ofNat 65533)),(3,ad 1)] aS):=
 bA [2,3] (.b false::.v (ax b)::.v (.ptr 4 (0+b*1))::.v (ax x)::.b false::.v (ax aP)::.v (ad aY)::.v (ax ba)::.v (.ptr 5 (0+ba*2))::.v (.agg [ax lo,ax hi])::.cU (.aF []) aS::.b false::.v (ax cd)::.v (ax db)::cY 2 0 (.v (ax dM)::cY 5 0 (.v (ax eu)::cY 4 1 []))) 256 27 0x2030405060708090a0b0c0d0e0f10101110101012131415151516 (dN H1 a4 (⟨bh,rfl⟩:Nat.le (Nat.succ b) 256/\aa.ptr 4 (0+b*1)=aa.ptr 4 (0+b*1)) bx bW cA c2 di (⟨eE,rfl⟩:Nat.le (Nat.succ ba) 16/\aa.ptr 5 (0+ba*2)=aa.ptr 5 (0+ba*2))<|dN g3 (⟨by kernel_rfl,hp,rfl⟩:some 2=some 2/\aJ.storeCells (I.push h (b5.cells [ax 0,ax 0] 213 ff.own 0 0)) (I.n h) 0 [ax lo,ax hi]=some aS/\aa.aF []=aa.aF []) hK iJ iK j6 kS mb nb<|m9 nc nd oH bz)
theorem aby(b x lo hi:Nat)(s:List UInt8)(h:I)(aP aY ba:Nat)(aS:I)(cd db dM eu fH hV hW iT j7 lr nU nf y4 y5:Nat)
  (H1:cz s.length 1=false)
  (a4:eJ 0 s=some (ax b))
  (bh:Nat.le (Nat.succ b) 256)
  (bx:aC h 4 (0+b*1)=some (ax x))
  (bW:eQ 240 x=false)
  (cA:arith .and .u8 (.ofNat x) (.ofNat 7)=some (ax aP))
  (c2:df an 5 3 (ax aP) h=dW.val (ad aY) h)
  (di:gv .shr .u8 (.ofNat x) (.ofNat 4)=some (ax ba))
  (eE:Nat.le (Nat.succ ba) 16)
  (g3:aJ.loadCells h 5 (0+ba*2) 2=some [ax lo,ax hi])
  (hp:aJ.storeCells (I.push h (aD [ax 0,ax 0] 213)) (I.n h) 0 [ax lo,ax hi]=some aS)
  (hK:cz s.length aY=false)
  (iJ:eJ 1 s=some (ax cd))
  (iK:aC aS (I.n h) (0+0)=some (ax db))
  (j6:cz cd db=false)
  (kS:aC aS (I.n h) (0+1)=some (ax dM))
  (mb:cz dM cd=false)
  (nb:eQ aY 2=false)
  (nc:eJ 2 s=some (ax eu))
  (nd:cz eu 128=false)
  (oH:cz 191 eu=false)
  (qw:eQ aY 3=true)
  (uS:arith .and .u8 (.ofNat b) (.ofNat 15)=some (ax fH))
  (uT:df an 5 21 (ax fH) aS=dW.val (aa.int IntKind.i32 (Int.ofNat hV)) aS)
  (Dz:gv .shl .i32 (.ofNat hV) (.ofNat 12)=some (.int .i32 (.ofNat hW)))
  (Lo:arith .and .u8 (.ofNat cd) (.ofNat 63)=some (ax iT))
  (Lp:df an 5 21 (ax iT) aS=dW.val (aa.int IntKind.i32 (Int.ofNat j7)) aS)
  (Lq:gv .shl .i32 (.ofNat j7) (.ofNat 6)=some (.int .i32 (.ofNat lr)))
  (Lr:arith .or .i32 (.ofNat hW) (.ofNat lr)=some (.int .i32 (.ofNat nU)))
  (Ls:arith .and .u8 (.ofNat eu) (.ofNat 63)=some (ax nf))
  (Lt:df an 5 21 (ax nf) aS=dW.val (aa.int IntKind.i32 (Int.ofNat y4)) aS)
  (Lu:arith .or .i32 (.ofNat nU) (.ofNat y4)=some (.int .i32 (.ofNat y5))):
  a0 an Tryz.f132 none call [] (az [(0,.str s)] h) (.ret)
   (az [(2,.int .i32 (.ofNat y5)),(3,ad 3)] aS):=
 bA [2,3] (.b false::.v (ax b)::.v (.ptr 4 (0+b*1))::.v (ax x)::.b false::.v (ax aP)::.v (ad aY)::.v (ax ba)::.v (.ptr 5 (0+ba*2))::.v (.agg [ax lo,ax hi])::.cU (.aF []) aS::.b false::.v (ax cd)::.v (ax db)::cY 2 0 (.v (ax dM)::cY 5 0 (.v (ax eu)::cY 5 1 [.v (ax fH),.v (.int .i32 (.ofNat hV)),.v (.int .i32 (.ofNat hW)),.v (ax iT),.v (.int .i32 (.ofNat j7)),.v (.int .i32 (.ofNat lr)),.v (.int .i32 (.ofNat nU)),.v (ax nf),.v (.int .i32 (.ofNat y4)),.v (.int .i32 (.ofNat y5))]))) 256 38 0x2030405060708090a0b0c0d0e0f101011101010121314151515161718191a1b1c1d1e1f2021 (dN H1 a4 (⟨bh,rfl⟩:Nat.le (Nat.succ b) 256/\aa.ptr 4 (0+b*1)=aa.ptr 4 (0+b*1)) bx bW cA c2 di (⟨eE,rfl⟩:Nat.le (Nat.succ ba) 16/\aa.ptr 5 (0+ba*2)=aa.ptr 5 (0+ba*2))<|dN g3 (⟨by kernel_rfl,hp,rfl⟩:some 2=some 2/\aJ.storeCells (I.push h (b5.cells [ax 0,ax 0] 213 ff.own 0 0)) (I.n h) 0 [ax lo,ax hi]=some aS/\aa.aF []=aa.aF []) hK iJ iK j6 kS mb nb<|dN nc nd oH qw uS uT Dz Lo Lp<|nM Lq Lr Ls Lt Lu bz)
theorem abz(b x lo hi:Nat)(s:List UInt8)(h:I)(aP aY ba:Nat)(aS:I)(cd db dM eu fH:Nat)
  (H1:cz s.length 1=false)
  (a4:eJ 0 s=some (ax b))
  (bh:Nat.le (Nat.succ b) 256)
  (bx:aC h 4 (0+b*1)=some (ax x))
  (bW:eQ 240 x=false)
  (cA:arith .and .u8 (.ofNat x) (.ofNat 7)=some (ax aP))
  (c2:df an 5 3 (ax aP) h=dW.val (ad aY) h)
  (di:gv .shr .u8 (.ofNat x) (.ofNat 4)=some (ax ba))
  (eE:Nat.le (Nat.succ ba) 16)
  (g3:aJ.loadCells h 5 (0+ba*2) 2=some [ax lo,ax hi])
  (hp:aJ.storeCells (I.push h (aD [ax 0,ax 0] 213)) (I.n h) 0 [ax lo,ax hi]=some aS)
  (hK:cz s.length aY=false)
  (iJ:eJ 1 s=some (ax cd))
  (iK:aC aS (I.n h) (0+0)=some (ax db))
  (j6:cz cd db=false)
  (kS:aC aS (I.n h) (0+1)=some (ax dM))
  (mb:cz dM cd=false)
  (nb:eQ aY 2=false)
  (nc:eJ 2 s=some (ax eu))
  (nd:cz eu 128=false)
  (oH:cz 191 eu=false)
  (qw:eQ aY 3=false)
  (uS:eJ 3 s=some (ax fH))
  (uT:cz fH 128=true):
  a0 an Tryz.f132 none call [] (az [(0,.str s)] h) (.ret)
   (az [(2,.int .i32 (.ofNat 65533)),(3,ad 1)] aS):=
 bA [2,3] (.b false::.v (ax b)::.v (.ptr 4 (0+b*1))::.v (ax x)::.b false::.v (ax aP)::.v (ad aY)::.v (ax ba)::.v (.ptr 5 (0+ba*2))::.v (.agg [ax lo,ax hi])::.cU (.aF []) aS::.b false::.v (ax cd)::.v (ax db)::cY 2 0 (.v (ax dM)::cY 5 0 (.v (ax eu)::cY 5 0 (.v (ax fH)::cY 4 15 [])))) 256 33 0x2030405060708090a0b0c0d0e0f10101110101012131415151516171819191900 (dN H1 a4 (⟨bh,rfl⟩:Nat.le (Nat.succ b) 256/\aa.ptr 4 (0+b*1)=aa.ptr 4 (0+b*1)) bx bW cA c2 di (⟨eE,rfl⟩:Nat.le (Nat.succ ba) 16/\aa.ptr 5 (0+ba*2)=aa.ptr 5 (0+ba*2))<|dN g3 (⟨by kernel_rfl,hp,rfl⟩:some 2=some 2/\aJ.storeCells (I.push h (b5.cells [ax 0,ax 0] 213 ff.own 0 0)) (I.n h) 0 [ax lo,ax hi]=some aS/\aa.aF []=aa.aF []) hK iJ iK j6 kS mb nb<|qh nc nd oH qw uS uT bz)
theorem abA(b x lo hi:Nat)(s:List UInt8)(h:I)(aP aY ba:Nat)(aS:I)(cd db dM eu fH:Nat)
  (H1:cz s.length 1=false)
  (a4:eJ 0 s=some (ax b))
  (bh:Nat.le (Nat.succ b) 256)
  (bx:aC h 4 (0+b*1)=some (ax x))
  (bW:eQ 240 x=false)
  (cA:arith .and .u8 (.ofNat x) (.ofNat 7)=some (ax aP))
  (c2:df an 5 3 (ax aP) h=dW.val (ad aY) h)
  (di:gv .shr .u8 (.ofNat x) (.ofNat 4)=some (ax ba))
  (eE:Nat.le (Nat.succ ba) 16)
  (g3:aJ.loadCells h 5 (0+ba*2) 2=some [ax lo,ax hi])
  (hp:aJ.storeCells (I.push h (aD [ax 0,ax 0] 213)) (I.n h) 0 [ax lo,ax hi]=some aS)
  (hK:cz s.length aY=false)
  (iJ:eJ 1 s=some (ax cd))
  (iK:aC aS (I.n h) (0+0)=some (ax db))
  (j6:cz cd db=false)
  (kS:aC aS (I.n h) (0+1)=some (ax dM))
  (mb:cz dM cd=false)
  (nb:eQ aY 2=false)
  (nc:eJ 2 s=some (ax eu))
  (nd:cz eu 128=false)
  (oH:cz 191 eu=false)
  (qw:eQ aY 3=false)
  (uS:eJ 3 s=some (ax fH))
  (uT:cz fH 128=false)
  (Dz:cz 191 fH=true):
  a0 an Tryz.f132 none call [] (az [(0,.str s)] h) (.ret)
   (az [(2,.int .i32 (.ofNat 65533)),(3,ad 1)] aS):=
 bA [2,3] (.b false::.v (ax b)::.v (.ptr 4 (0+b*1))::.v (ax x)::.b false::.v (ax aP)::.v (ad aY)::.v (ax ba)::.v (.ptr 5 (0+ba*2))::.v (.agg [ax lo,ax hi])::.cU (.aF []) aS::.b false::.v (ax cd)::.v (ax db)::cY 2 0 (.v (ax dM)::cY 5 0 (.v (ax eu)::cY 5 0 (.v (ax fH)::cY 4 1 [])))) 256 33 0x2030405060708090a0b0c0d0e0f1010111010101213141515151617181919191a (dN H1 a4 (⟨bh,rfl⟩:Nat.le (Nat.succ b) 256/\aa.ptr 4 (0+b*1)=aa.ptr 4 (0+b*1)) bx bW cA c2 di (⟨eE,rfl⟩:Nat.le (Nat.succ ba) 16/\aa.ptr 5 (0+ba*2)=aa.ptr 5 (0+ba*2))<|dN g3 (⟨by kernel_rfl,hp,rfl⟩:some 2=some 2/\aJ.storeCells (I.push h (b5.cells [ax 0,ax 0] 213 ff.own 0 0)) (I.n h) 0 [ax lo,ax hi]=some aS/\aa.aF []=aa.aF []) hK iJ iK j6 kS mb nb<|AJ nc nd oH qw uS uT Dz bz)
theorem abB(b x lo hi:Nat)(s:List UInt8)(h:I)(aP aY ba:Nat)(aS:I)(cd db dM eu fH hV hW iT j7 lr nU nf y4 y5 Lv Lw Lx Ly Lz:Nat)
  (H1:cz s.length 1=false)
  (a4:eJ 0 s=some (ax b))
  (bh:Nat.le (Nat.succ b) 256)
  (bx:aC h 4 (0+b*1)=some (ax x))
  (bW:eQ 240 x=false)
  (cA:arith .and .u8 (.ofNat x) (.ofNat 7)=some (ax aP))
  (c2:df an 5 3 (ax aP) h=dW.val (ad aY) h)
  (di:gv .shr .u8 (.ofNat x) (.ofNat 4)=some (ax ba))
  (eE:Nat.le (Nat.succ ba) 16)
  (g3:aJ.loadCells h 5 (0+ba*2) 2=some [ax lo,ax hi])
  (hp:aJ.storeCells (I.push h (aD [ax 0,ax 0] 213)) (I.n h) 0 [ax lo,ax hi]=some aS)
  (hK:cz s.length aY=false)
  (iJ:eJ 1 s=some (ax cd))
  (iK:aC aS (I.n h) (0+0)=some (ax db))
  (j6:cz cd db=false)
  (kS:aC aS (I.n h) (0+1)=some (ax dM))
  (mb:cz dM cd=false)
  (nb:eQ aY 2=false)
  (nc:eJ 2 s=some (ax eu))
  (nd:cz eu 128=false)
  (oH:cz 191 eu=false)
  (qw:eQ aY 3=false)
  (uS:eJ 3 s=some (ax fH))
  (uT:cz fH 128=false)
  (Dz:cz 191 fH=false)
  (Lo:arith .and .u8 (.ofNat b) (.ofNat 7)=some (ax hV))
  (Lp:df an 5 21 (ax hV) aS=dW.val (aa.int IntKind.i32 (Int.ofNat hW)) aS)
  (Lq:gv .shl .i32 (.ofNat hW) (.ofNat 18)=some (.int .i32 (.ofNat iT)))
  (Lr:arith .and .u8 (.ofNat cd) (.ofNat 63)=some (ax j7))
  (Ls:df an 5 21 (ax j7) aS=dW.val (aa.int IntKind.i32 (Int.ofNat lr)) aS)
  (Lt:gv .shl .i32 (.ofNat lr) (.ofNat 12)=some (.int .i32 (.ofNat nU)))
  (Lu:arith .or .i32 (.ofNat iT) (.ofNat nU)=some (.int .i32 (.ofNat nf)))
  (abC:arith .and .u8 (.ofNat eu) (.ofNat 63)=some (ax y4))
  (abD:df an 5 21 (ax y4) aS=dW.val (aa.int IntKind.i32 (Int.ofNat y5)) aS)
  (abE:gv .shl .i32 (.ofNat y5) (.ofNat 6)=some (.int .i32 (.ofNat Lv)))
  (abF:arith .or .i32 (.ofNat nf) (.ofNat Lv)=some (.int .i32 (.ofNat Lw)))
  (abG:arith .and .u8 (.ofNat fH) (.ofNat 63)=some (ax Lx))
  (abH:df an 5 21 (ax Lx) aS=dW.val (aa.int IntKind.i32 (Int.ofNat Ly)) aS)
  (abI:arith .or .i32 (.ofNat Lw) (.ofNat Ly)=some (.int .i32 (.ofNat Lz))):
  a0 an Tryz.f132 none call [] (az [(0,.str s)] h) (.ret)
   (az [(2,.int .i32 (.ofNat Lz)),(3,ad 4)] aS):=
 bA [2,3] (.b false::.v (ax b)::.v (.ptr 4 (0+b*1))::.v (ax x)::.b false::.v (ax aP)::.v (ad aY)::.v (ax ba)::.v (.ptr 5 (0+ba*2))::.v (.agg [ax lo,ax hi])::.cU (.aF []) aS::.b false::.v (ax cd)::.v (ax db)::cY 2 0 (.v (ax dM)::cY 5 0 (.v (ax eu)::cY 5 0 (.v (ax fH)::cY 4 0 [.v (ax hV),.v (.int .i32 (.ofNat hW)),.v (.int .i32 (.ofNat iT)),.v (ax j7),.v (.int .i32 (.ofNat lr)),.v (.int .i32 (.ofNat nU)),.v (.int .i32 (.ofNat nf)),.v (ax y4),.v (.int .i32 (.ofNat y5)),.v (.int .i32 (.ofNat Lv)),.v (.int .i32 (.ofNat Lw)),.v (ax Lx),.v (.int .i32 (.ofNat Ly)),.v (.int .i32 (.ofNat Lz))])))) 256 47 0x2030405060708090a0b0c0d0e0f1010111010101213141515151617181919191a1b1c1d1e1f202122232425262728 (dN H1 a4 (⟨bh,rfl⟩:Nat.le (Nat.succ b) 256/\aa.ptr 4 (0+b*1)=aa.ptr 4 (0+b*1)) bx bW cA c2 di (⟨eE,rfl⟩:Nat.le (Nat.succ ba) 16/\aa.ptr 5 (0+ba*2)=aa.ptr 5 (0+ba*2))<|dN g3 (⟨by kernel_rfl,hp,rfl⟩:some 2=some 2/\aJ.storeCells (I.push h (b5.cells [ax 0,ax 0] 213 ff.own 0 0)) (I.n h) 0 [ax lo,ax hi]=some aS/\aa.aF []=aa.aF []) hK iJ iK j6 kS mb nb<|dN nc nd oH qw uS uT Dz Lo Lp<|dN Lq Lr Ls Lt Lu abC abD abE abF<|m9 abG abH abI bz)
theorem abJ(b:Nat)(h aS:I)
  (H1:aC h b (0+0)=some .au)
  (a4:df an 173 116 (aa.ptr b 0) h=dW.val (aa.ptr b 0) h)
  (bh:call (.fn 140) [af b] h=a8.ret (af b) h)
  (bx:df an 116 173 (aa.ptr b 0) h=dW.val (aa.ptr b 0) h)
  (bW:aJ.storeCells h b (0+0) [af b]=some aS):
  a0 an Tryz.f133 none call [] (az [(0,af b)] h) (.nrm)
   (az [] aS):=
 bA [] [.v .au,.v (.bool true),.b true,.v (af b),.c (af b) h,.v (af b),.cU (.aF []) aS] 16 7 36717927 (qh H1 (by kernel_rfl:hs an h BinOp.eql 173 (Operand.tmp 5) (Operand.const (Value.pointer none)) aa.au aa.au=some (aa.bool true)) a4 bh bx (⟨by kernel_rfl,bW,rfl⟩:some 1=some 1/\aJ.storeCells h b (0+0) [aa.ptr b 0]=some aS/\aa.aF []=aa.aF []) bz)
theorem abK(b:Nat)(h:I)(dm:Bool)
  (H1:aC h b (0+0)=some (af b))
  (a4:hs an h BinOp.neq 173 (Operand.tmp 17) (Operand.tmp 18) (aa.ptr b 0) (aa.ptr b 0)=some (aa.bool dm))
  (bh:dm=false):
  a0 an Tryz.f133 none call [] (az [(0,af b)] h) (.nrm)
   (az [] h):=
 bA [] [.v (af b),.v (.bool false),.b false,.v (af b),.v (.bool dm),.b false] 16 6 2298437 (jt H1 (by kernel_rfl:hs an h BinOp.eql 173 (Operand.tmp 5) (Operand.const (Value.pointer none)) (aa.ptr b 0) aa.au=some (aa.bool false)) a4 bh bz)
theorem bws(b c m:Nat)(s:List UInt8)(v:aa)(h ae aS cV:I)
  (H1:call (.fn 133) [af b] h=a8.ret (.aF []) aS)
  (a4:aC aS b (0+1)=some v)
  (bh:fi an aS 44 (some 9) v (aa.str s)=some (aa.slice c 0 m (dn.aX 1),ae))
  (bx:aJ.storeCells ae b (0+1) [.slice c 0 m (.aX 1)]=some cV):
  a0 an Tryz.f111 none call [] (az [(0,af b),(1,.str s)] h) (.ret)
   (az [(4,ad s.length),(5,.c3)] cV):=
 bA [4,5] [.c (.aF []) aS,.v v,.cU (.slice c 0 m (.aX 1)) ae,.cU (.aF []) cV] 16 4 9029 (jt H1 a4 bh (⟨by kernel_rfl,bx,rfl⟩:some 1=some 1/\aJ.storeCells ae b (0+1) [aa.slice c 0 m (dn.aX 1)]=some cV/\aa.aF []=aa.aF []) bz)
theorem abL(b:Nat)(s:List UInt8)(v:aa)(h ae aS cV:I)
  (H1:call (.fn 133) [af b] h=a8.ret (.aF []) aS)
  (a4:aC aS b (0+1)=some v)
  (bh:fi an aS 44 (some 9) v (aa.str s)=some (aa.ao,ae))
  (bx:aJ.storeCells ae b (0+1) [.ao]=some cV):
  a0 an Tryz.f111 none call [] (az [(0,af b),(1,.str s)] h) (.ret)
   (az [(4,ad s.length),(5,.c3)] cV):=
 bA [4,5] [.c (.aF []) aS,.v v,.cU .ao ae,.cU (.aF []) cV] 16 4 9029 (jt H1 a4 bh (⟨by kernel_rfl,bx,rfl⟩:some 1=some 1/\aJ.storeCells ae b (0+1) [aa.ao]=some cV/\aa.aF []=aa.aF []) bz)
theorem abM(b c m:Nat)(h:I)(bS:List UInt8)(aS:I)
  (H1:aC (I.room h 12) b (0+1)=some (.slice c 0 m (.aX 1)))
  (a4:kX an Builtin.unsafeSliceData (Array.mk [44]) [.slice c 0 m (.aX 1)] (I.room h 12)=dW.val (af c) (I.room h 12))
  (bh:um an (I.room h 12) 197 (aa.ptr c 0) (ad m)=some (aa.str bS,aS)):
  a0 an Tryz.f112 none call [] (az [(0,af b)] h) (.ret)
   (az [(2,.str bS)] aS):=
 bA [2] [.v (.slice c 0 m (.aX 1)),.v (af c),.v (.slice c 0 m (.aX 1)),.cU (.str bS) aS] 16 26 0x232456567892a356567892bcde (dN H1 a4 bh (b4 (af b)) (ck (af b)) (b4 (.ptr b (0+1))) (ck (.ptr b (0+1))) (b4 (.slice c 0 m (dn.aX 1))) (b4 (af c))<|jt (b4 (ad m)) (by kernel_rfl:o2 an (I.room h 12) 44 (aa.slice c 0 m (dn.aX 1))=some (ad m)) (b4 (.str bS)) (ck (.str bS)) bz)
theorem abN(b:Nat)(h:I)(bS:List UInt8)(aS:I)
  (H1:aC (I.room h 12) b (0+1)=some .ao)
  (a4:um an (I.room h 12) 197 aa.au (ad 0)=some (aa.str bS,aS)):
  a0 an Tryz.f112 none call [] (az [(0,af b)] h) (.ret)
   (az [(2,.str bS)] aS):=
 bA [2] [.v .ao,.v .au,.v .ao,.cU (.str bS) aS] 16 26 0x232456567892a356567892bcde (dN H1 (by kernel_rfl:kX an Builtin.unsafeSliceData (Array.mk [44]) [aa.ao] (I.room h 12)=dW.val aa.au (I.room h 12)) a4 (b4 (af b)) (ck (af b)) (b4 (.ptr b (0+1))) (ck (.ptr b (0+1))) (b4 .ao) (b4 .au)<|jt (b4 (ad 0)) (by kernel_rfl:o2 an (I.room h 12) 44 aa.ao=some (ad 0)) (b4 (.str bS)) (ck (.str bS)) bz)
theorem abO(b c m r:Nat)(h g aS cV:I)(aP aY ba:Nat)(uU:dn)(cd:Nat)
  (H1:call (.fn 133) [af b] h=a8.ret (.aF []) aS)
  (a4:aC aS b (0+1)=some .ao)
  (bh:call (.fn 134) [.ao,.int .i32 (.ofNat r)] aS=a8.ret (.slice c 0 m (.aX 1)) g)
  (bx:aJ.storeCells g b (0+1) [.slice c 0 m (.aX 1)]=some cV)
  (bW:aC cV b (0+1)=some (.slice aP aY ba uU))
  (cA:arith .sub .i64 (.ofNat ba) (.ofNat 0)=some (ad cd)):
  a0 an Tryz.f113 none call [] (az [(0,af b),(1,.int .i32 (.ofNat r))] h) (.ret)
   (az [(4,ad cd),(5,.c3)] cV):=
 bA [4,5] [.c (.aF []) aS,.v .ao,.v .ao,.c (.slice c 0 m (.aX 1)) g,.cU (.aF []) cV,.v (.slice aP aY ba uU),.v (ad cd)] 16 7 36914535 (qh H1 a4 bh (⟨by kernel_rfl,bx,rfl⟩:some 1=some 1/\aJ.storeCells g b (0+1) [aa.slice c 0 m (dn.aX 1)]=some cV/\aa.aF []=aa.aF []) bW cA bz)
theorem abP(b c m cI gg r:Nat)(h g aS cV:I)(aP aY ba:Nat)(uU:dn)(cd:Nat)
  (H1:call (.fn 133) [af b] h=a8.ret (.aF []) aS)
  (a4:aC aS b (0+1)=some (.slice cI 0 gg (.aX 1)))
  (bh:call (.fn 134) [.slice cI 0 gg (.aX 1),.int .i32 (.ofNat r)] aS=a8.ret (.slice c 0 m (.aX 1)) g)
  (bx:aJ.storeCells g b (0+1) [.slice c 0 m (.aX 1)]=some cV)
  (bW:aC cV b (0+1)=some (.slice aP aY ba uU))
  (cA:arith .sub .i64 (.ofNat ba) (.ofNat gg)=some (ad cd)):
  a0 an Tryz.f113 none call [] (az [(0,af b),(1,.int .i32 (.ofNat r))] h) (.ret)
   (az [(4,ad cd),(5,.c3)] cV):=
 bA [4,5] [.c (.aF []) aS,.v (.slice cI 0 gg (.aX 1)),.v (.slice cI 0 gg (.aX 1)),.c (.slice c 0 m (.aX 1)) g,.cU (.aF []) cV,.v (.slice aP aY ba uU),.v (ad cd)] 16 7 36914535 (qh H1 a4 bh (⟨by kernel_rfl,bx,rfl⟩:some 1=some 1/\aJ.storeCells g b (0+1) [aa.slice c 0 m (dn.aX 1)]=some cV/\aa.aF []=aa.aF []) bW cA bz)
theorem abQ(r c m:Nat)(v:aa)(h g:I)(aP aY:Nat)
  (H1:df an 21 189 (aa.int IntKind.i32 (Int.ofNat r)) h=dW.val (aa.int IntKind.u32 (Int.ofNat aP)) h)
  (a4:eQ aP 127=true)
  (bh:df an 21 5 (aa.int IntKind.i32 (Int.ofNat r)) h=dW.val (ax aY) h)
  (bx:fi an (I.push h (b5.cells [ax aY] 5 ff.own 0 0)) 44 (some 44) v (aa.slice (I.n h) 0 1 (dn.exact 1))=some (aa.slice c 0 m (dn.aX 1),g)):
  a0 an Tryz.f134 none call [] (az [(0,v),(1,.int .i32 (.ofNat r))] h) (.ret)
   (az [(4,.slice c 0 m (.aX 1))] g):=
 bA [4] [.v (.int .u32 (.ofNat aP)),.b true,.v (ax aY),.cU (.slice c 0 m (.aX 1)) g] 16 4 9029 (jt H1 a4 bh bx bz)
theorem abR(r c m:Nat)(v:aa)(h g:I)(aP:Nat)
  (H1:df an 21 189 (aa.int IntKind.i32 (Int.ofNat r)) h=dW.val (aa.int IntKind.u32 (Int.ofNat aP)) h)
  (a4:eQ aP 127=false)
  (bh:call (.fn 141) [v,.int .i32 (.ofNat r)] h=a8.ret (.slice c 0 m (.aX 1)) g):
  a0 an Tryz.f134 none call [] (az [(0,v),(1,.int .i32 (.ofNat r))] h) (.ret)
   (az [(4,.slice c 0 m (.aX 1))] g):=
 bA [4] [.v (.int .u32 (.ofNat aP)),.b false,.c (.slice c 0 m (.aX 1)) g] 16 3 564 (m9 H1 a4 bh bz)
theorem abS(r c m:Nat)(v:aa)(h g:I)(aP aY ba cd db dM eu:Nat)
  (H1:df an 21 189 (aa.int IntKind.i32 (Int.ofNat r)) h=dW.val (aa.int IntKind.u32 (Int.ofNat aP)) h)
  (a4:eQ aP 2047=true)
  (bh:gv .shr .i32 (.ofNat r) (.ofNat 6)=some (.int .i32 (.ofNat aY)))
  (bx:df an 21 5 (aa.int IntKind.i32 (Int.ofNat aY)) h=dW.val (ax ba) h)
  (bW:arith .or .u8 (.ofNat 192) (.ofNat ba)=some (ax cd))
  (cA:df an 21 5 (aa.int IntKind.i32 (Int.ofNat r)) h=dW.val (ax db) h)
  (c2:arith .and .u8 (.ofNat db) (.ofNat 63)=some (ax dM))
  (di:arith .or .u8 (.ofNat 128) (.ofNat dM)=some (ax eu))
  (eE:fi an (I.push h (b5.cells [ax cd,ax eu] 5 ff.own 0 0)) 44 (some 44) v (aa.slice (I.n h) 0 2 (dn.exact 2))=some (aa.slice c 0 m (dn.aX 1),g)):
  a0 an Tryz.f141 none call [] (az [(0,v),(1,.int .i32 (.ofNat r))] h) (.ret)
   (az [(4,.slice c 0 m (.aX 1))] g):=
 bA [4] [.v (.int .u32 (.ofNat aP)),.b true,.v (.int .i32 (.ofNat aY)),.v (ax ba),.v (ax cd),.v (ax db),.v (ax dM),.v (ax eu),.cU (.slice c 0 m (.aX 1)) g] 16 9 9468016794 (dN H1 a4 bh bx bW cA c2 di eE bz)
theorem abT(r c m:Nat)(v:aa)(h g:I)(aP aY ba cd db dM eu fH hV hW iT:Nat)
  (H1:df an 21 189 (aa.int IntKind.i32 (Int.ofNat r)) h=dW.val (aa.int IntKind.u32 (Int.ofNat aP)) h)
  (a4:eQ aP 2047=false)
  (bh:cz aP 55296=true)
  (bx:gv .shr .i32 (.ofNat r) (.ofNat 12)=some (.int .i32 (.ofNat aY)))
  (bW:df an 21 5 (aa.int IntKind.i32 (Int.ofNat aY)) h=dW.val (ax ba) h)
  (cA:arith .or .u8 (.ofNat 224) (.ofNat ba)=some (ax cd))
  (c2:gv .shr .i32 (.ofNat r) (.ofNat 6)=some (.int .i32 (.ofNat db)))
  (di:df an 21 5 (aa.int IntKind.i32 (Int.ofNat db)) h=dW.val (ax dM) h)
  (eE:arith .and .u8 (.ofNat dM) (.ofNat 63)=some (ax eu))
  (g3:arith .or .u8 (.ofNat 128) (.ofNat eu)=some (ax fH))
  (hp:df an 21 5 (aa.int IntKind.i32 (Int.ofNat r)) h=dW.val (ax hV) h)
  (hK:arith .and .u8 (.ofNat hV) (.ofNat 63)=some (ax hW))
  (iJ:arith .or .u8 (.ofNat 128) (.ofNat hW)=some (ax iT))
  (iK:fi an (I.push h (b5.cells [ax cd,ax fH,ax iT] 5 ff.own 0 0)) 44 (some 44) v (aa.slice (I.n h) 0 3 (dn.exact 3))=some (aa.slice c 0 m (dn.aX 1),g)):
  a0 an Tryz.f141 none call [] (az [(0,v),(1,.int .i32 (.ofNat r))] h) (.ret)
   (az [(4,.slice c 0 m (.aX 1))] g):=
 bA [4] (.v (.int .u32 (.ofNat aP))::cY 3 3 [.v (.int .i32 (.ofNat aY)),.v (ax ba),.v (ax cd),.v (.int .i32 (.ofNat db)),.v (ax dM),.v (ax eu),.v (ax fH),.v (ax hV),.v (ax hW),.v (ax iT),.cU (.slice c 0 m (.aX 1)) g]) 16 15 0x234456789abcdef (dN H1 a4 bh bx bW cA c2 di eE<|nM g3 hp hK iJ iK bz)
theorem abU(r c m:Nat)(v:aa)(h g:I)(aP aY ba cd db dM eu fH hV hW iT:Nat)
  (H1:df an 21 189 (aa.int IntKind.i32 (Int.ofNat r)) h=dW.val (aa.int IntKind.u32 (Int.ofNat aP)) h)
  (a4:eQ aP 2047=false)
  (bh:cz aP 55296=false)
  (bx:cz 57343 aP=true)
  (bW:eQ aP 65535=true)
  (cA:gv .shr .i32 (.ofNat r) (.ofNat 12)=some (.int .i32 (.ofNat aY)))
  (c2:df an 21 5 (aa.int IntKind.i32 (Int.ofNat aY)) h=dW.val (ax ba) h)
  (di:arith .or .u8 (.ofNat 224) (.ofNat ba)=some (ax cd))
  (eE:gv .shr .i32 (.ofNat r) (.ofNat 6)=some (.int .i32 (.ofNat db)))
  (g3:df an 21 5 (aa.int IntKind.i32 (Int.ofNat db)) h=dW.val (ax dM) h)
  (hp:arith .and .u8 (.ofNat dM) (.ofNat 63)=some (ax eu))
  (hK:arith .or .u8 (.ofNat 128) (.ofNat eu)=some (ax fH))
  (iJ:df an 21 5 (aa.int IntKind.i32 (Int.ofNat r)) h=dW.val (ax hV) h)
  (iK:arith .and .u8 (.ofNat hV) (.ofNat 63)=some (ax hW))
  (j6:arith .or .u8 (.ofNat 128) (.ofNat hW)=some (ax iT))
  (kS:fi an (I.push h (b5.cells [ax cd,ax fH,ax iT] 5 ff.own 0 0)) 44 (some 44) v (aa.slice (I.n h) 0 3 (dn.exact 3))=some (aa.slice c 0 m (dn.aX 1),g)):
  a0 an Tryz.f141 none call [] (az [(0,v),(1,.int .i32 (.ofNat r))] h) (.ret)
   (az [(4,.slice c 0 m (.aX 1))] g):=
 bA [4] (.v (.int .u32 (.ofNat aP))::cY 6 15 [.v (.int .i32 (.ofNat aY)),.v (ax ba),.v (ax cd),.v (.int .i32 (.ofNat db)),.v (ax dM),.v (ax eu),.v (ax fH),.v (ax hV),.v (ax hW),.v (ax iT),.cU (.slice c 0 m (.aX 1)) g]) 256 18 0x20304050505060708090a0b0c0d0e0f1011 (dN H1 a4 bh bx bW cA c2 di eE<|AJ g3 hp hK iJ iK j6 kS bz)
theorem abV(r c m:Nat)(v:aa)(h g:I)(aP aY ba cd db dM eu fH hV hW iT j7 lr nU nf:Nat)
  (H1:df an 21 189 (aa.int IntKind.i32 (Int.ofNat r)) h=dW.val (aa.int IntKind.u32 (Int.ofNat aP)) h)
  (a4:eQ aP 2047=false)
  (bh:cz aP 55296=false)
  (bx:cz 57343 aP=true)
  (bW:eQ aP 65535=false)
  (cA:cz 65535 aP=true)
  (c2:eQ aP 1114111=true)
  (di:gv .shr .i32 (.ofNat r) (.ofNat 18)=some (.int .i32 (.ofNat aY)))
  (eE:df an 21 5 (aa.int IntKind.i32 (Int.ofNat aY)) h=dW.val (ax ba) h)
  (g3:arith .or .u8 (.ofNat 240) (.ofNat ba)=some (ax cd))
  (hp:gv .shr .i32 (.ofNat r) (.ofNat 12)=some (.int .i32 (.ofNat db)))
  (hK:df an 21 5 (aa.int IntKind.i32 (Int.ofNat db)) h=dW.val (ax dM) h)
  (iJ:arith .and .u8 (.ofNat dM) (.ofNat 63)=some (ax eu))
  (iK:arith .or .u8 (.ofNat 128) (.ofNat eu)=some (ax fH))
  (j6:gv .shr .i32 (.ofNat r) (.ofNat 6)=some (.int .i32 (.ofNat hV)))
  (kS:df an 21 5 (aa.int IntKind.i32 (Int.ofNat hV)) h=dW.val (ax hW) h)
  (mb:arith .and .u8 (.ofNat hW) (.ofNat 63)=some (ax iT))
  (nb:arith .or .u8 (.ofNat 128) (.ofNat iT)=some (ax j7))
  (nc:df an 21 5 (aa.int IntKind.i32 (Int.ofNat r)) h=dW.val (ax lr) h)
  (nd:arith .and .u8 (.ofNat lr) (.ofNat 63)=some (ax nU))
  (oH:arith .or .u8 (.ofNat 128) (.ofNat nU)=some (ax nf))
  (qw:fi an (I.push h (b5.cells [ax cd,ax fH,ax j7,ax nf] 5 ff.own 0 0)) 44 (some 44) v (aa.slice (I.n h) 0 4 (dn.exact 4))=some (aa.slice c 0 m (dn.aX 1),g)):
  a0 an Tryz.f141 none call [] (az [(0,v),(1,.int .i32 (.ofNat r))] h) (.ret)
   (az [(4,.slice c 0 m (.aX 1))] g):=
 bA [4] (.v (.int .u32 (.ofNat aP))::cY 10 239 [.v (.int .i32 (.ofNat aY)),.v (ax ba),.v (ax cd),.v (.int .i32 (.ofNat db)),.v (ax dM),.v (ax eu),.v (ax fH),.v (.int .i32 (.ofNat hV)),.v (ax hW),.v (ax iT),.v (ax j7),.v (ax lr),.v (ax nU),.v (ax nf),.cU (.slice c 0 m (.aX 1)) g]) 256 26 0x203040505050607070708090a0b0c0d0e0f1011121314151617 (dN H1 a4 bh bx bW cA c2 di eE<|dN g3 hp hK iJ iK j6 kS mb nb<|jt nc nd oH qw bz)
theorem RT(s:List UInt8)(c:Nat)(x:Int)(h g:I)
  (H1:call (.fn 103) [.str s,ax c] h=a8.ret (.int .i64 x) g):
  a0 an Tryz.f126 none call [] (az [(0,.str s),(1,ax c)] h) (.ret)
   (az [(4,.int .i64 x)] g):=
 bA [4] [.c (.int .i64 x) g] 16 1 2 (hU H1 bz)
theorem abW(r:Nat)(h:I)
  (H1:cz r 55296=true):
  a0 an Tryz.f127 none call [] (az [(0,.int .i32 (.ofNat r))] h) (.ret)
   (az [(2,.bool true)] h):=
 bA [2] (cY 4 15 []) 16 4 8739 (kP (by kernel_rfl:eQ 0 r=true) H1 bz)
theorem abX(r:Nat)(h:I)
  (H1:cz r 55296=false)
  (a4:cz 57343 r=true)
  (bh:eQ r 1114111=true):
  a0 an Tryz.f127 none call [] (az [(0,.int .i32 (.ofNat r))] h) (.ret)
   (az [(2,.bool true)] h):=
 bA [2] (cY 8 239 []) 16 8 572736581 (jt (by kernel_rfl:eQ 0 r=true) H1 a4 bh bz)
theorem RU(s:List UInt8)(r c:Nat)(x:Int)(h g:I)
  (H1:cz r 128=true)
  (a4:df an 21 5 (aa.int IntKind.i32 (Int.ofNat r)) h=dW.val (ax c) h)
  (bh:call (.fn 126) [.str s,ax c] h=a8.ret (.int .i64 x) g):
  a0 an Tryz.f99 none call [] (az [(0,.str s),(1,.int .i32 (.ofNat r))] h) (.ret)
   (az [(4,.int .i64 x)] g):=
 bA [4] (cY 4 15 [.v (ax c),.c (.int .i64 x) g]) 16 6 2237253 (jt (by kernel_rfl:eQ 0 r=true) H1 a4 bh bz)
theorem abY(s:List UInt8)(r:Nat)(h g:I)
  (H1:cz r 128=false)
  (a4:dA r 65533=true)
  (bh:a0 an Tryz.f99 none call [1,0,1,1,1,0,0,1,0] (az [(175,af (I.n h)),(171,.bool (dA r 65533)),(160,.bool (cz r 128)),(4,ad 0),(0,.str s),(1,.int .i32 (.ofNat r))] (I.push h (.fp s 0))) (.exit 9) (az [] g)):
  a0 an Tryz.f99 none call [] (az [(0,.str s),(1,.int .i32 (.ofNat r))] h) (.ret)
   (az [(4,.int .i64 (.negSucc 0))] g):=
 bA [4] (cY 5 29 [Hint.loop (cl.exit 9) (bD.mk [] [] cm.none g)]) 16 6 2237253 (jt (by kernel_rfl:eQ 0 r=true) H1 a4 bh bz)
theorem LA(s:List UInt8)(it i c:Nat)(h g:I)
  (H1:kh h (aa.ptr it 0) true=some (aa.aF [aa.bool true,ad i,aa.int IntKind.i32 (Int.ofNat c)],g))
  (a4:dA c 65533=false):
  a0 an Tryz.f99 none call [1,0,1,1,1,0,0,1,0,0] (az [(175,af it)] h) (.nrm)
   (az [(175,af it)] g):=
 bA [0,4,175] (.cU (.aF [.bool true,ad i,.int .i32 (.ofNat c)]) g::cY 2 2 []) 16 3 515 (kP H1 a4 bz)
theorem abZ(s:List UInt8)(it:Nat)(h g:I)
  (H1:kh h (aa.ptr it 0) true=some (aa.aF [aa.bool false],g)):
  a0 an Tryz.f99 none call [1,0,1,1,1,0,0,1,0,0] (az [(175,af it)] h) (.exit 9)
   (az [(175,af it)] g):=
 bA [0,4,175] [.cU (.aF [.bool false]) g,.b false] 16 2 33 (hU H1 bz)
theorem ab0(r:Nat)(a b:UInt8)(h:I)
  (H1:df an 21 9 (aa.int IntKind.i32 (Int.ofNat r)) h=dW.val (aa.str [a,b]) h):
  a0 an Tryz.f99 none call [1,0,1,1,1,1,1,1,0,0] (az [(0,.str [34,92,110]),(1,.int .i32 (.ofNat r))] h) (.nrm)
   (az [(0,.str [34,92,110]),(7,.str [a,b])] h):=
 bA [0,7,8,9,10] [.v (.str [a,b])] 16 1 2 (hU H1 bz)
theorem ab1(r:Nat)(a b:UInt8)(h:I):
  a0 an Tryz.f99 none call [1,0,1,1,1,1,1,1,0,1,0] (az [(0,.str [34,92,110]),(7,.str [a,b])] h) (.nrm)
   (az [(0,.str [34,92,110]),(7,.str [a,b]),(8,ad 1)] h):=
 bA [0,7,8,9,10] [.v (ad 1)] 16 1 2 (hU (by kernel_rfl:arith BinOp.sub IntKind.i64 (Int.ofNat 2) (Int.ofNat 1)=some (ad 1)) bz)
theorem ab2(r:Nat)(a b:UInt8)(h g:I)(aP aY:Nat)(bS:List UInt8)
  (H1:eJ 1 [34,92,110]=some (ax aP))
  (a4:eJ 1 [a,b]=some (ax aY))
  (bh:(!dA aP aY)=true)
  (bx:kC an (I.room (I.room h 7) 9) 9 (aa.str [34,92,110]) (some (ad 2)) none none=some (aa.str bS))
  (bW:call (.fn 126) [.str bS,ax aY] (I.room (I.room h 7) 9)=a8.ret (.int .i64 (.negSucc 0)) g):
  a0 an Tryz.f99 none call [1,0,1,1,1,1,1,1,0,1,1,1,1,0,0,0] (az [(0,.str [34,92,110]),(7,.str [a,b]),(8,ad 1),(9,ad 1),(10,ad 0)] h) (.ret)
   (az [(0,.str [34,92,110]),(4,.int .i64 (.negSucc 0)),(7,.str [a,b]),(8,ad 1),(9,ad 1),(10,ad 0)] g):=
 bA [0,4,7,8,9,10] [.b true,.v (ax aP),.v (ax aY),.b true,.v (ad 2),.v (.str bS),.v (ax aY),.c (.int .i64 (-1)) g,.b true] 256 39 0x203040506070809030a0b07080c040d0e0f1011041205060708131014110a0b07080c04151617 (dN (by kernel_rfl:cz 1 3=true) H1 a4 (b4 (.str [34,92,110])) (ck (.str [34,92,110])) (b4 (ad 1)) (ck (ad 1)) (b4 (ax aP)) (b4 (.str [a,b]))<|dN (ck (.str [a,b])) (b4 (ax aY)) (b4 (.bool !dA aP aY)) (by kernel_rfl:(aa.bool !dA aP aY)=aa.bool !dA aP aY) bh (by kernel_rfl:arith BinOp.add IntKind.i64 (Int.ofNat 1) (Int.ofNat 1)=some (ad 2)) bx bW (b4 (ad 2))<|jt (b4 (.str bS)) (b4 (.int .i64 (.negSucc 0))) (ck (.int .i64 (.negSucc 0))) (by kernel_rfl:jZ (Int.negSucc 0) (Int.ofNat 0)=true) bz)
theorem ab3(r:Nat)(a b c:UInt8)(h:I)
  (H1:df an 21 9 (aa.int IntKind.i32 (Int.ofNat r)) h=dW.val (aa.str [a,b,c]) h):
  a0 an Tryz.f99 none call [1,0,1,1,1,1,1,1,0,0] (az [(0,.str [34,92,110]),(1,.int .i32 (.ofNat r))] h) (.nrm)
   (az [(0,.str [34,92,110]),(7,.str [a,b,c])] h):=
 bA [0,7,8,9,10] [.v (.str [a,b,c])] 16 1 2 (hU H1 bz)
theorem ab4(r:Nat)(a b c:UInt8)(h:I):
  a0 an Tryz.f99 none call [1,0,1,1,1,1,1,1,0,1,0] (az [(0,.str [34,92,110]),(7,.str [a,b,c])] h) (.nrm)
   (az [(0,.str [34,92,110]),(7,.str [a,b,c]),(8,ad 2)] h):=
 bA [0,7,8,9,10] [.v (ad 2)] 16 1 2 (hU (by kernel_rfl:arith BinOp.sub IntKind.i64 (Int.ofNat 3) (Int.ofNat 1)=some (ad 2)) bz)
theorem ab5(r:Nat)(a b c:UInt8)(h g:I)(aP aY:Nat)(bS:List UInt8)
  (H1:eJ 2 [34,92,110]=some (ax aP))
  (a4:eJ 2 [a,b,c]=some (ax aY))
  (bh:(!dA aP aY)=true)
  (bx:kC an (I.room (I.room h 7) 9) 9 (aa.str [34,92,110]) (some (ad 3)) none none=some (aa.str bS))
  (bW:call (.fn 126) [.str bS,ax aY] (I.room (I.room h 7) 9)=a8.ret (.int .i64 (.negSucc 0)) g):
  a0 an Tryz.f99 none call [1,0,1,1,1,1,1,1,0,1,1,1,1,0,0,0] (az [(0,.str [34,92,110]),(7,.str [a,b,c]),(8,ad 2),(9,ad 2),(10,ad 0)] h) (.ret)
   (az [(0,.str [34,92,110]),(4,.int .i64 (.negSucc 0)),(7,.str [a,b,c]),(8,ad 2),(9,ad 2),(10,ad 0)] g):=
 bA [0,4,7,8,9,10] [.b true,.v (ax aP),.v (ax aY),.b true,.v (ad 3),.v (.str bS),.v (ax aY),.c (.int .i64 (-1)) g,.b true] 256 39 0x203040506070809030a0b07080c040d0e0f1011041205060708131014110a0b07080c04151617 (dN (by kernel_rfl:cz 2 3=true) H1 a4 (b4 (.str [34,92,110])) (ck (.str [34,92,110])) (b4 (ad 2)) (ck (ad 2)) (b4 (ax aP)) (b4 (.str [a,b,c]))<|dN (ck (.str [a,b,c])) (b4 (ax aY)) (b4 (.bool !dA aP aY)) (by kernel_rfl:(aa.bool !dA aP aY)=aa.bool !dA aP aY) bh (by kernel_rfl:arith BinOp.add IntKind.i64 (Int.ofNat 2) (Int.ofNat 1)=some (ad 3)) bx bW (b4 (ad 3))<|jt (b4 (.str bS)) (b4 (.int .i64 (.negSucc 0))) (ck (.int .i64 (.negSucc 0))) (by kernel_rfl:jZ (Int.negSucc 0) (Int.ofNat 0)=true) bz)
theorem ab6(r:Nat)(a b c d:UInt8)(h:I)
  (H1:df an 21 9 (aa.int IntKind.i32 (Int.ofNat r)) h=dW.val (aa.str [a,b,c,d]) h):
  a0 an Tryz.f99 none call [1,0,1,1,1,1,1,1,0,0] (az [(0,.str [34,92,110]),(1,.int .i32 (.ofNat r))] h) (.nrm)
   (az [(0,.str [34,92,110]),(7,.str [a,b,c,d])] h):=
 bA [0,7,8,9,10] [.v (.str [a,b,c,d])] 16 1 2 (hU H1 bz)
theorem ab7(r:Nat)(a b c d:UInt8)(h:I):
  a0 an Tryz.f99 none call [1,0,1,1,1,1,1,1,0,1,0] (az [(0,.str [34,92,110]),(7,.str [a,b,c,d])] h) (.nrm)
   (az [(0,.str [34,92,110]),(7,.str [a,b,c,d]),(8,ad 3)] h):=
 bA [0,7,8,9,10] [.v (ad 3)] 16 1 2 (hU (by kernel_rfl:arith BinOp.sub IntKind.i64 (Int.ofNat 4) (Int.ofNat 1)=some (ad 3)) bz)
theorem ab8(r:Nat)(a b c d:UInt8)(h g:I):
  a0 an Tryz.f99 none call [1,0,1,1,1,1,1,1,0,1,1,1,1,0,0,0] (az [(0,.str [34,92,110]),(7,.str [a,b,c,d]),(8,ad 3),(9,ad 3),(10,ad 0)] h) (.exit 1)
   (az [(0,.str [34,92,110]),(7,.str [a,b,c,d]),(8,ad 3),(9,ad 3),(10,ad 0)] h):=
 bA [0,4,7,8,9,10] [.b false] 16 1 2 (hU (by kernel_rfl:cz 3 3=false) bz)
theorem ab9(h:I):
  a0 an Tryz.f99 none call [1,0,1,1,1,1,1,1,0,1,1,1,1,1] (az [] h) (.ret)
   (az [(4,.int .i64 (.negSucc 0))] h):=
 bA [4] [] 16 0 0 bz
theorem ab_(s:List UInt8)(r:Nat)(h:I):
  a0 an Tryz.f99 none call [0] (az [(0,.str s),(1,.int .i32 (.ofNat r))] h) (.nrm)
   (az [(0,.str s),(1,.int .i32 (.ofNat r))] h):=
 bA [0,1] [] 16 0 0 bz
theorem aca(s:List UInt8)(r:Nat)(h:I):
  a0 an Tryz.f99 none call [1,0,0] (az [(0,.str s),(1,.int .i32 (.ofNat r))] h) (.nrm)
   (az [(0,.str s),(1,.int .i32 (.ofNat r)),(160,.bool (cz r 128))] h):=
 bA [0,1,160] (cY 3 7 []) 16 3 546 (hU (by kernel_rfl:eQ 0 r=true) bz)
theorem acb(s:List UInt8)(r:Nat)(h:I):
  a0 an Tryz.f99 none call [1,0,1,1,0] (az [(0,.str s),(1,.int .i32 (.ofNat r))] h) (.nrm)
   (az [(0,.str s),(1,.int .i32 (.ofNat r)),(171,.bool (dA r 65533))] h):=
 bA [0,1,171] [] 16 0 0 bz
theorem acd(s:List UInt8)(r:Nat)(h g:I)
  (H1:call (.fn 127) [.int .i32 (.ofNat r)] h=a8.ret (.bool true) g):
  a0 an Tryz.f99 none call [1,0,1,1,1,1,0] (az [(0,.str s),(1,.int .i32 (.ofNat r))] h) (.nrm)
   (az [(0,.str s),(1,.int .i32 (.ofNat r)),(183,.bool !true)] g):=
 bA [0,1,183] [.c (.bool true) g] 16 1 2 (hU H1 bz)
theorem ace(s t:List UInt8)(k:Nat)(h:I):
  a0 an Tryz.f99 none call [1,0,1,1,1,1,1,1,0,1,1,0] (az [(0,.str s),(7,.str t),(8,ad k)] h) (.nrm)
   (az [(0,.str s),(7,.str t),(8,ad k),(9,ad k)] h):=
 bA [0,7,8,9] [] 16 0 0 bz
theorem acf(s t:List UInt8)(k:Nat)(h:I):
  a0 an Tryz.f99 none call [1,0,1,1,1,1,1,1,0,1,1,1,0] (az [(0,.str s),(7,.str t),(8,ad k),(9,ad k)] h) (.nrm)
   (az [(0,.str s),(7,.str t),(8,ad k),(9,ad k),(10,ad 0)] h):=
 bA [0,7,8,9,10] [] 16 0 0 bz
theorem oI:an.underlying 5=some (.int .u8):=by kernel_rfl
theorem oJ:an.underlying 21=some (.int .i32):=by kernel_rfl
theorem RV:an.underlying 189=some (.int .u32):=by kernel_rfl
theorem acg:an.underlying 3=some (.int .i64):=by kernel_rfl
theorem A4:an.underlying 9=some .string:=by kernel_rfl
theorem A5:an.underlying 44=some (.slice 5):=by kernel_rfl
theorem RW(aI:gH h dL=true){t:g2}(hm:t∈dL){j x:Nat}(aL:t.xs[j]? =some x):aC h t.g j=some (ax x):=by
 obtain⟨el,aB⟩:=wX (tJ aI t hm)
 refine aN aB ?_
 rw[j0,tL,aL];rfl
theorem ach:((List.range 256).all λb=>match tO[b]? with
 |some x=>Nat.beq x (if b<128 then 240 else if b<194\/244<b then 241 else if b<=223 then 2 else if b=224 then 19 else if b=237 then 35 else if b<=239 then 3 else if b=240 then 52 else if b<=243 then 4 else 68)
 |none=>false)=true:=by kernel_rfl
theorem RX(ag:b<256):tO[b]? =some (if b<128 then 240 else if b<194\/244<b then 241 else if b<=223 then 2 else if b=224 then 19 else if b=237 then 35 else if b<=239 then 3 else if b=240 then 52 else if b<=243 then 4 else 68):=by
 have:=List.all_eq_true.1 ach b (List.mem_range.2 ag)
 split at this
 · rename_i x ab
   rw[ab,Nat.eq_of_beq_eq_true this]
 · cases this
theorem aci{lo hi sz x idx:Nat}(ag:b<256)(aA:RL b lo hi sz x idx)(ak:(x,idx,lo,hi)=(2,0,128,191)/\194<=b/\b<=223\/(x,idx,lo,hi)=(19,1,160,191)/\b=224\/(x,idx,lo,hi)=(35,2,128,159)/\b=237\/(x,idx,lo,hi)=(3,0,128,191)/\224<b/\b<=239/\b≠237\/
  (x,idx,lo,hi)=(52,3,144,191)/\b=240\/(x,idx,lo,hi)=(4,0,128,191)/\240<b/\b<=243\/(x,idx,lo,hi)=(68,4,128,143)/\b=244):tO[b]? =some x/\w5[2*idx]? =some lo/\w5[2*idx+1]? =some hi:=by
 rw[RX ag]
 rcases ak with⟨h,J⟩|⟨h,J⟩|⟨h,J⟩|⟨h,J⟩|⟨h,J⟩|⟨h,J⟩|⟨h,J⟩<;>(cases h;refine⟨congrArg some ?_,rfl,rfl⟩)
 · rw[if_neg (by omega),if_neg (by omega),if_pos (by omega)]
 · rw[if_neg (by omega),if_neg (by omega),if_neg (by omega),if_pos (by omega)]
 · rw[if_neg (by omega),if_neg (by omega),if_neg (by omega),if_neg (by omega),if_pos (by omega)]
 · rw[if_neg (by omega),if_neg (by omega),if_neg (by omega),if_neg (by omega),if_neg (by omega),if_pos (by omega)]
 · rw[if_neg (by omega),if_neg (by omega),if_neg (by omega),if_neg (by omega),if_neg (by omega),if_neg (by omega),if_pos (by omega)]
 · rw[if_neg (by omega),if_neg (by omega),if_neg (by omega),if_neg (by omega),if_neg (by omega),if_neg (by omega),if_neg (by omega),if_pos (by omega)]
 · rw[if_neg (by omega),if_neg (by omega),if_neg (by omega),if_neg (by omega),if_neg (by omega),if_neg (by omega),if_neg (by omega),if_neg (by omega)]
theorem qx(b:UInt8)(s:List UInt8):eJ 0 (b::s)=some (ax b.toNat):=rfl
theorem tP(b y:UInt8)(s:List UInt8):eJ 1 (b::y::s)=some (ax y.toNat):=rfl
theorem y6(b y z:UInt8)(s:List UInt8):eJ 2 (b::y::z::s)=some (ax z.toNat):=rfl
theorem LB(b y z w:UInt8)(s:List UInt8):eJ 3 (b::y::z::w::s)=some (ax w.toNat):=rfl
theorem acj(b:Nat):arith BinOp.andNot IntKind.i32 (Int.ofNat b) (-1)=some (aa.int IntKind.i32 (Int.ofNat 0)):=by
 have J:BitVec.ofInt 32 (-1)=BitVec.allOnes 32:=by rfl
 have ae:(BitVec.ofInt 32 (Int.ofNat b)&&& ~~~BitVec.ofInt 32 (-1))=0#32:=by rw[J];simp
 show some (aa.int IntKind.i32 (IntKind.wrap .i32 (((BitVec.ofInt 32 (Int.ofNat b)&&& ~~~BitVec.ofInt 32 (-1)).toNat:Nat):Int)))=_
 rw[ae];rfl
theorem ack(m:Nat)(b:UInt8)(t:List UInt8)(h:I)(aI:gH h dL=true)(h0:¬b.toNat<128):∃ay,C (m+1) (.fn 132) [.str (b::t)] h=.ret (.aF [.int .i32 (Int.ofNat (dS (b::t)).1),ad (dS (b::t)).2]) ay/\Ext h.n h ay:=by
 have ag:=uO b
 have hlen:(b::t).length=t.length+1:=rfl
 have fin:∀{ay:I} {x n:Nat},a0 an Tryz.f132 none (C m) [] ⟨[(0,.str (b::t))],[],.none,h⟩ .ret ⟨[(2,.int .i32 (Int.ofNat x)),(3,ad n)],[],.none,ay⟩->C (m+1) (.fn 132) [.str (b::t)] h=.ret (.aF [.int .i32 (Int.ofNat x),ad n]) ay:=λaj=>
  eI (intr:=eD) (n:=m) (args:=[.str (b::t)]) Tryz.func132 aj (.inl rfl) (by kernel_rfl)
 have ry:(⟨4,tO⟩:g2)∈dL:=by simp[dL]
 have w6:(⟨5,w5⟩:g2)∈dL:=by simp[dL]
 rcases abd (by omega:128<=b.toNat) ag with⟨aj,he⟩|⟨lo,hi,sz,x,idx,aA,ak⟩
 · have aH:=A0 (RM (t:=t) h0 he)
   rw[aH]
   have aM:aC h 4 (0+b.toNat*1)=some (ax 241):=RW (t:=⟨4,tO⟩) aI ry (by
    have e:0+b.toNat*1=b.toNat:=by omega
    rw[e]
    show tO[b.toNat]? =_
    rw[RX ag,if_neg h0,if_pos aj])
   exact⟨h,fin (abq (C m) b.toNat 0 (b::t) h _ (iR (by rw[hlen];omega)) (qx b t) ag aM (wI oI oJ ag) (acj b.toNat)),Ext.refl _ _⟩
 · obtain⟨f1,f2,f3⟩:=aci ag aA ak
   obtain⟨bb,cw,fN,gO⟩:=aA.ab
   have acm:x<256:=by omega
   have aM:aC h 4 (0+b.toNat*1)=some (ax x):=RW (t:=⟨4,tO⟩) aI ry (by
    have e:0+b.toNat*1=b.toNat:=by omega
    rw[e];exact f1)
   have fg:arith BinOp.and IntKind.u8 (Int.ofNat x) (Int.ofNat 7)=some (ax sz):=by
    have:=wH 3 acm (by decide)
    rw[show x %2^3=sz from bb] at this
    exact this
   have tQ:gv BinOp.shr IntKind.u8 (Int.ofNat x) (Int.ofNat 4)=some (ax idx):=by
    have:=Qx .u8 (i:=x) (j:=4) (by decide)
    rw[show x/2^4=idx from cw] at this
    exact this
   have bQ:sz<256:=by rcases aA.bQ with⟨rfl,_⟩|⟨rfl,_⟩|⟨rfl,_⟩<;>decide
   have rf:=QE (P:=an) (h:=h) oI acg bQ
   have tR:aJ.loadCells h 5 (0+idx*2) 2=some [ax lo,ax hi]:=by
    obtain⟨el,aB⟩:=wX (tJ aI _ w6)
    refine rk aB ?_
    have hlen:2*idx+1<w5.length:=(List.getElem?_eq_some_iff.1 f3).1
    have e:0+idx*2=2*idx:=by omega
    rw[om,e]
    have aG:(qo w5)[2*idx]? =some (ax lo):=by rw[tL,f2];rfl
    have aE:(qo w5)[2*idx+1]? =some (ax hi):=by rw[tL,f3];rfl
    obtain⟨aV,aU⟩:=List.getElem?_eq_some_iff.1 aG
    obtain⟨bu,e7⟩:=List.getElem?_eq_some_iff.1 aE
    rw[List.drop_eq_getElem_cons aV,aU,List.drop_eq_getElem_cons bu,e7]
    rfl
   obtain⟨g,g0⟩:∃g,g=(h.push (aD [ax 0,ax 0] 213)).set h.n (some (aD [ax lo,ax hi] 213)):=⟨_,rfl⟩
   have tS:aJ.storeCells (h.push (aD [ax 0,ax 0] 213)) h.n 0 [ax lo,ax hi]=some g:=by rw[g0];exact cy (dx rfl) rfl rfl
   have gn:Ext h.n h g:=by rw[g0];exact Gm
   have RY:g.get h.n=some (aD [ax lo,ax hi] 213):=by rw[g0];exact dz rfl
   have nE:aC g h.n (0+0)=some (ax lo):=aN RY rfl
   have fw:aC g h.n (0+1)=some (ax hi):=aN RY rfl
   have gF:Nat.le (Nat.succ b.toNat) 256:=ag
   have kT:Nat.le (Nat.succ idx) 16:=gO
   have bad:ec (b::t)=0->a0 an Tryz.f132 none (C m) [] ⟨[(0,.str (b::t))],[],.none,h⟩ .ret ⟨[(2,.int .i32 (Int.ofNat 65533)),(3,ad 1)],[],.none,g⟩->∃ay,C (m+1) (.fn 132) [.str (b::t)] h=.ret (.aF [.int .i32 (Int.ofNat (dS (b::t)).1),ad (dS (b::t)).2]) ay/\Ext h.n h ay:=λbm aj=>by
    rw[A0 bm];exact⟨g,fin aj,gn⟩
   have a9:jZ (Int.ofNat (b::t).length) (Int.ofNat 1)=false:=iR (by rw[hlen];omega)
   have hB:mo (Int.ofNat 240) (Int.ofNat x)=false:=l6 (by omega)
   by_cases aT:(b::t).length<sz
   · refine bad ?_ (abr (C m) b.toNat x lo hi (b::t) h _ _ _ _ a9 (qx b t) gF aM hB fg rf tQ kT tR tS (ib aT))
     have:=GQ (b::t)
     rcases aA.bQ with⟨rfl,_⟩|⟨rfl,_⟩|⟨rfl,_⟩
     · have e:=GY (t:=t) h0 aA.he
       by_cases hw:c5 t lo hi=true
       · rw[e,if_pos hw] at this;omega
       · rw[e,if_neg hw]
     · have e:=A1 (t:=t) h0 aA.he
       by_cases hw:(c5 t lo hi&&c5 (t.drop 1) 128 191)=true
       · rw[e,if_pos hw] at this;omega
       · rw[e,if_neg hw]
     · have e:=y3 (t:=t) h0 aA.he
       by_cases hw:(c5 t lo hi&&c5 (t.drop 1) 128 191&&c5 (t.drop 2) 128 191)=true
       · rw[e,if_pos hw] at this;omega
       · rw[e,if_neg hw]
   have uV:jZ (Int.ofNat (b::t).length) (Int.ofNat sz)=false:=iR aT
   cases t with
   |nil=>rcases aA.bQ with⟨rfl,_⟩|⟨rfl,_⟩|⟨rfl,_⟩<;>simp at aT
   |cons y r=>
    have bH:=uO y
    have mJ:=aA.iO
    have hT:=aA.lH
    have wl:c5 (y::r) lo hi=(decide (lo<=y.toNat)&&decide (y.toNat<=hi)):=rfl
    have z3:¬(lo<=y.toNat/\y.toNat<=hi)->ec (b::y::r)=0:=λhw=>by
     have:c5 (y::r) lo hi=false:=by rw[wl];simp;omega
     rcases aA.bQ with⟨rfl,_⟩|⟨rfl,_⟩|⟨rfl,_⟩
     · rw[GY h0 aA.he,this];rfl
     · rw[A1 h0 aA.he,this];rfl
     · rw[y3 h0 aA.he,this];rfl
    by_cases b_:y.toNat<lo
    · exact bad (z3 (by omega)) (abt (C m) b.toNat x lo hi (b::y::r) h _ _ _ _ _ _ a9 (qx b _) gF aM hB fg rf tQ kT tR tS uV (tP b y r) nE (ib b_))
    have rz:jZ (Int.ofNat y.toNat) (Int.ofNat lo)=false:=iR b_
    by_cases b9:hi<y.toNat
    · exact bad (z3 (by omega)) (abu (C m) b.toNat x lo hi (b::y::r) h _ _ _ _ _ _ _ a9 (qx b _) gF aM hB fg rf tQ kT tR tS uV (tP b y r) nE rz fw (ib b9))
    have y7:jZ (Int.ofNat hi) (Int.ofNat y.toNat)=false:=iR b9
    have GD:c5 (y::r) lo hi=true:=by rw[wl];simp;omega
    have LC:y.toNat/64=2:=by omega
    have LD:arith BinOp.and IntKind.u8 (Int.ofNat y.toNat) (Int.ofNat 63)=some (ax (y.toNat %64)):=wH 6 bH (by decide)
    have LF:=wI (P:=an) (h:=g) oI oJ (show y.toNat %64<256 by omega)
    rcases aA.bQ with⟨rfl,aj⟩|bQ
    · have DA:arith BinOp.and IntKind.u8 (Int.ofNat b.toNat) (Int.ofNat 31)=some (ax (b.toNat %32)):=wH 5 ag (by decide)
      have y8:=wI (P:=an) (h:=g) oI oJ (show b.toNat %32<256 by omega)
      have ch:gv BinOp.shl IntKind.i32 (Int.ofNat (b.toNat %32)) (Int.ofNat 6)=some (.int .i32 (Int.ofNat (b.toNat %32*64))):=AI 6 (by decide) (by omega)
      have e2:arith BinOp.or IntKind.i32 (Int.ofNat (b.toNat %32*64)) (Int.ofNat (y.toNat %64))=some (.int .i32 (Int.ofNat (b.toNat %32*64+y.toNat %64))):=AH 6 (by omega) (by omega) (by omega)
      rw[aba aj LC]
      exact⟨g,fin (abv (C m) b.toNat x lo hi (b::y::r) h _ _ _ _ _ _ _ _ _ _ _ _ _ a9 (qx b _) gF aM hB fg rf tQ kT tR tS uV (tP b y r) nE rz fw y7 (mD (by omega)) DA y8 ch LD LF e2),gn⟩
    · have A6:mo (Int.ofNat sz) (Int.ofNat 2)=false:=l6 (by omega)
      cases r with
      |nil=>simp at aT;omega
      |cons z r=>
       have bm:=uO z
       have mc:c5 (z::r) 128 191=(decide (128<=z.toNat)&&decide (z.toNat<=191)):=rfl
       have cN:¬(128<=z.toNat/\z.toNat<=191)->ec (b::y::z::r)=0:=λhw=>by
        have:c5 (z::r) 128 191=false:=by rw[mc];simp;omega
        rcases bQ with⟨rfl,_⟩|⟨rfl,_⟩
        · rw[A1 h0 aA.he,List.drop_succ_cons,List.drop_zero,this,Bool.and_false];rfl
        · rw[y3 h0 aA.he,List.drop_succ_cons,List.drop_zero,this,Bool.and_false,Bool.false_and];rfl
       by_cases eH:z.toNat<128
       · exact bad (cN (by omega)) (abw (C m) b.toNat x lo hi (b::y::z::r) h _ _ _ _ _ _ _ _ a9 (qx b _) gF aM hB fg rf tQ kT tR tS uV (tP b y _) nE rz fw y7 A6 (y6 b y z r) (ib eH))
       have DB:jZ (Int.ofNat z.toNat) (Int.ofNat 128)=false:=iR eH
       by_cases jD:191<z.toNat
       · exact bad (cN (by omega)) (abx (C m) b.toNat x lo hi (b::y::z::r) h _ _ _ _ _ _ _ _ a9 (qx b _) gF aM hB fg rf tQ kT tR tS uV (tP b y _) nE rz fw y7 A6 (y6 b y z r) DB (ib jD))
       have G0:jZ (Int.ofNat 191) (Int.ofNat z.toNat)=false:=iR jD
       have q4:z.toNat/64=2:=by omega
       have RZ:c5 (z::r) 128 191=true:=by rw[mc];simp;omega
       have A7:arith BinOp.and IntKind.u8 (Int.ofNat z.toNat) (Int.ofNat 63)=some (ax (z.toNat %64)):=wH 6 bm (by decide)
       have A8:=wI (P:=an) (h:=g) oI oJ (show z.toNat %64<256 by omega)
       rcases bQ with⟨rfl,aj⟩|⟨rfl,aj⟩
       · have DA:arith BinOp.and IntKind.u8 (Int.ofNat b.toNat) (Int.ofNat 15)=some (ax (b.toNat %16)):=wH 4 ag (by decide)
         have y8:=wI (P:=an) (h:=g) oI oJ (show b.toNat %16<256 by omega)
         have ch:gv BinOp.shl IntKind.i32 (Int.ofNat (b.toNat %16)) (Int.ofNat 12)=some (.int .i32 (Int.ofNat (b.toNat %16*4096))):=AI 12 (by decide) (by omega)
         have LG:gv BinOp.shl IntKind.i32 (Int.ofNat (y.toNat %64)) (Int.ofNat 6)=some (.int .i32 (Int.ofNat (y.toNat %64*64))):=AI 6 (by decide) (by omega)
         have e2:arith BinOp.or IntKind.i32 (Int.ofNat (b.toNat %16*4096)) (Int.ofNat (y.toNat %64*64))=some (.int .i32 (Int.ofNat (b.toNat %16*4096+y.toNat %64*64))):=AH 12 (by omega) (by omega) (by omega)
         have eh:arith BinOp.or IntKind.i32 (Int.ofNat (b.toNat %16*4096+y.toNat %64*64)) (Int.ofNat (z.toNat %64))=some (.int .i32 (Int.ofNat (b.toNat %16*4096+y.toNat %64*64+z.toNat %64))):=AH 6 (by omega) (by omega) (by omega)
         have acn:ec (b::y::z::r)=3:=by rw[A1 h0 aA.he,GD,List.drop_succ_cons,List.drop_zero,RZ];rfl
         rw[abb aj LC q4 acn]
         exact⟨g,fin (aby (C m) b.toNat x lo hi (b::y::z::r) h _ _ _ _ _ _ _ _ _ _ _ _ _ _ _ _ _ _ a9 (qx b _) gF aM hB fg rf tQ kT tR tS uV (tP b y _) nE rz fw y7 A6 (y6 b y z r) DB G0 (mD (by omega)) DA y8 ch LD LF LG e2 A7 A8 eh),gn⟩
       · have LH:mo (Int.ofNat 4) (Int.ofNat 3)=false:=l6 (by omega)
         cases r with
         |nil=>simp at aT
         |cons w r=>
          have hw:=uO w
          have ww:c5 (w::r) 128 191=(decide (128<=w.toNat)&&decide (w.toNat<=191)):=rfl
          have ea:¬(128<=w.toNat/\w.toNat<=191)->ec (b::y::z::w::r)=0:=λhw=>by
           have:c5 (w::r) 128 191=false:=by rw[ww];simp;omega
           rw[y3 h0 aA.he]
           simp only[List.drop_succ_cons,List.drop_zero,this,Bool.and_false];rfl
          by_cases kx:w.toNat<128
          · exact bad (ea (by omega)) (abz (C m) b.toNat x lo hi (b::y::z::w::r) h _ _ _ _ _ _ _ _ _ a9 (qx b _) gF aM hB fg rf tQ kT tR tS uV (tP b y _) nE rz fw y7 A6 (y6 b y z _) DB G0 LH (LB b y z w r) (ib kx))
          have R0:jZ (Int.ofNat w.toNat) (Int.ofNat 128)=false:=iR kx
          by_cases ih:191<w.toNat
          · exact bad (ea (by omega)) (abA (C m) b.toNat x lo hi (b::y::z::w::r) h _ _ _ _ _ _ _ _ _ a9 (qx b _) gF aM hB fg rf tQ kT tR tS uV (tP b y _) nE rz fw y7 A6 (y6 b y z _) DB G0 LH (LB b y z w r) R0 (ib ih))
          have aco:jZ (Int.ofNat 191) (Int.ofNat w.toNat)=false:=iR ih
          have p0:w.toNat/64=2:=by omega
          have acp:c5 (w::r) 128 191=true:=by rw[ww];simp;omega
          have kw:arith BinOp.and IntKind.u8 (Int.ofNat w.toNat) (Int.ofNat 63)=some (ax (w.toNat %64)):=wH 6 hw (by decide)
          have acq:=wI (P:=an) (h:=g) oI oJ (show w.toNat %64<256 by omega)
          have DA:arith BinOp.and IntKind.u8 (Int.ofNat b.toNat) (Int.ofNat 7)=some (ax (b.toNat %8)):=wH 3 ag (by decide)
          have y8:=wI (P:=an) (h:=g) oI oJ (show b.toNat %8<256 by omega)
          have ch:gv BinOp.shl IntKind.i32 (Int.ofNat (b.toNat %8)) (Int.ofNat 18)=some (.int .i32 (Int.ofNat (b.toNat %8*262144))):=AI 18 (by decide) (by omega)
          have LG:gv BinOp.shl IntKind.i32 (Int.ofNat (y.toNat %64)) (Int.ofNat 12)=some (.int .i32 (Int.ofNat (y.toNat %64*4096))):=AI 12 (by decide) (by omega)
          have acr:gv BinOp.shl IntKind.i32 (Int.ofNat (z.toNat %64)) (Int.ofNat 6)=some (.int .i32 (Int.ofNat (z.toNat %64*64))):=AI 6 (by decide) (by omega)
          have e2:arith BinOp.or IntKind.i32 (Int.ofNat (b.toNat %8*262144)) (Int.ofNat (y.toNat %64*4096))=some (.int .i32 (Int.ofNat (b.toNat %8*262144+y.toNat %64*4096))):=AH 18 (by omega) (by omega) (by omega)
          have eh:arith BinOp.or IntKind.i32 (Int.ofNat (b.toNat %8*262144+y.toNat %64*4096)) (Int.ofNat (z.toNat %64*64))=some (.int .i32 (Int.ofNat (b.toNat %8*262144+y.toNat %64*4096+z.toNat %64*64))):=AH 12 (by omega) (by omega) (by omega)
          have g4:arith BinOp.or IntKind.i32 (Int.ofNat (b.toNat %8*262144+y.toNat %64*4096+z.toNat %64*64)) (Int.ofNat (w.toNat %64))=some (.int .i32 (Int.ofNat (b.toNat %8*262144+y.toNat %64*4096+z.toNat %64*64+w.toNat %64))):=AH 6 (by omega) (by omega) (by omega)
          have acs:ec (b::y::z::w::r)=4:=by
           rw[y3 h0 aA.he,GD]
           simp only[List.drop_succ_cons,List.drop_zero,RZ,acp];rfl
          rw[abc aj LC q4 p0 acs]
          exact⟨g,fin (abB (C m) b.toNat x lo hi (b::y::z::w::r) h _ _ _ _ _ _ _ _ _ _ _ _ _ _ _ _ _ _ _ _ _ _ _ a9 (qx b _) gF aM hB fg rf tQ kT tR tS uV (tP b y _) nE rz fw y7 A6 (y6 b y z _) DB G0 LH (LB b y z w r) R0 aco DA y8 ch LD LF LG e2 A7 A8 acr eh kw acq g4),gn⟩
theorem acu(m:Nat)(b:UInt8)(t:List UInt8)(h:I)(aI:gH h dL=true):∃ay,C (m+2) (.fn 110) [.str (b::t)] h=.ret (.aF [.int .i32 (Int.ofNat (dS (b::t)).1),ad (dS (b::t)).2]) ay/\Ext h.n h ay:=by
 have ag:=uO b
 by_cases h0:b.toNat<128
 · have e:dS (b::t)=(b.toNat,1):=by unfold dS;exact if_pos h0
   rw[e]
   exact⟨h,eI (intr:=eD) (n:=m+1) (args:=[.str (b::t)]) Tryz.func110 (abo (C (m+1)) b t h _ _ (qx b t) (ib h0) (wI oI oJ ag)) (.inl rfl) (by kernel_rfl),Ext.refl _ _⟩
 · obtain⟨g,a9,bb⟩:=ack m b t h aI h0
   exact⟨g,eI (intr:=eD) (n:=m+1) (args:=[.str (b::t)]) Tryz.func110 (abp (C (m+1)) b t h _ _ _ _ (qx b t) (iR h0) a9) (.inl rfl) (by kernel_rfl),bb⟩
theorem acv(b:Nat)(h:I)
  (H1:eQ 97 b=true)
  (a4:eQ b 122=true):
  a0 an Tryz.f73 none call [] (az [(0,ax b)] h) (.ret)
   (az [(2,.bool true)] h):=
 bA [2] (cY 11 2047 []) 16 11 2345911136256 (kP H1 a4 bz)
theorem acw(b:Nat)(h:I)
  (H1:eQ 97 b=true)
  (a4:eQ b 122=false)
  (bh:eQ 65 b=true)
  (bx:eQ b 90=false):
  a0 an Tryz.f73 none call [] (az [(0,ax b)] h) (.ret)
   (az [(2,.bool (dA b 95))] h):=
 bA [2] (cY 14 14544 []) 16 14 9608852302738773 (jt H1 a4 bh bx bz)
theorem acx(b:Nat)(h:I)
  (H1:eQ 97 b=false)
  (a4:eQ 65 b=true)
  (bh:eQ b 90=true):
  a0 an Tryz.f73 none call [] (az [(0,ax b)] h) (.ret)
   (az [(2,.bool true)] h):=
 bA [2] (cY 14 215 []) 16 14 9606506963211332 (m9 H1 a4 bh bz)
theorem acy(b:Nat)(h:I)
  (H1:eQ 97 b=false)
  (a4:eQ 65 b=true)
  (bh:eQ b 90=false):
  a0 an Tryz.f73 none call [] (az [(0,ax b)] h) (.ret)
   (az [(2,.bool (dA b 95))] h):=
 bA [2] (cY 14 208 []) 16 14 9606506963211332 (m9 H1 a4 bh bz)
theorem acz(b:Nat)(h:I)
  (H1:eQ 97 b=false)
  (a4:eQ 65 b=false):
  a0 an Tryz.f73 none call [] (az [(0,ax b)] h) (.ret)
   (az [(2,.bool (dA b 95))] h):=
 bA [2] (cY 14 0 []) 16 14 9606506963210513 (kP H1 a4 bz)
theorem acA(b:Nat)(h:I)
  (H1:eQ 48 b=true):
  a0 an Tryz.f76 none call [] (az [(0,ax b)] h) (.ret)
   (az [(2,.bool (eQ b 57))] h):=
 bA [2] (cY 3 7 []) 16 3 546 (hU H1 bz)
theorem acB(b:Nat)(h:I)
  (H1:eQ 48 b=false):
  a0 an Tryz.f76 none call [] (az [(0,ax b)] h) (.ret)
   (az [(2,.bool false)] h):=
 bA [2] (cY 3 0 []) 16 3 546 (hU H1 bz)
theorem acC(b:Nat)(h:I)(dm:Bool)(aS:I)
  (H1:call (.fn 73) [ax b] h=a8.ret (.bool dm) aS)
  (a4:dm=true):
  a0 an Tryz.f75 none call [] (az [(0,ax b)] h) (.ret)
   (az [(2,.bool true)] aS):=
 bA [2] (.c (.bool dm) aS::cY 3 7 []) 16 4 9011 (kP H1 a4 bz)
theorem acD(b:Nat)(h:I)(dm:Bool)(aS:I)(hL:Bool)(cV:I)
  (H1:call (.fn 73) [ax b] h=a8.ret (.bool dm) aS)
  (a4:dm=false)
  (bh:call (.fn 76) [ax b] aS=a8.ret (.bool hL) cV):
  a0 an Tryz.f75 none call [] (az [(0,ax b)] h) (.ret)
   (az [(2,.bool hL)] cV):=
 bA [2] (.c (.bool dm) aS::cY 2 0 [.c (.bool hL) cV,.b false]) 16 5 144195 (m9 H1 a4 bh bz)
theorem acE(p e:Nat)(h:I)(bS:List UInt8)(aP:Nat)(dm:Bool)(aS:I)(aY:Nat)
  (H1:aC h p (0+0)=some (.str bS))
  (a4:cz e bS.length=true)
  (bh:eJ e bS=some (ax aP))
  (bx:call (.fn 76) [ax aP] h=a8.ret (.bool dm) aS)
  (bW:dm=true)
  (cA:arith .add .i64 (.ofNat e) (.ofNat 1)=some (ad aY)):
  a0 an Tryz.f74 none call [1,1,0,0,0] (az [(0,af p),(1,.fn 76 [] []),(5,ad e)] h) (.nrm)
   (az [(0,af p),(1,.fn 76 [] []),(5,ad aY)] aS):=
 bA [0,1,5] (.v (.str bS)::cY 5 31 (.v (.str bS)::cY 2 3 (.v (ax aP)::.b true::.c (.bool dm) aS::cY 2 3 [.v (ad aY)]))) 16 15 0x233333233435367 (qh H1 a4 bh bx bW cA bz)
theorem acF(p e:Nat)(h:I)(bS:List UInt8)(aP:Nat)(dm:Bool)(aS:I)
  (H1:aC h p (0+0)=some (.str bS))
  (a4:cz e bS.length=true)
  (bh:eJ e bS=some (ax aP))
  (bx:call (.fn 76) [ax aP] h=a8.ret (.bool dm) aS)
  (bW:dm=false):
  a0 an Tryz.f74 none call [1,1,0,0,0] (az [(0,af p),(1,.fn 76 [] []),(5,ad e)] h) (.exit 0)
   (az [(0,af p),(1,.fn 76 [] []),(5,ad e)] aS):=
 bA [0,1,5] (.v (.str bS)::cY 5 31 (.v (.str bS)::cY 2 3 (.v (ax aP)::.b true::.c (.bool dm) aS::cY 2 2 []))) 16 14 9907918911845686 (nM H1 a4 bh bx bW bz)
theorem acG(p e:Nat)(h:I)(bS:List UInt8)
  (H1:aC h p (0+0)=some (.str bS))
  (a4:cz e bS.length=false):
  a0 an Tryz.f74 none call [1,1,0,0,0] (az [(0,af p),(1,.fn 76 [] []),(5,ad e)] h) (.exit 0)
   (az [(0,af p),(1,.fn 76 [] []),(5,ad e)] h):=
 bA [0,1,5] (.v (.str bS)::cY 10 0 []) 16 11 2418925581105 (kP H1 a4 bz)
theorem acH(p e:Nat)(h:I)(bS:List UInt8)(aP:Nat)(dm:Bool)(aS:I)(aY:Nat)
  (H1:aC h p (0+0)=some (.str bS))
  (a4:cz e bS.length=true)
  (bh:eJ e bS=some (ax aP))
  (bx:call (.fn 75) [ax aP] h=a8.ret (.bool dm) aS)
  (bW:dm=true)
  (cA:arith .add .i64 (.ofNat e) (.ofNat 1)=some (ad aY)):
  a0 an Tryz.f74 none call [1,1,0,0,0] (az [(0,af p),(1,.fn 75 [] []),(5,ad e)] h) (.nrm)
   (az [(0,af p),(1,.fn 75 [] []),(5,ad aY)] aS):=
 bA [0,1,5] (.v (.str bS)::cY 5 31 (.v (.str bS)::cY 2 3 (.v (ax aP)::.b true::.c (.bool dm) aS::cY 2 3 [.v (ad aY)]))) 16 15 0x233333233435367 (qh H1 a4 bh bx bW cA bz)
theorem acI(p e:Nat)(h:I)(bS:List UInt8)(aP:Nat)(dm:Bool)(aS:I)
  (H1:aC h p (0+0)=some (.str bS))
  (a4:cz e bS.length=true)
  (bh:eJ e bS=some (ax aP))
  (bx:call (.fn 75) [ax aP] h=a8.ret (.bool dm) aS)
  (bW:dm=false):
  a0 an Tryz.f74 none call [1,1,0,0,0] (az [(0,af p),(1,.fn 75 [] []),(5,ad e)] h) (.exit 0)
   (az [(0,af p),(1,.fn 75 [] []),(5,ad e)] aS):=
 bA [0,1,5] (.v (.str bS)::cY 5 31 (.v (.str bS)::cY 2 3 (.v (ax aP)::.b true::.c (.bool dm) aS::cY 2 2 []))) 16 14 9907918911845686 (nM H1 a4 bh bx bW bz)
theorem acJ(p e:Nat)(h:I)(bS:List UInt8)
  (H1:aC h p (0+0)=some (.str bS))
  (a4:cz e bS.length=false):
  a0 an Tryz.f74 none call [1,1,0,0,0] (az [(0,af p),(1,.fn 75 [] []),(5,ad e)] h) (.exit 0)
   (az [(0,af p),(1,.fn 75 [] []),(5,ad e)] h):=
 bA [0,1,5] (.v (.str bS)::cY 10 0 []) 16 11 2418925581105 (kP H1 a4 bz)
theorem amP(p f e:Nat)(h g:I)(aP:Nat)(bS:List UInt8)(aY:Nat)(dX:List UInt8)(aS:I)
  (H1:aC h p (0+1)=some (ad aP))
  (a4:a0 an Tryz.f74 none call [1,1,0,0] (az [(5,ad aP),(4,.str []),(0,af p),(1,.fn f [] [])] h) (.exit 0) (az [(0,af p),(5,ad e)] g))
  (bh:aC (I.room g 11) p (0+0)=some (.str bS))
  (bx:aC (I.room g 11) p (0+1)=some (ad aY))
  (bW:kC an (I.room g 11) 9 (aa.str bS) (some (ad aY)) (some (ad e)) none=some (aa.str dX))
  (cA:aJ.storeCells (I.room g 11) p (0+1) [ad e]=some aS):
  a0 an Tryz.f74 none call [] (az [(0,af p),(1,.fn f [] [])] h) (.ret)
   (az [(4,.str dX)] aS):=
 bA [4] [Hint.v (ad aP),Hint.loop (cl.exit 0) (bD.mk [(0,aa.ptr p 0),(5,ad e)] [] cm.none g),Hint.v (aa.str bS),Hint.v (ad aY),Hint.v (aa.str dX),Hint.cU (aa.aF []) aS] 256 28 0x20304050607080708090a0b04070807080c0d0e050f101106111213 (dN H1 a4 bh bx bW (b4 (af p)) (ck (af p)) (b4 (.ptr p (0+0))) (ck (.ptr p (0+0)))<|dN (b4 (.str bS)) (b4 (.ptr p (0+1))) (ck (.ptr p (0+1))) (b4 (ad aY)) (b4 (ad e)) (ck (ad e)) (b4 (.str dX)) (ck (.str dX)) (⟨by kernel_rfl,cA,rfl⟩:some 1=some 1/\aJ.storeCells (I.room g 11) p (0+1) [ad e]=some aS/\aa.aF []=aa.aF []) bz)
theorem acK(p:Nat)(h:I)(bS:List UInt8)(aP:Nat)(dX oK A9:List UInt8)(dm:Bool)(aS:I)
  (H1:aC (I.room h 17) p (0+0)=some (.str bS))
  (a4:aC (I.room h 17) p (0+1)=some (ad aP))
  (bh:kC an (I.room h 17) 9 (aa.str bS) (some (ad aP)) none none=some (aa.str dX))
  (bx:call (.fn 109) [.str dX,.str [10]] (I.room h 17)=a8.ret (.aF [.str oK,.str A9,.bool dm]) aS):
  a0 an Tryz.f71 none call [] (az [(0,af p)] h) (.ret)
   (az [(2,.str oK)] aS):=
 bA [2] [.v (.str bS),.v (ad aP),.v (.str dX),.c (.aF [.str oK,.str A9,.bool dm]) aS] 256 36 0x20304050607060708090a02060706070b0c0d030e040f10111213141516111213141516 (dN H1 a4 bh bx (b4 (af p)) (ck (af p)) (b4 (.ptr p (0+0))) (ck (.ptr p (0+0))) (b4 (.str bS))<|dN (b4 (.ptr p (0+1))) (ck (.ptr p (0+1))) (b4 (ad aP)) (b4 (.str dX)) (b4 (.aF [.str oK,.str A9,.bool dm])) (ck (.aF [.str oK,.str A9,.bool dm])) (b4 (.str oK)) (ck (.str oK)) (b4 (.str A9))<|m9 (ck (.str A9)) (b4 (.bool dm)) (ck (.bool dm)) bz)
theorem acL(s t:List UInt8)(h:I)(bS dX:List UInt8)(dm:Bool)(aS:I)
  (H1:call (.fn 131) [.str s,.str t] h=a8.ret (.aF [.str bS,.str dX,.bool dm]) aS):
  a0 an Tryz.f109 none call [] (az [(0,.str s),(1,.str t)] h) (.ret)
   (az [(4,.str bS),(5,.str dX),(6,.bool dm)] aS):=
 bA [4,5,6] [.c (.aF [.str bS,.str dX,.bool dm]) aS] 16 1 2 (hU H1 bz)
theorem acM(s:List UInt8)(c:UInt8)(h g:I)(aP:Nat)(aS:I)(bS:List UInt8)(aY:Nat)(dX:List UInt8)
  (H1:call (.fn 69) [.str s,.str [c]] h=a8.ret (ad aP) aS)
  (a4:kC an (I.room aS 12) 9 (aa.str s) none (some (ad aP)) none=some (aa.str bS))
  (bh:arith .add .i64 (.ofNat aP) (.ofNat 1)=some (ad aY))
  (bx:kC an (I.room aS 12) 9 (aa.str s) (some (ad aY)) none none=some (aa.str dX)):
  a0 an Tryz.f131 none call [] (az [(0,.str s),(1,.str [c])] h) (.ret)
   (az [(4,.str bS),(5,.str dX),(6,.bool true)] (I.room aS 12)):=
 bA [4,5,6] [.c (ad aP) aS,.b true,.v (.str bS),.v (ad aY),.v (.str dX)] 256 29 0x2030405060708090a0b040708090a0c0d0e0f100511060b1211131415 (dN H1 (by kernel_rfl:eQ 0 aP=true) a4 bh bx (b4 (.str s)) (ck (.str s)) (b4 (ad aP)) (ck (ad aP))<|dN (b4 (.str bS)) (b4 (.str [c])) (ck (.str [c])) (b4 (ad 1)) (by kernel_rfl:o2 an (I.room aS 12) 9 (aa.str [c])=some (ad 1)) (b4 (ad aY)) (b4 (.str dX)) (ck (.str bS)) (ck (.str dX))<|kP (b4 (.bool true)) (ck (.bool true)) bz)
theorem acN(s:List UInt8)(c:UInt8)(h g:I)
  (H1:call (.fn 69) [.str s,.str [c]] h=a8.ret (.int .i64 (.negSucc 0)) g):
  a0 an Tryz.f131 none call [] (az [(0,.str s),(1,.str [c])] h) (.ret)
   (az [(4,.str s),(5,.str []),(6,.bool false)] g):=
 bA [4,5,6] [.c (.int .i64 (-1)) g,.b false] 16 2 35 (kP H1 (by kernel_rfl:mo (Int.ofNat 0) (Int.negSucc 0)=false) bz)
theorem R1(s:List UInt8)(c:Nat)(x:Int)(h g:I)
  (H1:call (.fn 128) [.str s,ax c] h=a8.ret (.int .i64 x) g):
  a0 an Tryz.f103 none call [] (az [(0,.str s),(1,ax c)] h) (.ret)
   (az [(4,.int .i64 x)] g):=
 bA [4] [.c (.int .i64 x) g] 16 1 2 (hU H1 bz)
theorem acO(a:Nat)(h:I):
  a0 an Tryz.f77 none call [] (az [(0,ad a)] h) (.aK (.iface 68 (af (I.n h))))
   (az [] (I.push h (aD [ad 10,ad a] 31))):=
 bA [] [] 16 0 0 bz
theorem acP(p a c r n:Nat)(h g:I)(bS dX:List UInt8)(aP aY:Nat)(aS:I)(gP:aa)(cV:I)
  (H1:aC h p (0+0)=some (.str bS))
  (a4:kC an h 9 (aa.str bS) (some (ad a)) none none=some (aa.str dX))
  (bh:call (.fn 110) [.str dX] h=a8.ret (.aF [.int .i32 (.ofNat aP),ad aY]) aS)
  (bx:dA c 65533=true)
  (bW:dA aY 1=true)
  (cA:call (.fn 77) [ad a] aS=a8.aK gP cV):
  a0 an Tryz.f72 none call [] (az [(0,af p),(1,ad a),(2,.int .i32 (.ofNat c))] h) (.aK gP)
   (az [] cV):=
 bA [] (.v (.str bS)::.v (.str dX)::.c (.aF [.int .i32 (.ofNat aP),ad aY]) aS::cY 4 15 [.p gP cV]) 16 8 591746407 (qh H1 a4 bh bx bW cA bz)
theorem acQ(p a c r n:Nat)(h g:I)(bS dX:List UInt8)(aP aY:Nat)(aS:I)
  (H1:aC h p (0+0)=some (.str bS))
  (a4:kC an h 9 (aa.str bS) (some (ad a)) none none=some (aa.str dX))
  (bh:call (.fn 110) [.str dX] h=a8.ret (.aF [.int .i32 (.ofNat aP),ad aY]) aS)
  (bx:dA c 65533=true)
  (bW:dA aY 1=false):
  a0 an Tryz.f72 none call [] (az [(0,af p),(1,ad a),(2,.int .i32 (.ofNat c))] h) (.nrm)
   (az [] aS):=
 bA [] (.v (.str bS)::.v (.str dX)::.c (.aF [.int .i32 (.ofNat aP),ad aY]) aS::cY 4 14 []) 16 7 36984150 (nM H1 a4 bh bx bW bz)
theorem acR(p a c r n:Nat)(h g:I)(bS dX:List UInt8)(aP aY:Nat)(aS:I)
  (H1:aC h p (0+0)=some (.str bS))
  (a4:kC an h 9 (aa.str bS) (some (ad a)) none none=some (aa.str dX))
  (bh:call (.fn 110) [.str dX] h=a8.ret (.aF [.int .i32 (.ofNat aP),ad aY]) aS)
  (bx:dA c 65533=false):
  a0 an Tryz.f72 none call [] (az [(0,af p),(1,ad a),(2,.int .i32 (.ofNat c))] h) (.nrm)
   (az [] aS):=
 bA [] (.v (.str bS)::.v (.str dX)::.c (.aF [.int .i32 (.ofNat aP),ad aY]) aS::cY 4 0 []) 16 7 36984145 (jt H1 a4 bh bx bz)
theorem acS(p:Nat)(s:List UInt8)(h g:I)
  (H1:call (.fn 71) [af p] h=a8.ret (.str s) g):
  a0 an Tryz.f36 none call [0] (az [(0,af p)] h) (.nrm)
   (az [(0,af p),(2,.str s)] g):=
 bA [0,2] [.c (.str s) g] 16 1 2 (hU H1 bz)
theorem acT(p:Nat)(s:List UInt8)(h:I):
  a0 an Tryz.f36 none call [1,0,0] (az [(0,af p),(2,.str s)] h) (.nrm)
   (az [(0,af p),(2,.str s),(8,af (I.n h))] (I.push h (.fp s 0))):=
 bA [0,2,8] [] 16 0 0 bz
theorem acU(p:Nat)(s:List UInt8)(h:I)(aP aY:Nat)(aS:I)
  (H1:aC h p (0+1)=some (ad aP))
  (a4:arith .add .i64 (.ofNat aP) (.ofNat s.length)=some (ad aY))
  (bh:aJ.storeCells h p (0+1) [ad aY]=some aS):
  a0 an Tryz.f36 none call [1,1] (az [(0,af p),(2,.str s)] h) (.nrm)
   (az [] aS):=
 bA [] [.v (ad aP),.v (ad aY),.cU (.aF []) aS] 16 3 564 (m9 H1 a4 (⟨by kernel_rfl,bh,rfl⟩:some 1=some 1/\aJ.storeCells h p (0+1) [ad aY]=some aS/\aa.aF []=aa.aF []) bz)
theorem R2(p it:Nat)(s:List UInt8)(h g:I)
  (H1:kh h (aa.ptr it 0) true=some (aa.aF [aa.bool false],g)):
  a0 an Tryz.f36 none call [1,0,1,0,0] (az [(0,af p),(2,.str s),(8,af it)] h) (.exit 0)
   (az [(0,af p),(2,.str s),(8,af it)] g):=
 bA [0,2,8] [.cU (.aF [.bool false]) g,.b false] 16 2 33 (hU H1 bz)
theorem acV(p it i c:Nat)(s:List UInt8)(h g:I)(aP aY:Nat)(aS:I)
  (H1:kh h (aa.ptr it 0) true=some (aa.aF [aa.bool true,ad i,aa.int IntKind.i32 (Int.ofNat c)],g))
  (a4:aC g p (0+1)=some (ad aP))
  (bh:arith .add .i64 (.ofNat aP) (.ofNat i)=some (ad aY))
  (bx:call (.fn 72) [af p,ad aY,.int .i32 (.ofNat c)] g=a8.ret (.aF []) aS):
  a0 an Tryz.f36 none call [1,0,1,0,0] (az [(0,af p),(2,.str s),(8,af it)] h) (.nrm)
   (az [(0,af p),(2,.str s),(8,af it)] aS):=
 bA [0,2,8] [.cU (.aF [.bool true,ad i,.int .i32 (.ofNat c)]) g,.b true,.v (ad aP),.v (ad aY),.c (.aF []) aS] 16 5 131909 (jt H1 a4 bh bx bz)
theorem acW(p a:Nat)(h:I)(aP:Nat)
  (H1:aC h p (0+1)=some (ad aP)):
  a0 an Tryz.f78 none call [1,0] (az [(0,af p)] h) (.nrm)
   (az [(0,af p),(3,ad aP),(4,ad 0)] h):=
 bA [0,3,4] [.v (ad aP)] 16 1 2 (hU H1 bz)
theorem acX(p a n b m:Nat)(cp:dn)(s:List UInt8)(h g al:I)
  (H1:call (.fn 74) [af p,.fn 76 [] []] h=a8.ret (.str s) g)
  (a4:df an 9 44 (aa.str s) g=dW.val (aa.slice b 0 m cp) al):
  a0 an Tryz.f78 none call [1,1,0,0] (az [(0,af p),(3,ad a),(4,ad n)] h) (.nrm)
   (az [(0,af p),(3,ad a),(4,ad n),(14,.slice b 0 m cp),(15,ad m),(16,ad 0)] al):=
 bA [0,3,4,14,15,16] [.c (.str s) g,.cU (.slice b 0 m cp) al] 16 2 35 (kP H1 a4 bz)
theorem acY(p a n b m i c:Nat)(cp:dn)(h:I)(aP aY ba cd db:Nat)(gP:aa)(aS:I)
  (H1:cz i m=true)
  (a4:Nat.le (Nat.succ i) m)
  (bh:aC h b (0+i*1)=some (ax aP))
  (bx:arith .sub .u8 (.ofNat aP) (.ofNat 48)=some (ax aY))
  (bW:df an 5 2 (ax aY) h=dW.val (ad ba) h)
  (cA:arith .sub .i64 (.ofNat 9223372036854775807) (.ofNat ba)=some (ad cd))
  (c2:arith .quo .i64 (.ofNat cd) (.ofNat 10)=some (ad db))
  (di:cz db n=true)
  (eE:call (.fn 77) [ad a] h=a8.aK gP aS):
  a0 an Tryz.f78 none call [1,1,0,1,0,0] (az [(0,af p),(3,ad a),(4,ad n),(14,.slice b 0 m cp),(15,ad m),(16,ad i)] h) (.aK gP)
   (az [(0,af p),(3,ad a),(4,ad n),(14,.slice b 0 m cp),(15,ad m),(16,ad i)] aS):=
 bA [0,3,4,14,15,16] [.b true,.v (.ptr b (0+i*1)),.v (ax aP),.v (ax aY),.v (ad ba),.v (ad cd),.v (ad db),.b true,.p gP aS] 16 9 9468016794 (dN H1 (⟨a4,rfl⟩:Nat.le (Nat.succ i) m/\aa.ptr b (0+i*1)=aa.ptr b (0+i*1)) bh bx bW cA c2 di eE bz)
theorem acZ(p a n b m i c:Nat)(cp:dn)(h:I)(aP aY ba cd db dM eu fH:Nat)
  (H1:cz i m=true)
  (a4:Nat.le (Nat.succ i) m)
  (bh:aC h b (0+i*1)=some (ax aP))
  (bx:arith .sub .u8 (.ofNat aP) (.ofNat 48)=some (ax aY))
  (bW:df an 5 2 (ax aY) h=dW.val (ad ba) h)
  (cA:arith .sub .i64 (.ofNat 9223372036854775807) (.ofNat ba)=some (ad cd))
  (c2:arith .quo .i64 (.ofNat cd) (.ofNat 10)=some (ad db))
  (di:cz db n=false)
  (eE:arith .mul .i64 (.ofNat 10) (.ofNat n)=some (ad dM))
  (g3:arith .add .i64 (.ofNat dM) (.ofNat ba)=some (ad eu))
  (hp:arith .add .i64 (.ofNat i) (.ofNat 1)=some (ad fH)):
  a0 an Tryz.f78 none call [1,1,0,1,0,0] (az [(0,af p),(3,ad a),(4,ad n),(14,.slice b 0 m cp),(15,ad m),(16,ad i)] h) (.nrm)
   (az [(0,af p),(3,ad a),(4,ad eu),(14,.slice b 0 m cp),(15,ad m),(16,ad fH)] h):=
 bA [0,3,4,14,15,16] [.b true,.v (.ptr b (0+i*1)),.v (ax aP),.v (ax aY),.v (ad ba),.v (ad cd),.v (ad db),.b false,.v (ad dM),.v (ad eu),.v (ad fH)] 16 11 2423812299452 (dN H1 (⟨a4,rfl⟩:Nat.le (Nat.succ i) m/\aa.ptr b (0+i*1)=aa.ptr b (0+i*1)) bh bx bW cA c2 di eE<|kP g3 hp bz)
theorem ac0(p a n b m i c:Nat)(cp:dn)(h:I)
  (H1:cz i m=false):
  a0 an Tryz.f78 none call [1,1,0,1,0,0] (az [(0,af p),(3,ad a),(4,ad n),(14,.slice b 0 m cp),(15,ad m),(16,ad i)] h) (.exit 0)
   (az [(0,af p),(3,ad a),(4,ad n),(14,.slice b 0 m cp),(15,ad m),(16,ad i)] h):=
 bA [0,3,4,14,15,16] [.b false] 16 1 2 (hU H1 bz)
theorem ac1(n:Nat)(h:I):
  a0 an Tryz.f78 none call [1,1,1] (az [(4,ad n)] h) (.ret)
   (az [(2,ad n)] h):=
 bA [2] [] 16 0 0 bz
theorem ac2(s:List UInt8)(c:UInt8)(x:Int)(h g:I)
  (H1:gb [c] s=true):
  a0 an Tryz.f69 none call [] (az [(0,.str s),(1,.str [c])] h) (.ret)
   (az [(4,ad 0)] h):=
 bA [4] (cY 5 1 []) 16 5 139811 (kP (by kernel_rfl:dA 1 0=false) H1 bz)
theorem ac3(s:List UInt8)(c:UInt8)(x:Int)(h g:I)(aP:Nat)
  (H1:gb [c] s=false)
  (a4:eJ 0 [c]=some (ax aP))
  (bh:call (.fn 103) [.str s,ax aP] h=a8.ret (.int .i64 x) g):
  a0 an Tryz.f69 none call [] (az [(0,.str s),(1,.str [c])] h) (.ret)
   (az [(4,.int .i64 x)] g):=
 bA [4] (cY 6 1 [.v (ax aP),.c (.int .i64 x) g]) 16 8 572666966 (nM (by kernel_rfl:dA 1 0=false) H1 (by kernel_rfl:dA 1 1=true) a4 bh bz)
theorem ac4(p it i c a b:Nat)(s:List UInt8)(v:aa)(h g al:I)(aP aY:Nat)
  (H1:kh h (aa.ptr it 0) true=some (aa.aF [aa.bool true,ad i,aa.int IntKind.i32 (Int.ofNat c)],g))
  (a4:aC g p (0+1)=some (ad aP))
  (bh:arith .add .i64 (.ofNat aP) (.ofNat i)=some (ad aY))
  (bx:call (.fn 72) [af p,ad aY,.int .i32 (.ofNat c)] g=a8.aK v al):
  a0 an Tryz.f36 none call [1,0,1,0,0] (az [(0,af p),(2,.str s),(8,af it)] h) (.aK v)
   (az [(0,af p),(2,.str s),(8,af it)] al):=
 bA [0,2,8] [.cU (.aF [.bool true,ad i,.int .i32 (.ofNat c)]) g,.b true,.v (ad aP),.v (ad aY),.p v al] 16 5 131909 (jt H1 a4 bh bx bz)
theorem ac5(p:Nat)(h:I):
  a0 an Tryz.f78 none call [0] (az [(0,af p)] h) (.nrm)
   (az [(0,af p)] h):=
 bA [0] [] 16 0 0 bz
theorem ac6(n:Nat)(s:List UInt8)(c:Nat)(h:I)(ak:c<256):C (n+1) (.fn 128) [.str s,ax c] h=.ret (.int .i64 (kZ c s 0)) h:=by
 have ag:Nat.blt c 256=true:=by simpa[Nat.blt_eq] using ak
 have hi:eD 128 [.str s,ax c] h=none:=by kernel_rfl
 have sn:Tryz.f128.body=none:=by rfl
 have ab:vO an Tryz.f128 Tryz.f128.name [.str s,ax c] h=some (.int .i64 (kZ c s 0),h):=by
  have aT:Tryz.f128.name= "internal/bytealg.IndexByteString" :=by rfl
  simp only[vO,aT,if_true,ag]
 simp only[C,eA,hi,ta,Tryz.func128,sn,ab]
theorem R3(n:Nat)(s:List UInt8)(c:Nat)(h:I)(ak:c<256):C (n+2) (.fn 103) [.str s,ax c] h=.ret (.int .i64 (kZ c s 0)) h:=
 eI (intr:=eD) (n:=n+1) (args:=[.str s,ax c]) Tryz.func103 (R1 (C (n+1)) s c _ h h (ac6 n s c h ak)) (.inl rfl) (by kernel_rfl)
theorem R4(n:Nat)(s:List UInt8)(c:Nat)(h:I)(ak:c<256):C (n+3) (.fn 126) [.str s,ax c] h=.ret (.int .i64 (kZ c s 0)) h:=
 eI (intr:=eD) (n:=n+2) (args:=[.str s,ax c]) Tryz.func126 (RT (C (n+2)) s c _ h h (R3 n s c h ak)) (.inl rfl) (by kernel_rfl)
theorem R5:∀(s:List UInt8) (i:Nat),(kZ 10 s i=-1/\line s=s)\/(kZ 10 s i=Int.ofNat (i+(line s).length)/\(line s).length<s.length)
 |[],i=>.inl ⟨rfl,rfl⟩
 |b::s,i=>by
  by_cases ag:b.toNat=10
  · refine .inr ⟨?_,by rw[w4 ag];simp⟩
    have:Nat.beq b.toNat 10=true:=by rw[ag];rfl
    rw[w4 ag]
    simp only[kZ,this];rfl
  · have:Nat.beq b.toNat 10=false:=by
      cases ab:Nat.beq b.toNat 10 with
      |false=>rfl
      |true=>exact absurd (Nat.eq_of_beq_eq_true ab) ag
    rw[sD ag]
    simp only[kZ,this]
    rcases R5 s (i+1) with⟨J,ae⟩|⟨J,ae⟩
    · exact .inl ⟨J,by rw[ae]⟩
    · refine .inr ⟨?_,by simpa using ae⟩
      rw[J,List.length_cons]
      congr 1;omega
theorem ac7(s:List UInt8):s.take (line s).length=line s:=by
 have:line s<+:s:=List.takeWhile_prefix _
 exact(List.prefix_iff_eq_take.1 this).symm
theorem R6{k:Nat}(ai:k<=s.length):kC an h 9 (.str s) none (some (ad k)) none=some (.str (s.take k)):=ZU A4 ai
theorem A_{k:Nat}(ai:k<=s.length):kC an h 9 (.str s) (some (ad k)) none none=some (.str (s.drop k)):=ZV A4 ai
theorem ac8(n:Nat)(s:List UInt8)(h:I)(ah:s.length<=1000000):∃r b ay,C (n+5) (.fn 109) [.str s,.str [10]] h=.ret (.aF [.str (line s),.str r,.bool b]) ay/\Ext h.n h ay:=by
 have key:∃r b ay,C (n+4) (.fn 131) [.str s,.str [10]] h=.ret (.aF [.str (line s),.str r,.bool b]) ay/\Ext h.n h ay:=by
  have oC:C (n+3) (.fn 69) [.str s,.str [10]] h=.ret (.int .i64 (kZ 10 s 0)) h:=by
   cases ag:gb [10] s with
   |true=>
    have ah:s=[10]:=by
     rw[o_] at ag
     exact(eq_of_beq ag).symm
    subst ah
    exact eI (intr:=eD) (n:=n+2) (args:=[.str [10],.str [10]]) Tryz.func69 (ac2 (C (n+2)) [10] 10 0 h h ag) (.inl rfl) (by kernel_rfl)
   |false=>
    exact eI (intr:=eD) (n:=n+2) (args:=[.str s,.str [10]]) Tryz.func69 (ac3 (C (n+2)) s 10 _ h h _ ag rfl (R3 n s 10 h (by decide))) (.inl rfl) (by kernel_rfl)
  rcases R5 s 0 with⟨J,ae⟩|⟨J,ae⟩
  · rw[J] at oC
    rw[ae]
    exact⟨[],false,h,eI (intr:=eD) (n:=n+3) (args:=[.str s,.str [10]]) Tryz.func131 (acN (C (n+3)) s 10 h h oC) (.inl rfl) (by kernel_rfl),Ext.refl _ _⟩
  · rw[J,Nat.zero_add] at oC
    have:=eI (intr:=eD) (n:=n+3) (args:=[.str s,.str [10]]) (h:=h) (v:=.aF [.str (s.take (line s).length),.str (s.drop ((line s).length+1)),.bool true]) Tryz.func131 (acM (C (n+3)) s 10 h h (line s).length h _ _ _ oC (R6 (by omega)) (nL (by omega)) (A_ (by omega))) (.inl rfl) (by kernel_rfl)
    rw[ac7] at this
    exact⟨_,true,_,this,Ext.room _ _ _⟩
 obtain⟨r,b,ay,a9,bb⟩:=key
 exact⟨r,b,ay,eI (intr:=eD) (n:=n+4) (args:=[.str s,.str [10]]) Tryz.func109 (acL (C (n+4)) s [10] h _ _ _ _ a9) (.inl rfl) (by kernel_rfl),bb⟩
def qy(B b:Nat)(h:I)(w:List UInt8):Prop:=∃a v,h.get b=some (aD [a,v] 175)/\(a=.au\/a=.ptr b 0)/\m7 B 5 h v w/\b<B/\B<=h.n/\(w=[]->v=.ao)
theorem ac9(n b:Nat)(h:I):C (n+1) (.fn 140) [.ptr b 0] h=.ret (.ptr b 0) h:=by unfold C;kernel_rfl
theorem ac_(n b:Nat)(h:I)(v:aa)(ag:b<h.n)(aB:h.get b=some (aD [.au,v] 175)\/h.get b=some (aD [.ptr b 0,v] 175)):
  ∃ay,C (n+2) (.fn 133) [.ptr b 0] h=.ret (.aF []) ay/\ay.get b=some (aD [.ptr b 0,v] 175)/\ay.n=h.n/\∀c,c≠b->ay.get c=h.get c:=by
 rcases aB with aB|aB
 · refine⟨h.set b (some (aD [.ptr b 0,v] 175)),?_,dz rfl,rfl,λc ak=>cr ak rfl⟩
   have f1:an.underlying 173=some (.pointer 175):=by kernel_rfl
   have f2:an.underlying 116=some .unsafePointer:=by kernel_rfl
   have f3:eg an 175=some 2:=by kernel_rfl
   have f4:liesAt an an.depth 175 (2/an.cellsOf 175) 0 175 1=true:=by kernel_rfl
   have v1:df an 173 116 (aa.ptr b 0) h=dW.val (aa.ptr b 0) h:=by
    simp only[df,f1,f2,f3,aB];rfl
   have v2:df an 116 173 (aa.ptr b 0) h=dW.val (aa.ptr b 0) h:=by
    simp only[df,f1,f2,f3,aB,List.length_cons,List.length_nil,f4];rfl
   have aj:=abJ (C (n+1)) b h _ (aN aB rfl) v1 (ac9 n b h) v2 (cy aB rfl rfl)
   exact eI (intr:=eD) (n:=n+1) (args:=[.ptr b 0]) Tryz.func133 aj (.inr rfl) (by kernel_rfl)
 · refine⟨h,?_,aB,rfl,λc _=>rfl⟩
   have he:hs an h BinOp.neq 173 (Operand.tmp 17) (Operand.tmp 18) (aa.ptr b 0) (aa.ptr b 0)=some (aa.bool false):=by
    have aG:an.underlying 173=some (.pointer 175):=by kernel_rfl
    have aE:eg an 175=some 2:=by kernel_rfl
    have br:Nat.beq b b=true:=by simp
    simp only[hs,vG,kg,aG,aE,Iv,br]
    rfl
   exact eI (intr:=eD) (n:=n+1) (args:=[.ptr b 0]) Tryz.func133 (abK (C (n+1)) b h false (aN aB rfl) he rfl) (.inr rfl) (by kernel_rfl)
theorem R7(n b B:Nat)(h:I)(w:List UInt8)(ag:qy B b h w):∃ay v,C (n+2) (.fn 133) [.ptr b 0] h=.ret (.aF []) ay/\ay.get b=some (aD [.ptr b 0,v] 175)/\m7 B 5 ay v w/\ay.n=h.n/\(∀c,c≠b->ay.get c=h.get c):=by
 obtain⟨a,v,J,ae,aq,aQ,bj,_⟩:=ag
 obtain⟨ay,a9,cI,gF,hy⟩:=ac_ n b h v (by omega) (by rcases ae with rfl|rfl;exact .inl J;exact .inr J)
 exact⟨ay,v,a9,cI,aq.ext (by omega) λc ak _=>hy c (by omega),gF,hy⟩
theorem R8:∃i,an.info? 5=some i/\i.size=1/\i.bytes=1:=by
 have hi:(an.info? 5).map (λi=>(i.size,i.bytes))=some (1,1):=by kernel_rfl
 cases mK:an.info? 5 with
 |none=>rw[mK] at hi;cases hi
 |some i=>
  rw[mK] at hi
  simp only[Option.map_some,Option.some.injEq,Prod.mk.injEq] at hi
  exact⟨i,rfl,hi.1,hi.2⟩
theorem R9{i:TypeInfo}(hi:i.bytes=1){n:Nat}(aT:n<=1000000000):mX n i.bytes=true:=by
 rw[hi]
 have:(4*n+2048)*(1+1)<=281474976710656:=by omega
 simpa[mX] using this
theorem R_{B:Nat}{J ae:I}{v v':aa}{w:List UInt8}(ag:b<B)(eU:B<=h.n)(al:J.get b=some (aD [.ptr b 0,v] 175))(bn:J.n=h.n)(e2:∀c,c≠b->J.get c=h.get c)(x:Ext B J ae)(hw:m7 B 5 ae v' w)(dk:w≠[]):
  ae.get b=some (aD [.ptr b 0,v] 175)/\qy B b (ae.set b (some (aD [.ptr b 0,v'] 175))) w/\bU b B h (ae.set b (some (aD [.ptr b 0,v'] 175))):=by
 have aT:=x.n
 refine⟨(x.get b ag).trans al,⟨.ptr b 0,v',dz rfl,.inr rfl,hw.ext (by simp) λc ak _=>cr (by omega) rfl,ag,by simp;omega,λe=>absurd e dk⟩,⟨by simp;omega,λc ak tb=>?_⟩⟩
 exact cr tb ((x.get c ak).trans (e2 c tb))
theorem ada(n b B:Nat)(h:I)(w s:List UInt8)(ag:qy B b h w)(aA:w.length+s.length<=1000000000)(ah:s≠[]):∃ay,C (n+3) (.fn 111) [.ptr b 0,.str s] h=.ret (.aF [ad s.length,.c3]) ay/\qy B b ay (w++s)/\bU b B h ay:=by
 obtain⟨J,v,a9,al,bd,bn,e2⟩:=R7 n b B h w ag
 obtain⟨_,_,_,_,_,G1,LI,_⟩:=ag
 obtain⟨i,mK,LJ,sk⟩:=R8
 obtain⟨v',ae,c8,c9,gf⟩:=ZY (P:=an) (B:=B) (sT:=44) (xT:=some 9) (e:=5) (z:=ax 0) (by omega) (by kernel_rfl) (by kernel_rfl) mK LJ (by kernel_rfl) rfl (R9 sk aA) bd
 obtain⟨aw,eU,bO⟩:=R_ G1 LI al bn e2 gf c9 (by simp[ah])
 refine⟨_,?_,eU,bO⟩
 rcases c9 with⟨rfl,_⟩|⟨c,r,rfl,_⟩
 · exact eI (intr:=eD) (n:=n+2) (args:=[.ptr b 0,.str s]) Tryz.func111 (abL (C (n+2)) b s v h ae J _ a9 (aN al rfl) c8 (cy aw rfl rfl)) (.inl rfl) (by kernel_rfl)
 · exact eI (intr:=eD) (n:=n+2) (args:=[.ptr b 0,.str s]) Tryz.func111 (bws (C (n+2)) b c _ s v h ae J _ a9 (aN al rfl) c8 (cy aw rfl rfl)) (.inl rfl) (by kernel_rfl)
theorem adb(n b B:Nat)(h:I)(w:List UInt8)(ag:qy B b h w)(aA:w.length<=1000000000):∃ay,C (n+1) (.fn 112) [.ptr b 0] h=.ret (.str w) ay/\Ext B h ay:=by
 obtain⟨a,v,g,a_,aW,G1,aT,Cw⟩:=ag
 rcases aW with⟨rfl,rfl⟩|⟨c,rest,rfl,ak,po,mC⟩
 · have pb:um an (I.room h 12) 197 aa.au (ad 0)=some (.str [],I.room h 12):=by kernel_rfl
   exact⟨_,eI (intr:=eD) (n:=n) (args:=[.ptr b 0]) Tryz.func112 (abN (C n) b h [] _ (aN (h:=h.room 12) g rfl) pb) (.inl rfl) (by kernel_rfl),Ext.room _ _ _⟩
 · by_cases hw:w=[]
   · exact absurd (Cw hw) (by simp)
   · have dk:w.length≠0:=by cases w<;>simp at hw⊢
     have KQ:kX an Builtin.unsafeSliceData (Array.mk [44]) [aa.slice c 0 w.length (dn.aX 1)] (I.room h 12)=dW.val (aa.ptr c 0) (I.room h 12):=by
      simp only[kX]
      exact if_neg dk
     have pb:=ZZ (P:=an) (h:=h.room 12) (pT:=197) (u:=5) (c:=c) (e:=5) (w:=w) (rest:=rest) hw (by omega) (by kernel_rfl) (by kernel_rfl) (by kernel_rfl) ak
     exact⟨_,eI (intr:=eD) (n:=n) (args:=[.ptr b 0]) Tryz.func112 (abM (C n) b c w.length h w _ (aN (h:=h.room 12) g rfl) KQ pb) (.inl rfl) (by kernel_rfl),
      (Ext.room B h 12).trans (Nat.le_refl _) (Ext.set (by omega) _)⟩
theorem Sa(r:Nat):(dT r).length<=4/\dT r≠[]:=by
 unfold dT
 split
 · exact⟨by simp,by simp⟩
 · split
   · exact⟨by simp,by simp⟩
   · split
     · exact⟨by simp,by simp⟩
     · exact⟨by simp,by simp⟩
theorem rA{n:Nat}(h:n<256):(UInt8.ofNat n).toNat=n:=by
 rw[UInt8.toNat_ofNat'];exact Nat.mod_eq_of_lt h
theorem G2{B:Nat}{v:aa}{w:List UInt8}{cs:List aa}(eU:B<=h.n)(ag:m7 B 5 h v w)(aA:w.length+s.length<=1000000000)(lG:cs=cC s)(ah:s≠[]):
  ∃c ay,fi an (h.push (aD cs 5)) 44 (some 44) v (.slice h.n 0 s.length (.exact s.length))=some (.slice c 0 (w.length+s.length) (.aX 1),ay)/\m7 B 5 ay (.slice c 0 (w.length+s.length) (.aX 1)) (w++s)/\Ext B h ay:=by
 subst lG
 obtain⟨i,mK,LJ,sk⟩:=R8
 have iZ:m7 B 5 (h.push (aD (cC s) 5)) v w:=ag.ext (by simp) λc _ ak=>gN ak rfl
 have m8:jr (h.push (aD (cC s) 5)) 1 (.slice h.n 0 s.length (.exact s.length))=some (s.length,cC s):=by
  have:aJ.loadCells (h.push (aD (cC s) 5)) h.n 0 (s.length*1)=some (cC s):=by
   have:=C1 (h:=h.push (aD (cC s) 5)) (b:=h.n) (xs:=cC s) (rest:=[]) (by rw[List.append_nil];exact dx rfl)
   rw[ox] at this
   rw[Nat.mul_one];exact this
  simp only[jr,this]
 obtain⟨v',ae,c8,c9,gf⟩:=aac (P:=an) (B:=B) (sT:=44) (xT:=some 44) (e:=5) (z:=ax 0) (by simp;omega) (by kernel_rfl) (by kernel_rfl) mK LJ (by kernel_rfl) rfl (R9 sk aA) m8 iZ
 have ab:Ext B h ae:=(Ext.push eU _).trans (Nat.le_refl _) gf
 rcases c9 with⟨_,he⟩|⟨c,r,rfl,aV,aU,bu⟩
 · simp[ah] at he
 · rw[List.length_append] at c8
   exact⟨c,ae,c8,.inr ⟨c,r,by rw[List.length_append],aV,aU,bu⟩,ab⟩
theorem uW(j:Nat){p q:Nat}(a3:p %2^j=0)(ag:b<2^j)(h:p+b<256)(bB:q=p+b):arith BinOp.or IntKind.u8 (Int.ofNat p) (Int.ofNat b)=some (ax q):=by
 subst bB;exact aab j a3 ag h
theorem ade(m r B:Nat)(v:aa)(w:List UInt8)(h:I)(eU:B<=h.n)(ag:m7 B 5 h v w)(aA:w.length+4<=1000000000)(aj:128<=r/\r<=1114111)(aW:l_ r=true):
  ∃c ay,C (m+1) (.fn 141) [v,.int .i32 (Int.ofNat r)] h=.ret (.slice c 0 (w.length+(dT r).length) (.aX 1)) ay/\m7 B 5 ay (.slice c 0 (w.length+(dT r).length) (.aX 1)) (w++dT r)/\Ext B h ay:=by
 obtain⟨bt,b3⟩:=aj
 have adf:=(qt r).1 aW
 have v0:=QD (P:=an) (h:=h) oJ RV (show r<4294967296 by omega)
 have ep (j:Nat) (aL:j<=32):gv BinOp.shr IntKind.i32 (Int.ofNat r) (Int.ofNat j)=some (.int .i32 (Int.ofNat (r/2^j))):=Qx .i32 aL
 have ja (n:Nat):df an 21 5 (.int .i32 (Int.ofNat n)) h=.val (ax (n %256)) h:=Gr oJ oI
 have w7 (n:Nat):arith BinOp.and IntKind.u8 (Int.ofNat (n %256)) (Int.ofNat 63)=some (ax (n %256 %64)):=wH 6 (by omega) (by decide)
 by_cases ae:r<2048
 · have e:dT r=[UInt8.ofNat (192+r/64),UInt8.ofNat (128+r %64)]:=by unfold dT;rw[if_neg (by omega),if_pos ae]
   rw[e]
   obtain⟨c,g,c8,c9,gf⟩:=G2 (s:=[UInt8.ofNat (192+r/64),UInt8.ofNat (128+r %64)]) (cs:=[ax (192+r/64),ax (128+r %64)]) eU ag (by simp;omega)
    (by simp only[cC,rA (show 192+r/64<256 by omega),rA (show 128+r %64<256 by omega)]) (by simp)
   exact⟨c,g,eI (intr:=eD) (n:=m) (args:=[v,.int .i32 (Int.ofNat r)]) Tryz.func141 (abS (C m) r c (w.length+2) v h g _ _ _ _ _ _ _ v0 (mD (by omega)) (ep 6 (by decide)) (ja _) (uW 6 (q:=192+r/64) (by omega) (by omega) (by omega) (by omega)) (ja r) (w7 r) (uW 6 (q:=128+r %64) (by omega) (by omega) (by omega) (by omega)) c8) (.inl rfl) (by kernel_rfl),c9,gf⟩
 · by_cases aq:r<65536
   · have e:dT r=[UInt8.ofNat (224+r/4096),UInt8.ofNat (128+r/64 %64),UInt8.ofNat (128+r %64)]:=by unfold dT;rw[if_neg (by omega),if_neg ae,if_pos aq]
     rw[e]
     obtain⟨c,g,c8,c9,gf⟩:=G2 (s:=[UInt8.ofNat (224+r/4096),UInt8.ofNat (128+r/64 %64),UInt8.ofNat (128+r %64)]) (cs:=[ax (224+r/4096),ax (128+r/64 %64),ax (128+r %64)]) eU ag (by simp;omega)
      (by simp only[cC,rA (show 224+r/4096<256 by omega),rA (show 128+r/64 %64<256 by omega),rA (show 128+r %64<256 by omega)]) (by simp)
     have e2:=uW 5 (p:=224) (b:=r/2^12 %256) (q:=224+r/4096) (by omega) (by omega) (by omega) (by omega)
     have eh:=uW 6 (p:=128) (b:=r/2^6 %256 %64) (q:=128+r/64 %64) (by omega) (by omega) (by omega) (by omega)
     have g4:=uW 6 (p:=128) (b:=r %256 %64) (q:=128+r %64) (by omega) (by omega) (by omega) (by omega)
     by_cases aQ:r<55296
     · exact⟨c,g,eI (intr:=eD) (n:=m) (args:=[v,.int .i32 (Int.ofNat r)]) Tryz.func141 (abT (C m) r c (w.length+3) v h g _ _ _ _ _ _ _ _ _ _ _ v0 (l6 (by omega)) (ib aQ) (ep 12 (by decide)) (ja _) e2 (ep 6 (by decide)) (ja _) (w7 _) eh (ja r) (w7 r) g4 c8) (.inl rfl) (by kernel_rfl),c9,gf⟩
     · exact⟨c,g,eI (intr:=eD) (n:=m) (args:=[v,.int .i32 (Int.ofNat r)]) Tryz.func141 (abU (C m) r c (w.length+3) v h g _ _ _ _ _ _ _ _ _ _ _ v0 (l6 (by omega)) (iR aQ) (ib (by omega)) (mD (by omega)) (ep 12 (by decide)) (ja _) e2 (ep 6 (by decide)) (ja _) (w7 _) eh (ja r) (w7 r) g4 c8) (.inl rfl) (by kernel_rfl),c9,gf⟩
   · have e:dT r=[UInt8.ofNat (240+r/262144),UInt8.ofNat (128+r/4096 %64),UInt8.ofNat (128+r/64 %64),UInt8.ofNat (128+r %64)]:=by unfold dT;rw[if_neg (by omega),if_neg ae,if_neg aq]
     rw[e]
     obtain⟨c,g,c8,c9,gf⟩:=G2 (s:=[UInt8.ofNat (240+r/262144),UInt8.ofNat (128+r/4096 %64),UInt8.ofNat (128+r/64 %64),UInt8.ofNat (128+r %64)]) (cs:=[ax (240+r/262144),ax (128+r/4096 %64),ax (128+r/64 %64),ax (128+r %64)]) eU ag (by simp;omega)
      (by simp only[cC,rA (show 240+r/262144<256 by omega),rA (show 128+r/4096 %64<256 by omega),rA (show 128+r/64 %64<256 by omega),rA (show 128+r %64<256 by omega)]) (by simp)
     have e2:=uW 4 (p:=240) (b:=r/2^18 %256) (q:=240+r/262144) (by omega) (by omega) (by omega) (by omega)
     have eh:=uW 6 (p:=128) (b:=r/2^12 %256 %64) (q:=128+r/4096 %64) (by omega) (by omega) (by omega) (by omega)
     have g4:=uW 6 (p:=128) (b:=r/2^6 %256 %64) (q:=128+r/64 %64) (by omega) (by omega) (by omega) (by omega)
     have gW:=uW 6 (p:=128) (b:=r %256 %64) (q:=128+r %64) (by omega) (by omega) (by omega) (by omega)
     exact⟨c,g,eI (intr:=eD) (n:=m) (args:=[v,.int .i32 (Int.ofNat r)]) Tryz.func141 (abV (C m) r c (w.length+4) v h g _ _ _ _ _ _ _ _ _ _ _ _ _ _ _ v0 (l6 (by omega)) (iR (by omega)) (ib (by omega)) (l6 (by omega)) (ib (by omega)) (mD (by omega)) (ep 18 (by decide)) (ja _) e2 (ep 12 (by decide)) (ja _) (w7 _) eh (ep 6 (by decide)) (ja _) (w7 _) g4 (ja r) (w7 r) gW c8) (.inl rfl) (by kernel_rfl),c9,gf⟩
theorem adg(m r B:Nat)(v:aa)(w:List UInt8)(h:I)(eU:B<=h.n)(ag:m7 B 5 h v w)(aA:w.length+4<=1000000000)(aj:r<=1114111)(aW:l_ r=true):
  ∃c ay,C (m+2) (.fn 134) [v,.int .i32 (Int.ofNat r)] h=.ret (.slice c 0 (w.length+(dT r).length) (.aX 1)) ay/\m7 B 5 ay (.slice c 0 (w.length+(dT r).length) (.aX 1)) (w++dT r)/\Ext B h ay:=by
 have v0:=QD (P:=an) (h:=h) oJ RV (show r<4294967296 by omega)
 by_cases J:r<128
 · have e:dT r=[UInt8.ofNat r]:=by unfold dT;rw[if_pos J]
   rw[e]
   obtain⟨c,g,c8,c9,gf⟩:=G2 (s:=[UInt8.ofNat r]) (cs:=[ax (r %256)]) eU ag (by simp;omega) (by simp only[cC,rA (show r<256 by omega),Nat.mod_eq_of_lt (show r<256 by omega)]) (by simp)
   exact⟨c,g,eI (intr:=eD) (n:=m+1) (args:=[v,.int .i32 (Int.ofNat r)]) Tryz.func134 (abQ (C (m+1)) r c (w.length+1) v h g _ _ v0 (mD (by omega)) (Gr oJ oI) c8) (.inl rfl) (by kernel_rfl),c9,gf⟩
 · obtain⟨c,g,c8,c9,gf⟩:=ade m r B v w h eU ag aA ⟨by omega,aj⟩ aW
   exact⟨c,g,eI (intr:=eD) (n:=m+1) (args:=[v,.int .i32 (Int.ofNat r)]) Tryz.func134 (abR (C (m+1)) r c _ v h g _ v0 (l6 (by omega)) c8) (.inl rfl) (by kernel_rfl),c9,gf⟩
open Go aJ Go.Proofs lp Go.ChangeShapes
def LK:List (Nat×Nat):=[(128,191),(160,191),(128,159),(144,191),(128,143),(0,0),(0,0),(0,0),(0,0),(0,0),(0,0),(0,0),(0,0),(0,0),(0,0),(0,0)]
theorem adh{W:World}{jU al a1 t0 t1 t3 f0 f1 f3:Nat}{cs0 kI LL:Array Value}{G3 dt gD:List MemPlace}{d0 d1 d3:DataW Unit}
  (G4:an.globalNamed "unicode/utf8.acceptRanges" =some jU)(ru:(an.globals[jU]?).map (·.type)=some t0)(LM:W.var? an "unicode/utf8.acceptRanges" =some cs0)(p5:DataW.trod (λ_=>()) an W 0 (λ_=>true) false f0 t0 cs0.toList=some (d0,G3))(l1:d0=.agg (LK.map λx=>.agg [.lit (.int .u8 (.ofNat x.1)),.lit (.int .u8 (.ofNat x.2))]))
  (mB:an.globalNamed "strings.asciiSpace" =some al)(w8:(an.globals[al]?).map (·.type)=some t1)(p_:W.var? an "strings.asciiSpace" =some kI)(LN:DataW.trod (λ_=>()) an W 0 (λ_=>true) false f1 t1 kI.toList=some (d1,dt))(adi:d1=.agg (Ll.map λx=>.lit (.int .u8 (.ofNat x))))
  (Ae:an.globalNamed "unicode/utf8.first" =some a1)(LO:(an.globals[a1]?).map (·.type)=some t3)(LP:W.var? an "unicode/utf8.first" =some LL)(LQ:DataW.trod (λ_=>()) an W 0 (λ_=>true) false f3 t3 LL.toList=some (d3,gD))(adj:d3=.agg (tO.map λx=>.lit (.int .u8 (.ofNat x)))):
  ∀t∈dL,t.g<an.globals.size/\tK W (sv W) t:=by
 have c_:jU=5:=Option.some.inj (G4.symm.trans (by kernel_rfl))
 have aG:al=2:=Option.some.inj (mB.symm.trans (by kernel_rfl))
 have br:a1=4:=Option.some.inj (Ae.symm.trans (by kernel_rfl))
 subst c_;subst aG;subst br
 have LR:(an.globals[5]?).map (·.type)=some 214:=by kernel_rfl
 have fF:t1=166:=Option.some.inj (w8.symm.trans (by kernel_rfl))
 have lQ:t3=166:=Option.some.inj (LO.symm.trans (by kernel_rfl))
 have LR:t0=214:=Option.some.inj (ru.symm.trans LR)
 subst LR;subst fF;subst lQ
 have a_:an.underlying 166=some (.array 256 5):=by kernel_rfl
 have hu:an.underlying 5=some (.int .u8):=by kernel_rfl
 have ak:an.cellsOf 5=1:=by kernel_rfl
 have adk:w5=wZ LK:=rfl
 intro t aI
 refine⟨qv t aI,?_⟩
 simp only[dL,List.mem_cons,List.not_mem_nil,or_false] at aI
 rcases aI with rfl|rfl|rfl
 · exact Rf a_ hu ak mB p_ LN Ll adi
 · exact Rf a_ hu ak Ae LP LQ tO adj
 · rw[adk]
   have ai:(an.underlying 214)=some (.array 16 213):=by kernel_rfl
   have ah:(match an.underlying 213 with|some (.struct dh)=>(dh.toList.map λf=>(f.type,f.offset))|_=>[])=[(5,0),(5,1)]:=by kernel_rfl
   cases bB:an.underlying 213 with
   |none=>rw[bB] at ah;cases ah
   |some q=>
    rw[bB] at ah
    cases q with
    |struct dh=>
     simp only at ah
     obtain⟨l⟩:=dh
     match l,ah with
     |[a,b],ah=>
      simp only[List.map_cons,List.map_nil,List.cons.injEq,Prod.mk.injEq,and_true] at ah
      obtain⟨⟨c8,c9⟩,bd,b2⟩:=ah
      exact aaN ai bB (by kernel_rfl) (by rw[c8];exact hu) (by rw[bd];exact hu) (by rw[c8];exact ak) (by rw[bd];exact ak) c9 b2 G4 LM p5 LK l1
    |_=>cases ah
end Go.Proofs.iI
