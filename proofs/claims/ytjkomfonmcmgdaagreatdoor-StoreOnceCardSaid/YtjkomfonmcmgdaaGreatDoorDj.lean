/-
  PROVED HERE: contracts of functions (Dj). No condition beside each statement's own.
-/
import Derived.Test.YtjkomfonmcmgdaaGreatDoorDh
import Derived.Test.YtjkomfonmcmgdaaGreatDoorSxa
import Derived.Test.YtjkomfonmcmgdaaGreatDoorProg
import Derived.Test.YtjkomfonmcmgdaaGreatDoorDi
set_option linter.unusedVariables false
set_option linter.unusedSimpArgs false
set_option maxRecDepth 100000
set_option maxHeartbeats 1000000
namespace Go.Proofs.jj
open Go bt Go.Proofs hy Go.Proofs.jk
def ts{α:Type}(q:α->Bool):List α->Nat->Option (Nat×α)
 |[],_=>none
 |x::l,j=>if q x=true then some (j,x) else ts q l (j+1)
theorem As{α:Type}{q:α->Bool}:∀{l:List α} {j:Nat},(∀x∈l,q x=false)->ts q l j=none
 |[],_,_=>rfl
 |x::l,j,h=>by
  rw[ts,if_neg (by rw[h x (List.mem_cons_self ..)];simp)]
  exact As λy aU=>h y (List.mem_cons_of_mem _ aU)
theorem At{α:Type}{q:α->Bool}{x:α}:∀{l:List α} {j:Nat},x∈l->q x=true->l.Pairwise (λa b=>¬(q a=true/\q b=true))->∃i,ts q l j=some (j+i,x)/\∀(f:α->dU),x0 i (l.map f)=(l.filter λy=>!q y).map f
 |[],_,h,_,_=>by cases h
 |y::l,j,h,aJ,aQ=>by
  rw[List.pairwise_cons] at aQ
  by_cases aU:q y=true
  · have ab:x=y:=by
      rcases List.mem_cons.1 h with h|h
      · exact h
      · exact absurd ⟨aU,aJ⟩ (aQ.1 x h)
    subst ab
    refine⟨0,by rw[ts,if_pos aU];rfl,λf=>?_⟩
    have e:(x::l).filter (λy=>!q y)=l:=by
     rw[List.filter_cons,aU]
     have:l.filter (λy=>!q y)=l:=List.filter_eq_self.2 λz aW=>by
      cases xA:q z with
      |true=>exact absurd ⟨aU,xA⟩ (aQ.1 z aW)
      |false=>rfl
     simpa using this
    rw[e];rfl
  · have ab:x∈l:=by
      rcases List.mem_cons.1 h with h|h
      · rw[h] at aJ;exact absurd aJ aU
      · exact h
    obtain⟨i,aa,ad⟩:=At (j:=j+1) ab aJ aQ.2
    refine⟨i+1,by rw[ts,if_neg aU,aa];congr 2;omega,λf=>?_⟩
    have Au:q y=false:=by simpa using aU
    rw[List.map_cons,x0,ad f,List.filter_cons,Au];rfl
theorem rR{α:Type}{P:Program}{h:J}{kt:TypeId}{k:I}{q:α->Bool}{f:α->dU}:∀(l:List α) (j:Nat),(∀x∈l,pL P h kt k (f x).key=some (q x))->jY P h kt k (l.map f) j=some ((ts q l j).map λr=>(r.1,(f r.2).val))
 |[],_,_=>rfl
 |x::l,j,hs=>by
  rw[List.map_cons,jY,hs x (List.mem_cons_self ..),ts]
  cases aJ:q x with
  |true=>simp
  |false=>
   simp only[Bool.false_eq_true,if_false]
   exact rR l (j+1) λy aU=>hs y (List.mem_cons_of_mem _ aU)
theorem O0(a b:Nat):a8 (Int.ofNat a) (Int.ofNat b)=decide (a=b):=by
 by_cases h:a=b
 · rw[nA h,decide_eq_true h]
 · rw[jS h,decide_eq_false h]
def iY(id:Nat):a7:=(List.range 8).map λi=>UInt8.ofNat (id/2^(8*i))
def eP(l:List Nat):a7:=l.flatMap iY
def gB(ns:List a7):a7:=ef [32] ns
structure Mem where
 e:cc
 b:Nat
 dA:Nat
 dK:Nat
 ao:Int
 bK:I
 a_:I
abbrev Dn(e:cc):List I:=[.int .i64 (Int.ofNat e.k),.str e.nm,.str (gB e.ns),.str (eP e.args),.int .u64 (Int.ofNat e.ret)]
abbrev abZ(e:cc)(ao:Int)(bK a_:I):List I:=[.int .i64 (Int.ofNat e.k),.str e.nm,.str (gB e.ns),.str (eP e.args),.int .u64 (Int.ofNat e.ret),bK,a_,.int .i64 (Int.ofNat e.pins),.int .i64 ao,.int .u64 (Int.ofNat e.used)]
def h5(x:Mem):dU:=⟨.int .u64 (Int.ofNat x.e.id),.ptr x.b 0,x.dA⟩
def jF(x:Mem):dU:=⟨.agg (Dn x.e),.int .u64 (Int.ofNat x.e.id),x.dK⟩
def kN(id:Nat)(x:Mem):Bool:=decide (x.e.id=id)
def hN(k:Nat)(nm f p:a7)(r:Nat)(x:Mem):Bool:=decide (k=x.e.k)&&(decide (nm=x.e.nm)&&(decide (f=gB x.e.ns)&&(decide (p=eP x.e.args)&&decide (r=x.e.ret))))
theorem O1(a b c d e:I):js Tryz.prog 3 [a,b,c,d,e] 0=some a/\js Tryz.prog 9 [a,b,c,d,e] 1=some b/\js Tryz.prog 9 [a,b,c,d,e] 2=some c/\js Tryz.prog 9 [a,b,c,d,e] 3=some d/\js Tryz.prog 32 [a,b,c,d,e] 4=some e:=⟨by kernel_rfl,by kernel_rfl,by kernel_rfl,by kernel_rfl,by kernel_rfl⟩
def Av:List Field->List (TypeId×Nat)
 |[]=>[]
 |f::l=>(f.type,f.offset)::Av l
theorem O2{P:Program}{E:TypeId->I->I->Option Bool}{xs ys:List I}:∀(b0:List Field) (l:List (TypeId×Nat×I×I×Bool)),(b0.all λf=>!decide (f.name= "_"))=true->Av b0=l.map (λx=>(x.1,x.2.1))->(∀x∈l,js P x.1 xs x.2.1=some x.2.2.1/\js P x.1 ys x.2.1=some x.2.2.2.1/\E x.1 x.2.2.1 x.2.2.2.1=some x.2.2.2.2)->eqFields P E xs ys b0=some (l.all λx=>x.2.2.2.2)
 |[],l,_,h,_=>by
  have:l=[]:=by simpa[Av] using h.symm
  subst this;rfl
 |f::b0,[],_,h,_=>by cases h
 |f::b0,⟨bC,cS,dC,e2,pe⟩::l,aN,h,ab=>by
  rw[List.all_cons,Bool.and_eq_true] at aN
  obtain⟨aa,ad,av⟩:=ab _ (List.mem_cons_self ..)
  simp only[Av,List.map_cons,List.cons.injEq,Prod.mk.injEq] at h
  have bb:=O2 b0 l aN.2 h.2 λy aU=>ab y (List.mem_cons_of_mem _ aU)
  have ao:decide (f.name= "_")=false:=by simpa using aN.1
  rw[eqFields,ao,h.1.1,h.1.2]
  simp only at aa ad av
  simp only[aa,ad,av]
  cases pe with
  |true=>simp only[bb,List.all_cons,Bool.true_and]
  |false=>rfl
theorem ab0(h:J)(d a b:Nat):gg Tryz.prog h (d+1) 3 (.int .i64 (Int.ofNat a)) (.int .i64 (Int.ofNat b))=some (a8 (Int.ofNat a) (Int.ofNat b)):=by
 have hu:Tryz.prog.underlying 3=some (.int .i64):=by kernel_rfl
 simp only[gg,hu,if_true]
theorem ab1(h:J)(d a b:Nat):gg Tryz.prog h (d+1) 32 (.int .u64 (Int.ofNat a)) (.int .u64 (Int.ofNat b))=some (a8 (Int.ofNat a) (Int.ofNat b)):=by
 have hu:Tryz.prog.underlying 32=some (.int .u64):=by kernel_rfl
 simp only[gg,hu,if_true]
theorem H5(h:J)(d:Nat)(a b:a7):gg Tryz.prog h (d+1) 9 (.str a) (.str b)=some (dd a b):=by
 have hu:Tryz.prog.underlying 9=some .string:=by kernel_rfl
 simp only[gg,hu]
theorem ab2(h:J)(k dh r r':Nat)(a b c cF hT c':a7):gg Tryz.prog h 8 62 (.agg [.int .i64 (Int.ofNat k),.str a,.str b,.str c,.int .u64 (Int.ofNat r)]) (.agg [.int .i64 (Int.ofNat dh),.str cF,.str hT,.str c',.int .u64 (Int.ofNat r')])=some (decide (k=dh)&&(decide (a=cF)&&(decide (b=hT)&&(decide (c=c')&&decide (r=r'))))):=by
 have BG:(match Tryz.prog.underlying 62 with|some (.struct _)=>true|_=>false)=true:=by kernel_rfl
 obtain⟨b0,oY⟩:∃b0,Tryz.prog.underlying 62=some (.struct b0):=by
  split at BG
  · rename_i b0 oY;exact⟨b0,oY⟩
  · cases BG
 have cA:Tryz.prog.stoodInHeld 62=false:=by kernel_rfl
 have jc:(match Tryz.prog.underlying 62 with|some (.struct b0)=>b0.toList.all λf=>!decide (f.name= "_")|_=>false)=true:=by kernel_rfl
 have O3:(match Tryz.prog.underlying 62 with|some (.struct b0)=>Av b0.toList|_=>[])=[(3,0),(9,1),(9,2),(9,3),(32,4)]:=by kernel_rfl
 rw[oY] at jc O3
 obtain⟨Gv,ey,e9,jK,lY⟩:=O1 (.int .i64 (Int.ofNat k)) (.str a) (.str b) (.str c) (.int .u64 (Int.ofNat r))
 obtain⟨Gw,ba,a1,b7,fv⟩:=O1 (.int .i64 (Int.ofNat dh)) (.str cF) (.str hT) (.str c') (.int .u64 (Int.ofNat r'))
 have e:=O2 (P:=Tryz.prog) (E:=gg Tryz.prog h 7) (xs:=[.int .i64 (Int.ofNat k),.str a,.str b,.str c,.int .u64 (Int.ofNat r)]) (ys:=[.int .i64 (Int.ofNat dh),.str cF,.str hT,.str c',.int .u64 (Int.ofNat r')]) b0.toList
  [(3,0,.int .i64 (Int.ofNat k),.int .i64 (Int.ofNat dh),a8 (Int.ofNat k) (Int.ofNat dh)),(9,1,.str a,.str cF,dd a cF),(9,2,.str b,.str hT,dd b hT),(9,3,.str c,.str c',dd c c'),(32,4,.int .u64 (Int.ofNat r),.int .u64 (Int.ofNat r'),a8 (Int.ofNat r) (Int.ofNat r'))] jc O3 (by
    simp only[List.mem_cons,List.not_mem_nil,or_false]
    rintro x (rfl|rfl|rfl|rfl|rfl)
    · exact⟨Gv,Gw,ab0 _ _ _ _⟩
    · exact⟨ey,ba,H5 _ _ _ _⟩
    · exact⟨e9,a1,H5 _ _ _ _⟩
    · exact⟨jK,b7,H5 _ _ _ _⟩
    · exact⟨lY,fv,ab1 _ _ _ _⟩)
 have ae:∀x y:a7,dd x y=decide (x=y):=λx y=>by
  apply Bool.eq_iff_iff.2
  rw[n_];simp
 simp only[List.all_cons,List.all_nil,O0,ae,Bool.and_true] at e
 rw[<-e]
 have key:∀xs ys:List I,gg Tryz.prog h (7+1) 62 (.agg xs) (.agg ys)=eqFields Tryz.prog (gg Tryz.prog h 7) xs ys b0.toList:=λxs ys=>by
  simp only[gg,oY,cA]
 exact key _ _
theorem Aw:Tryz.prog.underlying 55=some (.map 32 59):=by kernel_rfl
theorem Dp:Tryz.prog.underlying 56=some (.map 62 32):=by kernel_rfl
theorem Dq(id:Nat):mu Tryz.prog 32 (.int .u64 (Int.ofNat id))=true:=by kernel_rfl
theorem Dr(k r:Nat)(a b c:a7):mu Tryz.prog 62 (.agg [.int .i64 (Int.ofNat k),.str a,.str b,.str c,.int .u64 (Int.ofNat r)])=true:=by kernel_rfl
theorem Ds(h:J)(id:Nat)(x:Mem):pL Tryz.prog h 32 (.int .u64 (Int.ofNat id)) (h5 x).key=some (kN id x):=by
 show some (a8 (Int.ofNat id) (Int.ofNat x.e.id))=some (decide (x.e.id=id))
 rw[O0];congr 1;exact decide_eq_decide.2 eq_comm
theorem Dt(h:J)(k r:Nat)(a b c:a7)(x:Mem):pL Tryz.prog h 62 (.agg [.int .i64 (Int.ofNat k),.str a,.str b,.str c,.int .u64 (Int.ofNat r)]) (jF x).key=some (hN k a b c r x):=by
 unfold pL jF Dn
 simp only
 rw[ab2];rfl
abbrev xD(M:List Mem):Prop:=M.Pairwise λa b=>a.e.id<b.e.id
theorem O4{M:List Mem}(aQ:xD M)(id:Nat):M.Pairwise (λa b=>¬(kN id a=true/\kN id b=true)):=aQ.imp λ{a b} fw ⟨aa,ad⟩=>by
 have aa:=of_decide_eq_true aa
 have ad:=of_decide_eq_true ad
 omega
theorem vj{h:J}{m c:Nat}{M:List Mem}(hm:h.get m=some (.map (M.map h5) c))(aQ:xD M){x:Mem}(ab:x∈M)(ok:Bool):hO Tryz.prog h 55 (.map m) (.int .u64 (Int.ofNat x.e.id)) ok=some (if ok=true then .aO [.ptr x.b 0,.bool true] else .ptr x.b 0):=by
 obtain⟨i,aa,_⟩:=At (j:=0) (q:=kN x.e.id) ab (decide_eq_true rfl) (O4 aQ _)
 simp only[hO,Aw,Dq,hm,rR M 0 λy _=>Ds h x.e.id y,aa,Option.map,pM]
 rfl
theorem H6{h:J}{m c:Nat}{M:List Mem}(hm:h.get m=some (.map (M.map h5) c)){id:Nat}(aN:∀x∈M,x.e.id≠id)(ok:Bool):hO Tryz.prog h 55 (.map m) (.int .u64 (Int.ofNat id)) ok=some (if ok=true then .aO [.aZ,.bool false] else .aZ):=by
 have aa:=As (q:=kN id) (l:=M) (j:=0) λx ab=>decide_eq_false (aN x ab)
 have aW:ev Tryz.prog 59=some .aZ:=by kernel_rfl
 simp only[hO,Aw,Dq,hm,rR M 0 λy _=>Ds h id y,aa,Option.map,pM,aW]
theorem ab3{h:J}{m c:Nat}{M:List Mem}(hm:h.get m=some (.map (M.map h5) c))(aQ:xD M){x:Mem}(ab:x∈M):pP Tryz.prog h 55 (.map m) (.int .u64 (Int.ofNat x.e.id))=some (.aO [],h.set m (some (.map ((M.filter λy=>!kN x.e.id y).map h5) c))):=by
 obtain⟨i,aa,ad⟩:=At (j:=0) (q:=kN x.e.id) ab (decide_eq_true rfl) (O4 aQ _)
 simp only[pP,Aw,Dq,hm,rR M 0 λy _=>Ds h x.e.id y,aa,Option.map,Nat.zero_add,ad]
def jX(ns:List a7):Prop:=∀s∈ns,s≠[]/\∀c∈s,c≠32
theorem O5:∀{a b x y:a7},(∀c∈a,c≠32)->(∀c∈b,c≠32)->a++32::x=b++32::y->a=b/\x=y
 |[],[],x,y,_,_,h=>⟨rfl,by simpa using h⟩
 |[],c::b,x,y,_,ae,h=>by
  have:c=32:=by simp at h;exact h.1.symm
  exact absurd this (ae c (by simp))
 |c::a,[],x,y,aL,_,h=>by
  have:c=32:=by simp at h;exact h.1
  exact absurd this (aL c (by simp))
 |c::a,d::b,x,y,aL,ae,h=>by
  have aa:c=d/\a++32::x=b++32::y:=by simpa using h
  obtain⟨ad,av⟩:=O5 (λz aW=>aL z (by simp[aW])) (λz aW=>ae z (by simp[aW])) aa.2
  exact⟨by rw[aa.1,ad],av⟩
theorem O6{a y:a7}(aL:∀c∈a,c≠32){b:a7}:a=b++32::y->False:=λh=>aL 32 (by rw[h];simp) rfl
theorem Du(l:List a7)(x:a7):(x::l).flatMap (λy=>[32]++y)=32::(x++l.flatMap λy=>[32]++y):=by simp
theorem O7:∀{a b:List a7},jX a->jX b->gB a=gB b->a=b
 |[],[],_,_,_=>rfl
 |[],y::b,_,ae,h=>by
  have aa:[]=y++b.flatMap (λy=>[32]++y):=h
  have:=(ae y (by simp)).1
  cases y with
  |nil=>exact absurd rfl this
  |cons c y=>cases aa
 |x::a,[],aL,_,h=>by
  have aa:x++a.flatMap (λy=>[32]++y)=[]:=h
  have:=(aL x (by simp)).1
  cases x with
  |nil=>exact absurd rfl this
  |cons c y=>cases aa
 |[x],[y],_,_,h=>by
  have aa:x++[]=y++[]:=h
  rw[List.append_nil,List.append_nil] at aa
  rw[aa]
 |[x],y::z::b,aL,ae,h=>by
  have aa:x++[]=y++(z::b).flatMap (λy=>[32]++y):=h
  rw[Du,List.append_nil] at aa
  exact(O6 (aL x (by simp)).2 aa).elim
 |x::z::a,[y],aL,ae,h=>by
  have aa:x++(z::a).flatMap (λy=>[32]++y)=y++[]:=h
  rw[Du,List.append_nil] at aa
  exact(O6 (ae y (by simp)).2 aa.symm).elim
 |x::z::a,y::w::b,aL,ae,h=>by
  have aa:x++(z::a).flatMap (λy=>[32]++y)=y++(w::b).flatMap (λy=>[32]++y):=h
  rw[Du,Du] at aa
  obtain⟨ad,av⟩:=O5 (aL x (by simp)).2 (ae y (by simp)).2 aa
  have aG:=O7 (a:=z::a) (b:=w::b) (λs hs=>aL s (List.mem_cons_of_mem _ hs)) (λs hs=>ae s (List.mem_cons_of_mem _ hs)) av
  rw[ad,aG]
theorem vk(i:Nat):(iY i).length=8:=by simp[iY]
theorem ab4{i j:Nat}(af:i<18446744073709551616)(aK:j<18446744073709551616)(h:iY i=iY j):i=j:=by
 have key:∀k,k<8->i/2^(8*k) %256=j/2^(8*k) %256:=λk aq=>by
  have aa:(iY i)[k]? =(iY j)[k]? :=by rw[h]
  unfold iY at aa
  rw[List.getElem?_map,List.getElem?_map,List.getElem?_range aq] at aa
  simp only[Option.map_some,Option.some.injEq] at aa
  have:=congrArg UInt8.toNat aa
  simpa using this
 have kG:=key 0 (by omega)
 have bJ:=key 1 (by omega)
 have bQ:=key 2 (by omega)
 have ez:=key 3 (by omega)
 have gV:=key 4 (by omega)
 have fX:=key 5 (by omega)
 have iI:=key 6 (by omega)
 have yS:=key 7 (by omega)
 simp only[Nat.reduceMul,Nat.reducePow] at kG bJ bQ ez gV fX iI yS
 omega
theorem O8:∀{a b:List Nat},(∀i∈a,i<18446744073709551616)->(∀i∈b,i<18446744073709551616)->eP a=eP b->a=b
 |[],[],_,_,_=>rfl
 |[],j::b,_,_,h=>by
  have:=congrArg List.length h
  simp[eP,vk] at this
  omega
 |i::a,[],_,_,h=>by
  have:=congrArg List.length h
  simp[eP,vk] at this
 |i::a,j::b,aL,ae,h=>by
  have aa:iY i++eP a=iY j++eP b:=h
  obtain⟨ad,av⟩:=List.append_inj aa (by rw[vk,vk])
  rw[ab4 (aL i (by simp)) (ae j (by simp)) ad,O8 (λx ab=>aL x (by simp[ab])) (λx ab=>ae x (by simp[ab])) av]
theorem O9{x:Mem}{k:Nat}{nm:a7}{ns:List a7}{az:List Nat}{r:Nat}(ab:jX x.e.ns)(aN:jX ns)(aa:∀i∈x.e.args,i<18446744073709551616)(ad:∀i∈az,i<18446744073709551616):hN k nm (gB ns) (eP az) r x=x.e.is k nm ns az r:=by
 apply Bool.eq_iff_iff.2
 rw[pz]
 unfold hN
 simp only[Bool.and_eq_true,decide_eq_true_eq]
 constructor
 · rintro⟨b6,cU,c8,ek,en⟩
   exact⟨b6.symm,cU.symm,(O7 aN ab c8).symm,(O8 ad aa ek).symm,en.symm⟩
 · rintro⟨b6,cU,c8,ek,en⟩
   exact⟨b6.symm,cU.symm,by rw[c8],by rw[ek],en.symm⟩
theorem ab5{h:J}{m c:Nat}{M:List Mem}(hm:h.get m=some (.map (M.map jF) c)){k r:Nat}{nm f p:a7}(aQ:M.Pairwise λa b=>¬(hN k nm f p r a=true/\hN k nm f p r b=true)){x:Mem}(ab:x∈M)(aJ:hN k nm f p r x=true):hO Tryz.prog h 56 (.map m) (.agg [.int .i64 (Int.ofNat k),.str nm,.str f,.str p,.int .u64 (Int.ofNat r)]) true=some (.aO [.int .u64 (Int.ofNat x.e.id),.bool true]):=by
 obtain⟨i,aa,_⟩:=At (j:=0) (q:=hN k nm f p r) ab aJ aQ
 simp only[hO,Dp,Dr,hm,rR M 0 λy _=>Dt h k r nm f p y,aa,Option.map,pM]
 rfl
theorem ab6{h:J}{m c:Nat}{M:List Mem}(hm:h.get m=some (.map (M.map jF) c)){k r:Nat}{nm f p:a7}(aN:∀x∈M,hN k nm f p r x=false):hO Tryz.prog h 56 (.map m) (.agg [.int .i64 (Int.ofNat k),.str nm,.str f,.str p,.int .u64 (Int.ofNat r)]) true=some (.aO [.int .u64 (Int.ofNat 0),.bool false]):=by
 have aa:=As (q:=hN k nm f p r) (l:=M) (j:=0) aN
 have aW:ev Tryz.prog 32=some (.int .u64 (Int.ofNat 0)):=by kernel_rfl
 simp only[hO,Dp,Dr,hm,rR M 0 λy _=>Dt h k r nm f p y,aa,Option.map,pM,aW]
 rfl
theorem ab7{h:J}{m c:Nat}{M:List Mem}(hm:h.get m=some (.map (M.map jF) c)){k r:Nat}{nm f p:a7}(aQ:M.Pairwise λa b=>¬(hN k nm f p r a=true/\hN k nm f p r b=true)){x:Mem}(ab:x∈M)(aJ:hN k nm f p r x=true):pP Tryz.prog h 56 (.map m) (.agg [.int .i64 (Int.ofNat k),.str nm,.str f,.str p,.int .u64 (Int.ofNat r)])=some (.aO [],h.set m (some (.map ((M.filter λy=>!hN k nm f p r y).map jF) c))):=by
 obtain⟨i,aa,ad⟩:=At (j:=0) (q:=hN k nm f p r) ab aJ aQ
 simp only[pP,Dp,Dr,hm,rR M 0 λy _=>Dt h k r nm f p y,aa,Option.map,Nat.zero_add,ad]
theorem ab8(m:Nat)(v:I)(h:J){R:a9->Prop}(H:∃aE:Nat,cl Tryz.prog h 63 v=some (.int .i64 (.ofNat aE))/\aE=0/\R (.ret (.str []) h)):
  R (Y (m+1) (.fn 46) [v,.str [32]] h):=
 dQ (intr:=b3) [(1013,.t)] [(0,.o v),(1,.v (.str [32]))] Tryz.func46 (by kernel_rfl) (by kernel_rfl) (by kernel_rfl) rfl (Eq.mp (by kernel_rfl) H)
theorem ab9(m b off N:Nat)(cp:bR)(h:J){R:a9->Prop}(H:¬N=0/\(N=1->0<N/\∃s1:List UInt8,ar h b (off+0*1)=some (.str s1)/\R (.ret (.str s1) h))/\(¬N=1->(0<1->(1<=N/\N<9223372036854775808)/\∃aE:Nat,arith .quo .i64 (.ofNat 9223372036854775807) (.ofNat (N-1))=some (.int .i64 (.ofNat aE))/\¬aE<=1/\(1<=N/\N<9223372036854775808)/\1*(N-1)<9223372036854775808/\0+1*(N-1)<9223372036854775808/\a4 Tryz.prog Tryz.f46 (Y m) [1,1,1,1,0,1,0] (ah.mk [(0,.slice b off N cp),(1,.str [32]),(5,.int .i64 (.ofNat (0+1*(N-1)))),(39,.slice b off N cp),(40,.int .i64 (.ofNat N)),(41,.int .i64 (.ofNat 0))] [] .none h) (λb9 cf=>∃bf:Nat,∃ai:J,∃bw:Env,b9=.exit 1/\cf=ah.mk bw [] .none ai/\cd [(0,.slice b off N cp),(1,.str [32]),(5,.int .i64 (.ofNat bf))] bw/\∃au:J,(Y m) (.fn 74) [.ptr ai.n 0,.int .i64 (.ofNat bf)] (J.push ai (.cells [.aZ,.aS] 92 .own 0 0))=.ret (.aO []) au/\0<N/\∃s2:List UInt8,ar au b (off+0*1)=some (.str s2)/\∃bH:Nat,∃v1:I,∃ay:J,(Y m) (.fn 44) [.ptr ai.n 0,.str s2] au=.ret (.aO [.int .i64 (.ofNat bH),v1]) ay/\∃bU:Nat,∃b_:Nat,∃cv:Nat,∃aF:bR,c1 Tryz.prog ay 63 (.slice b off N cp) (some (.int .i64 (.ofNat 1))) none none=some (.slice bU b_ cv aF)/\a4 Tryz.prog Tryz.f46 (Y m) [1,1,1,1,1,1,1,1,0,1,0] (ah.mk [(1,.str [32]),(8,.ptr ai.n 0),(63,.slice bU b_ cv aF),(64,.int .i64 (.ofNat cv)),(65,.int .i64 (.ofNat 0))] [] .none ay) (λb9 cf=>∃c4:Nat,∃bg:J,∃bV:Env,b9=.exit 3/\cf=ah.mk bV [] .none bg/\cd [(8,.ptr c4 0)] bV/\∃bN:List UInt8,∃bF:J,(Y m) (.fn 47) [.ptr c4 0] bg=.ret (.str bN) bF/\R (.ret (.str bN) bF))))/\(¬0<1->a4 Tryz.prog Tryz.f46 (Y m) [1,1,1,1,0,1,0] (ah.mk [(0,.slice b off N cp),(1,.str [32]),(5,.int .i64 (.ofNat 0)),(39,.slice b off N cp),(40,.int .i64 (.ofNat N)),(41,.int .i64 (.ofNat 0))] [] .none h) (λb9 cf=>∃eo:Nat,∃dk:J,∃c5:Env,b9=.exit 1/\cf=ah.mk c5 [] .none dk/\cd [(0,.slice b off N cp),(1,.str [32]),(5,.int .i64 (.ofNat eo))] c5/\∃dX:J,(Y m) (.fn 74) [.ptr dk.n 0,.int .i64 (.ofNat eo)] (J.push dk (.cells [.aZ,.aS] 92 .own 0 0))=.ret (.aO []) dX/\0<N/\∃bS:List UInt8,ar dX b (off+0*1)=some (.str bS)/\∃eG:Nat,∃v2:I,∃fJ:J,(Y m) (.fn 44) [.ptr dk.n 0,.str bS] dX=.ret (.aO [.int .i64 (.ofNat eG),v2]) fJ/\∃fK:Nat,∃im:Nat,∃gQ:Nat,∃a6:bR,c1 Tryz.prog fJ 63 (.slice b off N cp) (some (.int .i64 (.ofNat 1))) none none=some (.slice fK im gQ a6)/\a4 Tryz.prog Tryz.f46 (Y m) [1,1,1,1,1,1,1,1,0,1,0] (ah.mk [(1,.str [32]),(8,.ptr dk.n 0),(63,.slice fK im gQ a6),(64,.int .i64 (.ofNat gQ)),(65,.int .i64 (.ofNat 0))] [] .none fJ) (λb9 cf=>∃jV:Nat,∃ir:J,∃gz:Env,b9=.exit 3/\cf=ah.mk gz [] .none ir/\cd [(8,.ptr jV 0)] gz/\∃cr:List UInt8,∃la:J,(Y m) (.fn 47) [.ptr jV 0] ir=.ret (.str cr) la/\R (.ret (.str cr) la)))))):
  R (Y (m+1) (.fn 46) [.slice b off N cp,.str [32]] h):=
 dQ (intr:=b3) [(1013,.f),(1029,.f),(63,.bq .fx),(4001,.gO [0,1,5,39,40,41] [(.exit 1,[(0,.is (.slice b off N cp)),(1,.is (.str [32])),(5,.n .i64)])]),(4003,.gO [1,8,63,64,65] [(.exit 3,[(8,.p)])])] [(0,.v (.slice b off N cp)),(1,.v (.str [32]))] Tryz.func46 (by kernel_rfl) (by kernel_rfl) (by kernel_rfl) rfl (Eq.mp (by kernel_rfl) H)
theorem ab_(call:aP)(b off N i n:Nat)(cp:bR)(h:J){Q:bu->ah->Prop}(H:(i<N->i<N/\∃s1:List UInt8,ar h b (off+i*1)=some (.str s1)/\(n<=9223372036854775807/\9223372036854775807<9223372036854775808)/\¬9223372036854775807-n<List.length s1/\n+List.length s1<9223372036854775808/\i+1<9223372036854775808/\Q .nrm (ah.mk [(0,.slice b off N cp),(1,.str [32]),(5,.int .i64 (.ofNat (n+List.length s1))),(39,.slice b off N cp),(40,.int .i64 (.ofNat N)),(41,.int .i64 (.ofNat (i+1)))] [] .none h))/\(¬i<N->Q (.exit 1) (ah.mk [(0,.slice b off N cp),(1,.str [32]),(5,.int .i64 (.ofNat n)),(39,.slice b off N cp),(40,.int .i64 (.ofNat N)),(41,.int .i64 (.ofNat i))] [] .none h))):
  a4 Tryz.prog Tryz.f46 call [1,1,1,1,0,1,0,0] ⟨[(0,.slice b off N cp),(1,.str [32]),(5,.int .i64 (.ofNat n)),(39,.slice b off N cp),(40,.int .i64 (.ofNat N)),(41,.int .i64 (.ofNat i))],[],.none,h⟩ Q:=
 dF [(1049,.f)] [0,1,5,39,40,41] [(0,.v (.slice b off N cp)),(1,.v (.str [32])),(5,.v (.int .i64 (.ofNat n))),(39,.v (.slice b off N cp)),(40,.v (.int .i64 (.ofNat N))),(41,.v (.int .i64 (.ofNat i)))] rfl (Eq.mp (by kernel_rfl) H)
theorem aca(call:aP)(w b off N i:Nat)(cp:bR)(h:J){Q:bu->ah->Prop}(H:(i<N->i<N/\∃s1:List UInt8,ar h b (off+i*1)=some (.str s1)/\∃aE:Nat,∃v1:I,∃ai:J,call (.fn 44) [.ptr w 0,.str [32]] h=.ret (.aO [.int .i64 (.ofNat aE),v1]) ai/\∃bf:Nat,∃v2:I,∃au:J,call (.fn 44) [.ptr w 0,.str s1] ai=.ret (.aO [.int .i64 (.ofNat bf),v2]) au/\i+1<9223372036854775808/\Q .nrm (ah.mk [(1,.str [32]),(8,.ptr w 0),(63,.slice b off N cp),(64,.int .i64 (.ofNat N)),(65,.int .i64 (.ofNat (i+1)))] [] .none au))/\(¬i<N->Q (.exit 3) (ah.mk [(1,.str [32]),(8,.ptr w 0),(63,.slice b off N cp),(64,.int .i64 (.ofNat N)),(65,.int .i64 (.ofNat i))] [] .none h))):
  a4 Tryz.prog Tryz.f46 call [1,1,1,1,1,1,1,1,0,1,0,0] ⟨[(1,.str [32]),(8,.ptr w 0),(63,.slice b off N cp),(64,.int .i64 (.ofNat N)),(65,.int .i64 (.ofNat i))],[],.none,h⟩ Q:=
 dF [] [1,8,63,64,65] [(1,.v (.str [32])),(8,.v (.ptr w 0)),(63,.v (.slice b off N cp)),(64,.v (.int .i64 (.ofNat N))),(65,.v (.int .i64 (.ofNat i)))] rfl (Eq.mp (by kernel_rfl) H)
theorem acb(m b n:Nat)(h:J){R:a9->Prop}(H:∃ai:J,(Y m) (.fn 73) [.ptr b 0] h=.ret (.aO []) ai/\¬n<0/\∃v1:I,ar (ai.room 13) b (0+1)=some v1/\∃aE:Nat,vC Tryz.prog 27 v1=some (.int .i64 (.ofNat aE))/\∃v2:I,ar (ai.room 13) b (0+1)=some v2/\∃bf:Nat,cl Tryz.prog (ai.room 13) 27 v2=some (.int .i64 (.ofNat bf))/\(bf<=aE/\aE<9223372036854775808)/\I.sound v1=true/\I.sound v2=true/\aE-bf<n/\∃au:J,(Y m) (.fn 102) [.ptr b 0,.int .i64 (.ofNat n)] (ai.room 13)=.ret (.aO []) au/\R (.ret (.aO []) au)):
  R (Y (m+1) (.fn 74) [.ptr b 0,.int .i64 (.ofNat n)] h):=
 dQ (intr:=b3) [(1007,.f),(1021,.t)] [(0,.v (.ptr b 0)),(1,.v (.int .i64 (.ofNat n)))] Tryz.func74 (by kernel_rfl) (by kernel_rfl) (by kernel_rfl) rfl (Eq.mp (by kernel_rfl) H)
theorem acd(m b n:Nat)(h:J){R:a9->Prop}(H:∃v1:I,ar (h.room 16) b (0+1)=some v1/\∃aE:Nat,vC Tryz.prog 27 v1=some (.int .i64 (.ofNat aE))/\2*aE<9223372036854775808/\2*aE+n<9223372036854775808/\∃bf:Nat,∃bH:Nat,∃bU:Nat,∃aF:bR,∃ai:J,(Y m) (.fn 112) [.int .i64 (.ofNat (2*aE+n))] (h.room 16)=.ret (.slice bf bH bU aF) ai/\∃v2:I,ar ai b (0+1)=some v2/\∃b_:Nat,cl Tryz.prog ai 27 v2=some (.int .i64 (.ofNat b_))/\∃cz:I,c1 Tryz.prog ai 27 (.slice bf bH bU aF) none (some (.int .i64 (.ofNat b_))) none=some cz/\I.sound v1=true/\I.sound v2=true/\ar (h.room 16) b (0+1)=some v2/\I.sound cz=true/\I.sound cz=true/\∃v4:I,ar ai b (0+1)=some v4/\∃cv:Nat,∃au:J,vD Tryz.prog ai 27 cz v4=some (.int .i64 (.ofNat cv),au)/\I.cO cz=true/\∃ay:J,bt.storeCells au b (0+1) [cz]=some ay/\R (.ret (.aO []) ay)):
  R (Y (m+1) (.fn 102) [.ptr b 0,.int .i64 (.ofNat n)] h):=
 dQ (intr:=b3) [(13,.bq .fx)] [(0,.v (.ptr b 0)),(1,.v (.int .i64 (.ofNat n)))] Tryz.func102 (by kernel_rfl) (by kernel_rfl) (by kernel_rfl) rfl (Eq.mp (by kernel_rfl) H)
theorem ace(m id:Nat)(h:J){R:a9->Prop}(H:∃v1:I,∃ai:J,B0 Tryz.prog h 27 (.int .i64 (.ofNat 8)) (.int .i64 (.ofNat 8))=some (v1,ai)/\∃aE:Nat,cl Tryz.prog ai 27 v1=some (.int .i64 (.ofNat aE))/\a4 Tryz.prog Tryz.f45 (Y m) [1,1,0,1,0] (ah.mk [(0,.int .u64 (.ofNat id)),(3,v1),(7,.int .i64 (.ofNat aE)),(8,.int .i64 (.ofNat 0))] [] .none ai) (λb9 cf=>∃bf:Nat,∃bH:Nat,∃bU:Nat,∃aF:bR,∃au:J,∃bw:Env,b9=.exit 0/\cf=ah.mk bw [] .none au/\cd [(3,.slice bf bH bU aF)] bw/\∃s1:List UInt8,iZ Tryz.prog 27 9 (.slice bf bH bU aF) au=jr.val (.str s1) au/\R (.ret (.str s1) au))):
  R (Y (m+1) (.fn 45) [.int .u64 (.ofNat id)] h):=
 dQ (intr:=b3) [(4000,.gO [0,3,7,8] [(.exit 0,[(3,.fx)])])] [(0,.v (.int .u64 (.ofNat id)))] Tryz.func45 (by kernel_rfl) (by kernel_rfl) (by kernel_rfl) rfl (Eq.mp (by kernel_rfl) H)
theorem acf(call:aP)(id b i:Nat)(cp:bR)(h:J){Q:bu->ah->Prop}(H:(i<8->8*i<9223372036854775808/\∃aE:Nat,r0 .shr .u64 (.ofNat id) (.ofNat (8*i))=some (.int .u64 (.ofNat aE))/\∃bf:Nat,iZ Tryz.prog 32 5 (.int .u64 (.ofNat aE)) h=jr.val (.int .u8 (.ofNat bf)) h/\i<8/\∃ai:J,bt.storeCells h b (0+i*1) [.int .u8 (.ofNat bf)]=some ai/\i+1<9223372036854775808/\Q .nrm (ah.mk [(0,.int .u64 (.ofNat id)),(3,.slice b 0 8 cp),(7,.int .i64 (.ofNat 8)),(8,.int .i64 (.ofNat (i+1)))] [] .none ai))/\(¬i<8->Q (.exit 0) (ah.mk [(0,.int .u64 (.ofNat id)),(3,.slice b 0 8 cp),(7,.int .i64 (.ofNat 8)),(8,.int .i64 (.ofNat i))] [] .none h))):
  a4 Tryz.prog Tryz.f45 call [1,1,0,1,0,0] ⟨[(0,.int .u64 (.ofNat id)),(3,.slice b 0 8 cp),(7,.int .i64 (.ofNat 8)),(8,.int .i64 (.ofNat i))],[],.none,h⟩ Q:=
 dF [(16,.bq (.n .u64)),(17,.bq (.n .u8))] [0,3,7,8] [(0,.v (.int .u64 (.ofNat id))),(3,.v (.slice b 0 8 cp)),(7,.v (.int .i64 (.ofNat 8))),(8,.v (.int .i64 (.ofNat i)))] rfl (Eq.mp (by kernel_rfl) H)
theorem acg(m p e:Nat)(z:Int)(h:J){R:a9->Prop}(H:∃aE:Nat,ar (h.room 13) e (0+0+4)=some (.int .u64 (.ofNat aE))/\∃v1:I,ar (J.set (h.room 13) (h.n+5) (some (.cells [.int .u64 (.ofNat aE)] 32 .own 0 0))) e (0+6)=some v1/\∃bf:Nat,∃bH:Nat,∃bU:Nat,∃aF:bR,∃ai:J,db Tryz.prog (J.set (h.room 13) (h.n+5) (some (.cells [.int .u64 (.ofNat aE)] 32 .own 0 0))) 44 (some 44) (.slice (h.n+5) 0 1 (.exact 1)) v1=some (.slice bf bH bU aF,ai)/\ar (J.set (h.room 13) (h.n+5) (some (.cells [.int .u64 (.ofNat aE)] 32 .own 0 0))) e (0+0+4)=some (.int .u64 (.ofNat aE))/\I.sound v1=true/\a4 Tryz.prog Tryz.f41 (Y m) [1,0] (ah.mk [(0,.ptr p 0),(2,.int .i64 z),(19,.slice bf bH bU aF),(20,.int .i64 (.ofNat bU)),(21,.int .i64 (.ofNat 0))] [] .none ai) (λb9 cf=>∃au:J,∃bw:Env,b9=.exit 0/\cf=ah.mk bw [] .none au/\cd [] bw/\R (.ret (.aO []) au))):
  R (Y (m+1) (.fn 41) [.ptr p 0,.ptr e 0,.int .i64 z] h):=
 dQ (intr:=b3) [(19,.bq .fx),(4000,.gO [0,2,19,20,21] [(.exit 0,[])])] [(0,.v (.ptr p 0)),(1,.v (.ptr e 0)),(2,.v (.int .i64 z))] Tryz.func41 (by kernel_rfl) (by kernel_rfl) (by kernel_rfl) rfl (Eq.mp (by kernel_rfl) H)
theorem O_(call:aP)(p b N i m:Nat)(cp:bR)(z:Int)(h:J){Q:bu->ah->Prop}(H:(i<N->i<N/\∃aE:Nat,ar h b (0+i*1)=some (.int .u64 (.ofNat aE))/\ar h p (0+3)=some (.map m)/\∃bf:Nat,hO Tryz.prog h 55 (.map m) (.int .u64 (.ofNat aE)) false=some (.ptr bf 0)/\∃eu:Int,ar h bf (0+8)=some (.int .i64 eu)/\∃fI:Int,arith .add .i64 eu z=some (.int .i64 fI)/\I.cO (.int .i64 fI)=true/\∃ai:J,bt.storeCells h bf (0+8) [.int .i64 fI]=some ai/\i+1<9223372036854775808/\Q .nrm (ah.mk [(0,.ptr p 0),(2,.int .i64 z),(19,.slice b 0 N cp),(20,.int .i64 (.ofNat N)),(21,.int .i64 (.ofNat (i+1)))] [] .none ai))/\(¬i<N->Q (.exit 0) (ah.mk [(0,.ptr p 0),(2,.int .i64 z),(19,.slice b 0 N cp),(20,.int .i64 (.ofNat N)),(21,.int .i64 (.ofNat i))] [] .none h))):
  a4 Tryz.prog Tryz.f41 call [1,0,0] ⟨[(0,.ptr p 0),(2,.int .i64 z),(19,.slice b 0 N cp),(20,.int .i64 (.ofNat N)),(21,.int .i64 (.ofNat i))],[],.none,h⟩ Q:=
 dF [(28,.bq (.is (.map m))),(30,.bq .p),(36,.bq (.z .i64)),(38,.bq (.z .i64))] [0,2,19,20,21] [(0,.v (.ptr p 0)),(2,.v (.int .i64 z)),(19,.v (.slice b 0 N cp)),(20,.v (.int .i64 (.ofNat N))),(21,.v (.int .i64 (.ofNat i)))] rfl (Eq.mp (by kernel_rfl) H)
theorem ach(call:aP)(p b N i m:Nat)(cp:bR)(z:Int)(h:J){Q:bu->ah->Prop}(H:(i<N->i<N/\∃aE:Nat,ar h b (0+i*1)=some (.int .u64 (.ofNat aE))/\ar h p (0+3)=some (.map m)/\hO Tryz.prog h 55 (.map m) (.int .u64 (.ofNat aE)) false=some .aZ/\i+1<9223372036854775808/\Q .nrm (ah.mk [(0,.ptr p 0),(2,.int .i64 z),(19,.slice b 0 N cp),(20,.int .i64 (.ofNat N)),(21,.int .i64 (.ofNat (i+1)))] [] .none h))/\(¬i<N->Q (.exit 0) (ah.mk [(0,.ptr p 0),(2,.int .i64 z),(19,.slice b 0 N cp),(20,.int .i64 (.ofNat N)),(21,.int .i64 (.ofNat i))] [] .none h))):
  a4 Tryz.prog Tryz.f41 call [1,0,0] ⟨[(0,.ptr p 0),(2,.int .i64 z),(19,.slice b 0 N cp),(20,.int .i64 (.ofNat N)),(21,.int .i64 (.ofNat i))],[],.none,h⟩ Q:=
 dF [(28,.bq (.is (.map m))),(30,.bq (.is .aZ))] [0,2,19,20,21] [(0,.v (.ptr p 0)),(2,.v (.int .i64 z)),(19,.v (.slice b 0 N cp)),(20,.v (.int .i64 (.ofNat N))),(21,.v (.int .i64 (.ofNat i)))] rfl (Eq.mp (by kernel_rfl) H)
def pD(id i:Nat):List UInt8:=(List.range 8).map λk=>if k<i then UInt8.ofNat (id/2^(8*k)) else 0
theorem aci(id:Nat):pD id 8=iY id:=by
 unfold pD iY
 refine List.map_congr_left λk aq=>?_
 rw[if_pos (List.mem_range.1 aq)]
theorem acj{l:List UInt8}{i:Nat}{c:UInt8}:(dp l).set i (.int .u8 (Int.ofNat c.toNat))=dp (l.set i c):=by
 induction l generalizing i with
 |nil=>rfl
 |cons x l bb=>
  cases i with
  |zero=>rfl
  |succ i=>simp only[dp,List.set_cons_succ,bb]
theorem ack{id i:Nat}(af:i<8):(pD id i).set i (UInt8.ofNat (id/2^(8*i)))=pD id (i+1):=by
 apply List.ext_getElem (by simp[pD])
 intro k aa ad
 simp only[pD,List.getElem_set,List.getElem_map,List.getElem_range]
 by_cases h:i=k
 · subst h;simp
 · rw[if_neg h]
   by_cases aq:k<i
   · rw[if_pos aq,if_pos (by omega)]
   · rw[if_neg aq,if_neg (by omega)]
theorem H7(l:List UInt8):(dp l).length=l.length:=by
 induction l with
 |nil=>rfl
 |cons x l bb=>simp[dp,bb]
theorem acm(m id:Nat)(h:J)(hn:id<18446744073709551616):∃g,Y (m+1) (.fn 45) [.int .u64 (Int.ofNat id)] h=.ret (.str (iY id)) g/\Ext h.n h g:=by
 obtain⟨H,cw⟩:∃H,H=h.push (.cells (dp (pD id 0)) 5 .own 0 0):=⟨_,rfl⟩
 have dz:Ext h.n h H:=by rw[cw];exact Ext.push (Nat.le_refl _) _
 have aA:B0 Tryz.prog h 27 (.int .i64 (Int.ofNat 8)) (.int .i64 (Int.ofNat 8))=some (.slice h.n 0 8 (.exact 8),H):=by rw[cw];kernel_rfl
 refine ace m id h (R:=λx=>∃g,x=.ret (.str (iY id)) g/\Ext h.n h g) ⟨_,H,aA,8,rfl,?_⟩
 refine a4.loop (by kernel_rfl) (λk st=>∃i y Γ,st=⟨Γ,[],.none,y⟩/\cd [(0,.int .u64 (Int.ofNat id)),(3,.slice h.n 0 8 (.exact 8)),(7,.int .i64 (Int.ofNat 8)),(8,.int .i64 (Int.ofNat i))] Γ/\8-i=k/\i<=8/\Ext h.n h y/\y.get h.n=some (.cells (dp (pD id i)) 5 .own 0 0)) ?_ 8 _ (by omega) ⟨0,H,_,rfl,⟨rfl,rfl,rfl,rfl,trivial⟩,by omega,by omega,dz,by rw[cw];exact fl rfl⟩
 rintro k st ⟨i,y,Γ,rfl,cL,aq,af,aU,al⟩
 have qw:(pD id i).length=8:=by simp[pD]
 refine a4.pre (acf (Y m) id h.n i (.exact 8) y ⟨λi1=>?_,λi1=>?_⟩) cL rfl rfl rfl
 · have bq:r0 .shr .u64 (Int.ofNat id) (Int.ofNat (8*i))=some (.int .u64 (Int.ofNat (id/2^(8*i)))):=by
     have aa:¬(Int.ofNat (8*i)<0):=Int.not_lt.2 (Int.natCast_nonneg _)
     have ad:min (Int.ofNat (8*i)).toNat (IntKind.bits .u64)=8*i:=by
      show min (8*i) 64=8*i
      omega
     simp only[r0,if_neg aa,ad]
     have av:((2:Int)^(8*i))=Int.ofNat (2^(8*i)):=by simp
     rw[av]
     exact congrArg (λz=>some (I.int .u64 z)) (Int.ofNat_fdiv _ _).symm
   have q5:iZ Tryz.prog 32 5 (.int .u64 (Int.ofNat (id/2^(8*i)))) y=.val (.int .u8 (Int.ofNat (UInt8.ofNat (id/2^(8*i))).toNat)) y:=by
    have e:(UInt8.ofNat (id/2^(8*i))).toNat=id/2^(8*i) %256:=by simp
    rw[e]
    exact Lw (ka:=.u64) (by kernel_rfl) (by kernel_rfl) (wrap_u8 _)
   obtain⟨g,H8⟩:∃g,g=y.set h.n (some (.cells (dp (pD id (i+1))) 5 .own 0 0)):=⟨_,rfl⟩
   have st:bt.storeCells y h.n (0+i*1) [.int .u8 (Int.ofNat (UInt8.ofNat (id/2^(8*i))).toNat)]=some g:=by
    rw[H8,<-ack i1,<-acj]
    exact gN al rfl (by rw[show 0+i*1=i by omega];exact G4 _ rfl _ i (by rw[H7,qw];exact i1))
   refine⟨by omega,_,bq,_,q5,i1,g,st,by omega,_,(by show _<k;omega),i+1,g,_,rfl,⟨rfl,rfl,rfl,rfl,trivial⟩,rfl,by omega,?_,by rw[H8];exact gk rfl⟩
   rw[H8];exact Ext.iB (Nat.le_refl _) aU
 · obtain rfl:i=8:=by omega
   rw[aci] at al
   have q5:iZ Tryz.prog 27 9 (.slice h.n 0 8 (.exact 8)) y=.val (.str (iY id)) y:=by
    have jd:Tryz.prog.underlying 27=some (.slice 5):=by kernel_rfl
    have p6:Tryz.prog.underlying 9=some .string:=by kernel_rfl
    have nO:Tryz.prog.underlying 5=some (.int .u8):=by kernel_rfl
    have jC:bt.loadCells y h.n 0 8=some (dp (iY id)):=by
     refine pa al ?_
     have:=Lu (dp (iY id)) [] 8 (by rw[H7,vk])
     rw[List.append_nil] at this
     exact this
    simp only[iZ,jd,p6,nO,jC,FT]
   exact⟨h.n,0,8,.exact 8,y,_,rfl,rfl,⟨rfl,trivial⟩,iY id,q5,y,rfl,aU⟩
theorem acn(n b B:Nat)(h:J)(v:I)(w s:List UInt8)(al:h.get b=some (.cells [.ptr b 0,v] 92 .own 0 0))(C0:qd B 5 h v w)(k_:b<B)(aat:B<=h.n)(cX:w++s≠[])(aw:w.length+s.length<=1000000000):∃an,Y (n+3) (.fn 44) [.ptr b 0,.str s] h=.ret (.aO [.int .i64 (Int.ofNat s.length),.e7]) an/\kd B b an (w++s)/\lz b B h an:=by
 obtain⟨aa,aF,ai,aE,dA⟩:=Hf n b h v (by omega) (.inr al)
 have br:qd B 5 aa v w:=C0.ext (by omega) λc ag _=>dA c (by omega)
 obtain⟨i,va,C1,y5⟩:=NP
 obtain⟨v',ad,b6,cU,c8⟩:=Lq (P:=Tryz.prog) (B:=B) (sT:=27) (xT:=some 9) (e:=5) (z:=.int .u8 (Int.ofNat 0)) (by omega) (by kernel_rfl) (by kernel_rfl) va C1 (by kernel_rfl) rfl (NQ y5 aw) br
 have au:=(c8.get b k_).trans ai
 have aN:=c8.n
 refine⟨ad.set b (some (.cells [.ptr b 0,v'] 92 .own 0 0)),?_,⟨.ptr b 0,v',gk rfl,.inr rfl,cU.ext (by simp) λc ag _=>dB (by omega) rfl,k_,by simp;omega,λe=>absurd e cX⟩,⟨by simp;omega,λc ag mz=>dB mz ((c8.get c ag).trans (dA c mz))⟩⟩
 rcases cU with⟨rfl,_⟩|⟨c,r,rfl,_⟩
 · exact eA (intr:=b3) (n:=n+2) (args:=[.ptr b 0,.str s]) Tryz.func44 (by kernel_rfl) rfl (by kernel_rfl) (NK (Y (n+2)) b s v h ad aa _ aF (aT ai rfl) b6 (gN au rfl rfl)) (.inl rfl) (by kernel_rfl)
 · exact eA (intr:=b3) (n:=n+2) (args:=[.ptr b 0,.str s]) Tryz.func44 (by kernel_rfl) rfl (by kernel_rfl) (bws (Y (n+2)) b c _ s v h ad aa _ aF (aT ai rfl) b6 (gN au rfl rfl)) (.inl rfl) (by kernel_rfl)
theorem aco(n m:Nat)(h:J)(hm:m<=1000000000):Y (n+1) (.fn 112) [.int .i64 (Int.ofNat m)] h=.ret (.slice h.n 0 m (.aR 1)) (h.push (.cells (List.replicate m .bad) 5 .aR 0 0)):=by
 have hle:Nat.ble m 1099511627776=true:=by simp;omega
 have aA:(Tryz.f112).resultTypes[0]? =some 27:=by kernel_rfl
 have ax:Tryz.prog.underlying 27=some (.slice 5):=by kernel_rfl
 have bD:(Tryz.f112).body=none:=by kernel_rfl
 have ed:(Tryz.f112).name= "internal/bytealg.MakeNoZero" :=by kernel_rfl
 have fF:b3 112 [.int .i64 (Int.ofNat m)] h=none:=rfl
 have fG:r7 Tryz.prog Tryz.f112 "internal/bytealg.MakeNoZero" [.int .i64 (Int.ofNat m)] h=some (.slice h.n 0 m (.aR 1),h.push (.cells (List.replicate m .bad) 5 .aR 0 0)):=by
  simp only[r7,aA,ax,hle];rfl
 show fp Tryz.prog b3 (n+1) _ _ _=_
 simp only[fp,fF,qS,Tryz.func112,bD,ed,fG]
theorem acp(n b m:Nat)(h:J)(ae:b<h.n)(al:h.get b=some (.cells [.aZ,.aS] 92 .own 0 0))(h0:0<m)(hm:m<=1000000000):∃g c,Y (n+3) (.fn 74) [.ptr b 0,.int .i64 (Int.ofNat m)] h=.ret (.aO []) g/\g.get b=some (.cells [.ptr b 0,.slice c 0 0 (.aR 1)] 92 .own 0 0)/\qd h.n 5 g (.slice c 0 0 (.aR 1)) []/\lz b h.n h g:=by
 obtain⟨aa,aF,ai,aE,dA⟩:=Hf n b h .aS ae (.inl al)
 obtain⟨H,cw⟩:∃H,H=(aa.room 13).room 16:=⟨_,rfl⟩
 have lK:H.n=aa.n+29:=by rw[cw];simp
 have td:H.get b=some (.cells [.ptr b 0,.aS] 92 .own 0 0):=by rw[cw];exact ai
 obtain⟨aM,Ax⟩:∃aM,aM=H.push (.cells (List.replicate m .bad) 5 .aR 0 0):=⟨_,rfl⟩
 have H9:aM.get b=some (.cells [.ptr b 0,.aS] 92 .own 0 0):=by rw[Ax];exact lA (by omega) td
 have Pa:=aco n (0+m) H (by omega)
 obtain⟨bm,qH⟩:∃bm,bm=aM.set b (some (.cells [.ptr b 0,.slice H.n 0 0 (.aR 1)] 92 .own 0 0)):=⟨_,rfl⟩
 have jv:c1 Tryz.prog aM 27 (.slice H.n 0 (0+m) (.aR 1)) none (some (.int .i64 (Int.ofNat 0))) none=some (.slice H.n 0 0 (.aR 1)):=CX (E:=5) (by kernel_rfl) (by kernel_rfl) (Nat.zero_le _)
 have HZ:vD Tryz.prog aM 27 (.slice H.n 0 0 (.aR 1)) .aS=some (.int .i64 (Int.ofNat 0),aM):=by kernel_rfl
 have acq:Y (n+2) (.fn 102) [.ptr b 0,.int .i64 (Int.ofNat m)] (aa.room 13)=.ret (.aO []) bm:=by
  rw[Nat.zero_add] at Pa jv
  refine acd (n+1) b m (aa.room 13) (R:=λx=>x=.ret (.aO []) bm) ?_
  rw[<-cw]
  refine⟨.aS,aT td rfl,0,rfl,by omega,by omega,H.n,0,m,.aR 1,aM,?_,.aS,aT H9 rfl,0,rfl,_,jv,rfl,rfl,aT td rfl,rfl,rfl,.aS,aT H9 rfl,0,aM,HZ,rfl,bm,by rw[qH];exact gN H9 rfl rfl,rfl⟩
  rw[show 2*0+m=m by omega,Ax];exact Pa
 have bH:bm.n=H.n+1:=by rw[qH,Ax];rfl
 refine⟨bm,H.n,acb (n+2) b m h (R:=λx=>x=.ret (.aO []) bm) ⟨aa,aF,by omega,.aS,aT (h:=aa.room 13) ai rfl,0,rfl,.aS,aT (h:=aa.room 13) ai rfl,0,rfl,by omega,rfl,rfl,by omega,bm,acq,rfl⟩,by rw[qH];exact gk rfl,.inr ⟨H.n,List.replicate m .bad,rfl,?_,by omega,by omega⟩,⟨by omega,λc ag mz=>?_⟩⟩
 · rw[qH]
   refine dB (by omega) ?_
   rw[Ax];exact fl rfl
 · rw[qH]
   refine dB mz ?_
   rw[Ax]
   refine lA (by omega) ?_
   rw[cw];exact dA c mz
theorem H_(c:Nat):∀a b:List a7,fP c (a++b)=fP c a+fP c b
 |[],b=>by rw[fP,List.nil_append];omega
 |x::a,b=>by rw[List.cons_append,fP,H_ c a b,fP];omega
theorem Ia(c:Nat)(l:List a7)(i:Nat):fP c (l.take i)<=fP c l:=by
 have:=H_ c (l.take i) (l.drop i)
 rw[List.take_append_drop] at this
 omega
theorem Dv(l:List a7)(i:Nat):(ef [32] (l.take i)).length<=fP 1 l:=Nat.le_trans (CE [32] _) (Ia 1 l i)
theorem acr(m:Nat){F:Nat->Prop}{h:J}{v:I}{ns:List a7}(aD:kL F h v (ns.map .str))(fR:∀b,F b->b<h.n)(aN:∀s∈ns,s≠[])(aw:ns.length<=1000)(bc:fP 1 ns<=1000000):∃g,Y (m+4) (.fn 46) [v,.str [32]] h=.ret (.str (gB ns)) g/\Ext h.n h g:=by
 rcases aD with⟨rfl,e⟩|⟨b,off,cp,rfl,ae,av,aG,bI,cq⟩
 · obtain rfl:ns=[]:=by simpa using e
   exact⟨h,ab8 (m+3) .aS h (R:=λx=>x=.ret (.str (gB [])) h) ⟨0,rfl,rfl,rfl⟩,Ext.refl _ _⟩
 have ae:=fR b ae
 rw[List.length_map] at aG cq⊢
 have fB:∀{x},Ext h.n h x->∀i (af:i<ns.length),ar x b (off+i*1)=some (.str ns[i]):=λe i af=>by
  rw[jh e ae (av i (by rw[List.length_map];exact af))];simp
 refine ab9 (m+3) b off ns.length cp h (R:=λx=>∃g,x=.ret (.str (gB ns)) g/\Ext h.n h g) ⟨by omega,λaE=>?_,λaE=>⟨λ_=>?_,λh=>absurd (by omega) h⟩⟩
 · refine⟨aG,_,fB (Ext.refl _ _) 0 aG,h,?_,Ext.refl _ _⟩
   cases ns with
   |nil=>cases aE
   |cons x l=>
    obtain rfl:l=[]:=by simpa using aE
    show _=a9.ret (.str (x++[])) h
    rw[List.append_nil];rfl
 have aJ:∃q,arith .quo .i64 (Int.ofNat 9223372036854775807) (Int.ofNat (ns.length-1))=some (.int .i64 (Int.ofNat q))/\¬q<=1:=by
  refine⟨9223372036854775807/(ns.length-1),?_,?_⟩
  · have aa:¬Int.ofNat (ns.length-1)=0:=λh=>by have ad:((ns.length-1:Nat):Int)=0:=h;omega
    have ad:9223372036854775807/(ns.length-1)<9223372036854775808:=Nat.lt_of_le_of_lt (Nat.div_le_self _ _) (by omega)
    simp only[arith]
    rw[if_neg aa]
    have av:(Int.ofNat 9223372036854775807).tdiv (Int.ofNat (ns.length-1))=((9223372036854775807/(ns.length-1):Nat):Int):=rfl
    rw[av,sg _ ad]
    rfl
  · have:2<=9223372036854775807/(ns.length-1):=(Nat.le_div_iff_mul_le (by omega)).2 (by omega)
    omega
 obtain⟨q,ba,a1⟩:=aJ
 refine⟨⟨by omega,by omega⟩,q,ba,a1,⟨by omega,by omega⟩,by omega,by omega,?_⟩
 refine a4.loop (by kernel_rfl) (λk st=>∃i n Γ,st=⟨Γ,[],.none,h⟩/\cd [(0,.slice b off ns.length cp),(1,.str [32]),(5,.int .i64 (Int.ofNat n)),(39,.slice b off ns.length cp),(40,.int .i64 (Int.ofNat ns.length)),(41,.int .i64 (Int.ofNat i))] Γ/\ns.length-i=k/\i<=ns.length/\0<n/\n<=1000+fP 1 (ns.take i)) ?_ ns.length _ (by omega) ⟨0,_,_,rfl,⟨rfl,rfl,rfl,rfl,rfl,rfl,trivial⟩,by omega,by omega,by omega,by omega⟩
 rintro k st ⟨i,n,Γ,rfl,cL,aq,af,yn,El⟩
 have wg:=Ia 1 ns i
 refine a4.pre (ab_ (Y (m+3)) b off _ i n cp h ⟨λi1=>?_,λi1=>?_⟩) cL rfl rfl rfl
 · have e:fP 1 (ns.take (i+1))=fP 1 (ns.take i)+(ns[i].length+1):=by
     rw[List.take_succ_eq_append_getElem i1,H_,fP,fP]
   have age:=Ia 1 ns (i+1)
   exact⟨i1,_,fB (Ext.refl _ _) i i1,⟨by omega,by omega⟩,by omega,by omega,by omega,_,(by show _<k;omega),i+1,_,_,rfl,⟨rfl,rfl,rfl,rfl,rfl,rfl,trivial⟩,rfl,by omega,by omega,by omega⟩
 · obtain⟨H,cw⟩:∃H,H=h.push (.cells [.aZ,.aS] 92 .own 0 0):=⟨_,rfl⟩
   have lK:H.n=h.n+1:=by rw[cw];rfl
   have dz:Ext h.n h H:=by rw[cw];exact Ext.push (Nat.le_refl _) _
   obtain⟨g,c,aF,Bl,acs,pt⟩:=acp m h.n n H (by omega) (by rw[cw];exact fl rfl) yn (by omega)
   have OX:=pt.n
   have Dw:∀{x},lz h.n H.n H x->Ext h.n h x:=λe=>⟨by have:=e.n;omega,λd ao=>(e.get d (by omega) (by omega)).trans (dz.get d ao)⟩
   have acu:ns[0]≠[]:=aN _ (List.getElem_mem aG)
   have cJ:(ef [32] (ns.take 1)).length<=fP 1 ns:=Dv ns 1
   have dc:ef [32] (ns.take 1)=ns[0]:=by
    have:=u3 [32] ns (i:=0) aG
    simpa using this
   rw[dc] at cJ
   obtain⟨ay,dy,Pb,dC⟩:=acn m h.n H.n g (.slice c 0 0 (.aR 1)) [] ns[0] Bl acs (by omega) OX (by simpa using acu) (by simp;omega)
   rw[List.nil_append] at Pb
   have acv:lz h.n H.n H ay:=pt.trans (Nat.le_refl _) dC
   obtain⟨oM,jD,d1,d2,d3⟩:=HF (P:=Tryz.prog) (h:=ay) (T:=63) (E:=9) (b:=b) (off:=off) (by kernel_rfl) (by kernel_rfl) aG cq
   obtain⟨rfl,_⟩:=d3 (by omega)
   subst cw
   refine⟨n,h,_,rfl,rfl,⟨rfl,rfl,rfl,trivial⟩,g,aF,aG,ns[0],fB (Dw pt) 0 aG,_,_,ay,dy,b,_,ns.length-1,jD,d1,?_⟩
   refine a4.loop (by kernel_rfl) (λk st=>∃i y Γ,st=⟨Γ,[],.none,y⟩/\cd [(1,.str [32]),(8,.ptr h.n 0),(63,.slice b (off+1*1) (ns.length-1) jD),(64,.int .i64 (Int.ofNat (ns.length-1))),(65,.int .i64 (Int.ofNat i))] Γ/\ns.length-1-i=k/\i<=ns.length-1/\kd (h.n+1) h.n y (ef [32] (ns.take (i+1)))/\lz h.n (h.n+1) (h.push (.cells [.aZ,.aS] 92 .own 0 0)) y) ?_ (ns.length-1) _ (by omega) ⟨0,ay,_,rfl,⟨rfl,rfl,rfl,rfl,rfl,trivial⟩,by omega,by omega,by rw[dc];exact Pb,acv⟩
   rintro dh st ⟨j,y,cx,rfl,nS,e0,aK,s_,aU⟩
   refine a4.pre (aca (Y (m+3)) h.n b _ _ j jD y ⟨λkF=>?_,λkF=>?_⟩) nS rfl rfl rfl
   · have bw:=Dv ns (j+1)
     have bV:=Dv ns (j+1+1)
     have ax:=u3 [32] ns (i:=j+1) (by omega)
     rw[if_pos (by omega)] at ax
     rw[ax] at bV
     simp only[List.length_append,List.length_cons,List.length_nil] at bV
     obtain⟨jQ,cW,acw,bJ⟩:=CZ m h.n (h.n+1) y _ [32] s_ (by simp;omega)
     obtain⟨kp,cN,acx,bQ⟩:=CZ m h.n (h.n+1) jQ _ ns[j+1] acw (by simp;omega)
     refine⟨kF,ns[j+1],?_,_,_,jQ,cW,_,_,kp,cN,by omega,_,(by show _<dh;omega),j+1,kp,_,rfl,⟨rfl,rfl,rfl,rfl,rfl,trivial⟩,rfl,by omega,?_,(aU.trans (Nat.le_refl _) bJ.x).trans (Nat.le_refl _) bQ.x⟩
     · rw[show off+1*1+j*1=off+(j+1)*1 by omega]
       exact fB (Dw aU) (j+1) (by omega)
     · rw[ax];exact acx
   · obtain rfl:j=ns.length-1:=by omega
     have bw:=Dv ns (ns.length-1+1)
     obtain⟨bF,tt,pe⟩:=NR (m+2) h.n (h.n+1) y _ s_ (by omega)
     rw[List.take_of_length_le (by omega)] at tt
     exact⟨h.n,y,_,rfl,rfl,⟨rfl,trivial⟩,gB ns,bF,tt,bF,rfl,⟨by have:=pe.n;have:=(Dw aU).n;omega,λd ao=>(pe.get d (by omega)).trans ((Dw aU).get d ao)⟩⟩
abbrev rS(d:Nat):I:=.int .u64 (Int.ofNat d)
abbrev vl(B:Nat)(h:J)(v:I)(l:List Nat):Prop:=cu (λd=>[rS d]) 1 32 B h v l
theorem qI:jy Tryz.prog (λd=>[rS d]) 1 32 44 where
 hu:=by kernel_rfl
 fj:=by kernel_rfl
 info:=by
  obtain⟨i,af⟩:=Option.isSome_iff_exists.1 (show(Tryz.prog.info? 32).isSome=true by kernel_rfl)
  refine⟨i,af,?_,?_⟩
  · have:(Tryz.prog.info? 32).map (·.size)=some 1:=by kernel_rfl
    rw[af] at this;simpa using this
  · have:(Tryz.prog.info? 32).map (λi=>Nat.ble i.bytes 1000)=some true:=by kernel_rfl
    rw[af] at this
    exact Nat.le_of_ble_eq_true (by simpa using this)
 zero:=⟨.int .u64 0,by kernel_rfl,rfl⟩
 size:=by kernel_rfl
 len:=λ_=>rfl
 cell:=λ_=>rfl
 pos:=by decide
abbrev xE(cap given clock a5 bX:Nat):dr:=.cells [.int .i64 (Int.ofNat cap),.int .u64 (Int.ofNat given),.int .u64 (Int.ofNat clock),.map a5,.map bX] 58 .own 0 0
abbrev xF(e:cc)(ao:Int)(bK a_:I):dr:=.cells (abZ e ao bK a_) 65 .own 0 0
structure gr(F:Nat->Prop)(h:J)(p a5 bX aF a6 cap given clock:Nat)(M:List Mem):Prop where
 st:h.get p=some (xE cap given clock a5 bX)
 aA:h.get a5=some (.map (M.map h5) aF)
 ax:h.get bX=some (.map (M.map jF) a6)
 eF:∀x∈M,h.get x.b=some (xF x.e x.ao x.bK x.a_)
 ns:∀x∈M,mo 0 h x.bK x.e.ns
 az:∀x∈M,vl 0 h x.a_ x.e.args
 bs:M.Pairwise λa b=>a.b≠b.b
 dA:M.Pairwise λa b=>a.dA≠b.dA
 fU:∀x∈M,x.dA<aF/\x.dK<a6
 up:xD M
 vm:∀x∈M,0<x.e.id
 kf:a5≠bX
 aI:p<h.n/\a5<h.n/\bX<h.n/\∀x∈M,x.b<h.n
 mf:¬F p/\¬F a5/\¬F bX
 ne:∀x∈M,¬F x.b
 xG:∀x∈M,∀d n cp,x.bK=.slice d 0 n cp->¬F d
 xH:∀x∈M,∀d n cp,x.a_=.slice d 0 n cp->¬F d
theorem Ay{cs:List I}{el:Nat}{e:Nat}:jT e (some (.cells cs el .own 0 0)):=λ_ _ _ h=>by cases h
theorem Pc{es:List dU}{c e:Nat}:jT e (some (.map es c)):=λ_ _ _ h=>by cases h
theorem vn{cs:List I}{el e:Nat}{k:gS}{aI up:Nat}(cX:el≠e):jT e (some (.cells cs el k aI up)):=λ_ _ _ h=>by cases h;exact cX rfl
theorem Pd{D:Type}{enc:D->List I}{w el:Nat}{F:Nat->Prop}{h g:J}{v:I}{ds:List D}(cX:el≠5)(aY:cu enc w el 0 h v ds)(hf:∀d n cp,v=.slice d 0 n cp->¬F d)(aN:h.n<=g.n)(aq:∀d,d<h.n->¬F d->jT 5 (h.get d)->g.get d=h.get d):cu enc w el 0 g v ds:=by
 rcases aY with aY|⟨q,rfl,ad,av,aG,bI⟩
 · exact .inl aY
 · exact .inr ⟨q,rfl,ad,(aq q bI (hf q _ _ rfl) (by rw[av];exact vn cX)).trans av,aG,by omega⟩
theorem Pe{D:Type}{enc:D->List I}{w el:Nat}{F G:Nat->Prop}{h:J}{v:I}{ds:List D}(cX:el≠5)(aY:cu enc w el 0 h v ds)(hf:∀d n cp,v=.slice d 0 n cp->¬F d)(jg:∀d,d<h.n->G d->F d\/¬jT 5 (h.get d)):∀d n cp,v=.slice d 0 n cp->¬G d:=by
 rintro d n cp e al
 rcases aY with⟨rfl,_⟩|⟨q,rfl,ad,av,aG,bI⟩
 · cases e
 · cases e
   rcases jg _ bI al with h|h
   · exact hf _ _ _ rfl h
   · exact h (by rw[av];exact vn cX)
theorem gr.move{F G:Nat->Prop}{h g:J}{p a5 bX aF a6 cap given clock:Nat}{M:List Mem}(w:gr F h p a5 bX aF a6 cap given clock M)(aN:h.n<=g.n)(aq:∀d,d<h.n->¬F d->jT 5 (h.get d)->g.get d=h.get d)(jg:∀d,d<h.n->G d->F d\/¬jT 5 (h.get d)):gr G g p a5 bX aF a6 cap given clock M:=by
 obtain⟨bw,bV,c5,gz⟩:=w.aI
 obtain⟨f1,f2,f3⟩:=w.mf
 have xC:∀d,d<h.n->¬F d->jT 5 (h.get d)->¬G d:=λd ao hf aj al=>(jg d ao al).elim hf λk=>k aj
 have r1:jT 5 (h.get p):=by rw[w.st];exact Ay
 have r2:jT 5 (h.get a5):=by rw[w.aA];exact Pc
 have dS:jT 5 (h.get bX):=by rw[w.ax];exact Pc
 have eZ:∀x∈M,jT 5 (h.get x.b):=λx ab=>by rw[w.eF x ab];exact Ay
 have cr:9≠5:=by decide
 have c3:32≠5:=by decide
 exact⟨(aq p bw f1 r1).trans w.st,(aq a5 bV f2 r2).trans w.aA,(aq bX c5 f3 dS).trans w.ax,λx ab=>(aq x.b (gz x ab) (w.ne x ab) (eZ x ab)).trans (w.eF x ab),λx ab=>Pd cr (w.ns x ab) (w.xG x ab) aN aq,λx ab=>Pd c3 (w.az x ab) (w.xH x ab) aN aq,w.bs,w.dA,w.fU,w.up,w.vm,w.kf,⟨by omega,by omega,by omega,λx ab=>by have:=gz x ab;omega⟩,⟨xC p bw f1 r1,xC a5 bV f2 r2,xC bX c5 f3 dS⟩,λx ab=>xC x.b (gz x ab) (w.ne x ab) (eZ x ab),λx ab=>Pe cr (w.ns x ab) (w.xG x ab) jg,λx ab=>Pe c3 (w.az x ab) (w.xH x ab) jg⟩
theorem gr.ext{F:Nat->Prop}{h g:J}{p a5 bX aF a6 cap given clock:Nat}{M:List Mem}(w:gr F h p a5 bX aF a6 cap given clock M)(e:Ext h.n h g):gr F g p a5 bX aF a6 cap given clock M:=w.move e.n (λd ao _ _=>e.get d ao) λd _ h=>.inl h
structure xI(f:Mem->Mem):Prop where
 b:∀x,(f x).b=x.b
 dA:∀x,(f x).dA=x.dA
 dK:∀x,(f x).dK=x.dK
 bK:∀x,(f x).bK=x.bK
 a_:∀x,(f x).a_=x.a_
 id:∀x,(f x).e.id=x.e.id
 bq:∀x,Dn (f x).e=Dn x.e
 ns:∀x,(f x).e.ns=x.e.ns
 args:∀x,(f x).e.args=x.e.args
def m6(id:Nat)(f:Mem->Mem)(M:List Mem):List Mem:=M.map λy=>if y.e.id=id then f y else y
theorem xI.ite{f:Mem->Mem}(hf:xI f)(id:Nat):xI λy=>if y.e.id=id then f y else y:=by
 constructor<;>intro x<;>split<;>first|rfl|exact hf.b x|exact hf.dA x|exact hf.dK x|exact hf.bK x|exact hf.a_ x|exact hf.id x|exact hf.bq x|exact hf.ns x|exact hf.args x
theorem acy{M:List Mem}(h:xD M){a b:Mem}(aL:a∈M)(ae:b∈M)(e:a.e.id=b.e.id):a=b:=by
 induction M with
 |nil=>cases aL
 |cons x l bb=>
  rw[xD,List.pairwise_cons] at h
  rcases List.mem_cons.1 aL with aa|aa
  · rcases List.mem_cons.1 ae with ad|ad
    · rw[aa,ad]
    · have:=h.1 b ad;rw[aa] at e;omega
  · rcases List.mem_cons.1 ae with ad|ad
    · have:=h.1 a aa;rw[ad] at e;omega
    · exact bb h.2 aa ad
theorem acz{M:List Mem}(h:M.Pairwise λa b=>a.b≠b.b){a b:Mem}(aL:a∈M)(ae:b∈M)(e:a.b=b.b):a=b:=by
 induction M with
 |nil=>cases aL
 |cons x l bb=>
  rw[List.pairwise_cons] at h
  rcases List.mem_cons.1 aL with aa|aa
  · rcases List.mem_cons.1 ae with ad|ad
    · rw[aa,ad]
    · rw[aa] at e;exact absurd e (h.1 b ad)
  · rcases List.mem_cons.1 ae with ad|ad
    · rw[ad] at e;exact absurd e.symm (h.1 a aa)
    · exact bb h.2 aa ad
theorem gr.fE{F:Nat->Prop}{h:J}{p a5 bX aF a6 cap given clock:Nat}{M:List Mem}(w:gr F h p a5 bX aF a6 cap given clock M){x:Mem}(ab:x∈M){f:Mem->Mem}(hf:xI f):gr F (h.set x.b (some (xF (f x).e (f x).ao (f x).bK (f x).a_))) p a5 bX aF a6 cap given clock (m6 x.e.id f M):=by
 have K:=hf.ite x.e.id
 have m7:=w.eF x ab
 have aQ:p≠x.b:=λe=>by rw[<-e,w.st] at m7;cases m7
 have aa:a5≠x.b:=λe=>by rw[<-e,w.aA] at m7;cases m7
 have ad:bX≠x.b:=λe=>by rw[<-e,w.ax] at m7;cases m7
 have mem:∀y∈m6 x.e.id f M,∃z∈M,y=if z.e.id=x.e.id then f z else z:=λy aU=>by
  obtain⟨z,aW,e⟩:=List.mem_map.1 aU;exact⟨z,aW,e.symm⟩
 have acA:(m6 x.e.id f M).map h5=M.map h5:=by
  rw[m6,List.map_map]
  refine List.map_congr_left λz _=>?_
  show h5 (if z.e.id=x.e.id then f z else z)=h5 z
  unfold h5
  rw[K.id z,K.b z,K.dA z]
 have acB:(m6 x.e.id f M).map jF=M.map jF:=by
  rw[m6,List.map_map]
  refine List.map_congr_left λz _=>?_
  show jF (if z.e.id=x.e.id then f z else z)=jF z
  unfold jF
  rw[K.id z,K.bq z,K.dK z]
 have vo:∀{R S:Mem->Mem->Prop},M.Pairwise R->(∀a b,R a b->S (if a.e.id=x.e.id then f a else a) (if b.e.id=x.e.id then f b else b))->(m6 x.e.id f M).Pairwise S:=λh k=>by
  rw[m6,List.pairwise_map];exact h.imp λ{a b} fw=>k a b fw
 refine⟨dB aQ w.st,by rw[acA];exact dB aa w.aA,by rw[acB];exact dB ad w.ax,λy aU=>?_,λy aU=>?_,λy aU=>?_,vo w.bs λa b fw=>by rw[K.b a,K.b b];exact fw,vo w.dA λa b fw=>by rw[K.dA a,K.dA b];exact fw,λy aU=>?_,vo w.up λa b fw=>by rw[K.id a,K.id b];exact fw,λy aU=>?_,w.kf,⟨w.aI.1,w.aI.2.1,w.aI.2.2.1,λy aU=>?_⟩,w.mf,λy aU=>?_,λy aU=>?_,λy aU=>?_⟩
 all_goals obtain⟨z,aW,rfl⟩:=mem y aU
 · rw[K.b z]
   by_cases e:z.e.id=x.e.id
   · obtain rfl:=acy w.up aW ab e
     rw[if_pos rfl]
     exact gk rfl
   · rw[if_neg e]
     exact dB (λcI=>e (by rw[acz w.bs aW ab cI])) (w.eF z aW)
 · rw[K.bK z,K.ns z];exact cu.sM (w.ns z aW) m7
 · rw[K.a_ z,K.args z];exact cu.sM (w.az z aW) m7
 · rw[K.dA z,K.dK z];exact w.fU z aW
 · rw[K.id z];exact w.vm z aW
 · rw[K.b z];exact w.aI.2.2.2 z aW
 · rw[K.b z];exact w.ne z aW
 · rw[K.bK z];exact w.xG z aW
 · rw[K.a_ z];exact w.xH z aW
theorem gr.head{F:Nat->Prop}{h:J}{p a5 bX aF a6 cap given clock:Nat}{M:List Mem}(w:gr F h p a5 bX aF a6 cap given clock M)(Pf Pg:Nat):gr F (h.set p (some (xE cap Pf Pg a5 bX))) p a5 bX aF a6 cap Pf Pg M:=by
 have aQ:=w.st
 have aa:a5≠p:=λe=>by rw[<-e,w.aA] at aQ;cases aQ
 have ad:bX≠p:=λe=>by rw[<-e,w.ax] at aQ;cases aQ
 have av:∀x∈M,x.b≠p:=λx ab e=>by
  rw[<-e,w.eF x ab] at aQ
  injection aQ with aQ;injection aQ with _ aQ
  exact absurd aQ (by decide)
 exact⟨gk rfl,dB aa w.aA,dB ad w.ax,λx ab=>dB (av x ab) (w.eF x ab),λx ab=>cu.sM (w.ns x ab) aQ,λx ab=>cu.sM (w.az x ab) aQ,w.bs,w.dA,w.fU,w.up,w.vm,w.kf,w.aI,w.mf,w.ne,w.xG,w.xH⟩
structure b2(F:Nat->Prop)(h g:J):Prop where
 n:h.n<=g.n
 get:∀d,d<h.n->F d->g.get d=h.get d
theorem b2.refl(F:Nat->Prop)(h:J):b2 F h h:=⟨Nat.le_refl _,λ_ _ _=>rfl⟩
theorem b2.trans{F:Nat->Prop}{h g k:J}(a:b2 F h g)(b:b2 F g k):b2 F h k:=⟨Nat.le_trans a.n b.n,λd ao hf=>(b.get d (Nat.lt_of_lt_of_le ao a.n) hf).trans (a.get d ao hf)⟩
theorem b2.ext{F:Nat->Prop}{h g:J}(e:Ext h.n h g):b2 F h g:=⟨e.n,λd ao _=>e.get d ao⟩
theorem b2.set{F:Nat->Prop}{h:J}{b:Nat}{o:Option dr}(ae:¬F b):b2 F h (h.set b o):=⟨Nat.le_refl _,λd _ hf=>dB (λe=>ae (e▸hf)) rfl⟩
theorem acC{D:Type}{P:Program}{e:D->I}{el sT:TypeId}(T:jy P (λd=>[e d]) 1 el sT){h:J}{src:I}{q tc:Nat}{d:D}{es:List D}(aJ:q<h.n)(al:h.get q=some (.cells [e d] tc .own 0 0))(hs:fg h 1 src=some (es.length,cV (λd=>[e d]) es))(aw:es.length<=100000):
  ∃b cp g,db P h sT (some sT) (.slice q 0 1 (.exact 1)) src=some (.slice b 0 (d::es).length cp,g)/\Ext h.n h g/\(∀i (af:i<(d::es).length),ar g b (0+i*1)=some (e (d::es)[i]))/\(b=q\/h.n<=b)/\b<g.n:=by
 obtain⟨i,af,bA,mI⟩:=T.info
 obtain⟨z,aW,hS⟩:=T.zero
 by_cases h0:es.length=0
 · have dc:es=[]:=List.eq_nil_of_length_eq_zero h0
   subst dc
   refine⟨q,.exact 1,h,?_,Ext.refl _ _,λi af=>?_,.inl rfl,aJ⟩
   · have ae:Nat.ble (1+0) 1=true:=rfl
     have dw:fg h 1 src=some (0,[]):=hs
     simp only[db,T.hu,T.fj,af,aW,bA,dw,ae];rfl
   · have:i=0:=by simp at af;omega
     subst this
     exact aT al rfl
 · obtain⟨k,aq⟩:∃k,es.length=k+1:=⟨es.length-1,by omega⟩
   have gi:kA (1+(k+1)) i.bytes=true:=by
    unfold kA
    have aa:(4*(1+(k+1))+2048)*(i.bytes+1)<=5000000*1001:=Nat.mul_le_mul (by omega) (by omega)
    simp;omega
   have ag:(e d).cO=true:=by have:=T.cell d;simpa using this
   have iL:kB h el i.bytes 1 (1+(k+1)) z ([e d]++cV (λd=>[e d]) es) 0=some (.slice h.n 0 (1+(k+1)) (.aR 1),h.push (.cells ([e d]++cV (λd=>[e d]) es) el .aR 0 0)):=
    uz gi (by rw[hS];simp) (by rw[List.all_append,uB T.cell];simp[ag])
   have l6:Nat.ble (1+(k+1)) 1=false:=by
    cases ab:Nat.ble (1+(k+1)) 1 with
    |false=>rfl
    |true=>have:=Nat.le_of_ble_eq_true ab;omega
   have fB:bt.loadCells h q 0 (1*1)=some [e d]:=pa al rfl
   refine⟨h.n,.aR 1,h.push (.cells ([e d]++cV (λd=>[e d]) es) el .aR 0 0),?_,Ext.push (Nat.le_refl _) _,λi af=>?_,.inr (Nat.le_refl _),by simp⟩
   · rw[aq] at hs
     have el:(d::es).length=1+(k+1):=by rw[List.length_cons,aq];omega
     rw[el]
     simp only[db,T.hu,T.fj,af,aW,bA,hs,l6,fB,iL]
   · refine lB (fl rfl) ?_
     rw[jm,Nat.zero_add,Nat.mul_one]
     have:[e d]++es.map e=(d::es).map e:=rfl
     rw[this,List.getElem?_map,List.getElem?_eq_getElem af];rfl
def bump(z:Int)(l:List Nat)(y:Mem):Mem:={y with ao:=y.ao+z*(l.count y.e.id:Nat)}
theorem acD(z:Int)(aa:-1000000000<=z)(ad:z<=1000000000):IntKind.wrap .i64 z=z:=by
 have ax:(2:Int)^64=18446744073709551616:=by rfl
 have bD:(2:Int)^63=9223372036854775808:=by rfl
 by_cases h0:0<=z
 · have e:z %18446744073709551616=z:=by omega
   simp only[IntKind.wrap,IntKind.bits,IntKind.signed,ax,bD,e,Bool.true_and,decide_eq_true_eq,Nat.add_one_sub_one]
   rw[if_neg (by show¬((2:Int)^63<=z);rw[bD];omega)]
 · have e:z %18446744073709551616=z+18446744073709551616:=by omega
   simp only[IntKind.wrap,IntKind.bits,IntKind.signed,ax,bD,e,Bool.true_and,decide_eq_true_eq,Nat.add_one_sub_one]
   rw[if_pos (by show(2:Int)^63<=z+18446744073709551616;rw[bD];omega)]
   omega
theorem acE{a b:Int}(aa:-1000000000<=a+b)(ad:a+b<=1000000000):arith .add .i64 a b=some (.int .i64 (a+b)):=by
 simp only[arith,acD _ aa ad]
theorem Ph(m:Nat){F:Nat->Prop}{h:J}{p a5 bX aF a6 cap given clock:Nat}{M:List Mem}{e:cc}{oD:Nat}{ao z:Int}{bK a_:I}(aW:z=1\/z=-1)(w:gr F h p a5 bX aF a6 cap given clock M)(he:h.get oD=some (xF e ao bK a_))(q9:vl 0 h a_ e.args)(fu:∀x∈M,-1000000<=x.ao/\x.ao<=1000000)(hlen:e.args.length<=1000)(acF:oD<h.n):∃g,Y (m+1) (.fn 41) [.ptr p 0,.ptr oD 0,.int .i64 z] h=.ret (.aO []) g/\gr F g p a5 bX aF a6 cap given clock (M.map (bump z e.parts))/\b2 F h g:=by
 obtain⟨H,cw⟩:∃H,H=(h.room 13).set (h.n+5) (some (.cells [rS e.ret] 32 .own 0 0)):=⟨_,rfl⟩
 have lK:H.n=h.n+13:=by rw[cw];simp
 have dz:Ext h.n h H:=by rw[cw];exact Ext.iB (by omega) (Ext.room _ _ _)
 have rL:vl 0 H a_ e.args:=q9.mono dz (Nat.le_refl _)
 have Pj:=(dz.get _ acF).trans he
 obtain⟨b,cp,ai,b6,bC,bw,br,a3⟩:=acC qI (h:=H) (src:=a_) (q:=h.n+5) (tc:=32) (d:=e.ret) (es:=e.args) (by omega) (by rw[cw];exact gk rfl) (cu.src qI rL) (by omega)
 have vh:Ext h.n h ai:=dz.trans dz.n bC
 have tK:h.n<=b:=by omega
 have hj:(e.ret::e.args).length=e.args.length+1:=rfl
 refine acg m p oD z h (R:=λx=>∃g,x=.ret (.aO []) g/\gr F g p a5 bX aF a6 cap given clock (M.map (bump z e.parts))/\b2 F h g) ⟨e.ret,aT (h:=h.room 13) he rfl,a_,?_,b,0,(e.ret::e.args).length,cp,ai,?_,?_,cu.sound q9,?_⟩
 · rw[<-cw];exact aT Pj rfl
 · rw[<-cw];exact b6
 · rw[<-cw];exact aT Pj rfl
 refine a4.loop (by kernel_rfl) (λk st=>∃i y Γ,st=⟨Γ,[],.none,y⟩/\cd [(0,.ptr p 0),(2,.int .i64 z),(19,.slice b 0 (e.ret::e.args).length cp),(20,.int .i64 (Int.ofNat (e.ret::e.args).length)),(21,.int .i64 (Int.ofNat i))] Γ/\(e.ret::e.args).length-i=k/\i<=(e.ret::e.args).length/\gr F y p a5 bX aF a6 cap given clock (M.map (bump z ((e.ret::e.args).take i)))/\b2 F h y/\y.get b=ai.get b/\ai.n<=y.n) ?_ (e.ret::e.args).length _ (by omega) ⟨0,ai,_,rfl,⟨rfl,rfl,rfl,rfl,rfl,trivial⟩,by omega,by omega,?_,b2.ext vh,rfl,Nat.le_refl _⟩
 rotate_left
 · have dc:M.map (bump z ((e.ret::e.args).take 0))=M:=by
     have:∀y∈M,bump z ((e.ret::e.args).take 0) y=y:=λy _=>by
      unfold bump
      simp
     rw[List.map_congr_left this,List.map_id']
   rw[dc];exact w.ext vh
 rintro k st ⟨i,y,Γ,rfl,cL,aq,af,hw,Ib,yB,lO⟩
 have fin:¬i<(e.ret::e.args).length->d_ (λs=>∃j,j<k/\∃i y Γ,s=⟨Γ,[],.none,y⟩/\cd [(0,.ptr p 0),(2,.int .i64 z),(19,.slice b 0 (e.ret::e.args).length cp),(20,.int .i64 (Int.ofNat (e.ret::e.args).length)),(21,.int .i64 (Int.ofNat i))] Γ/\(e.ret::e.args).length-i=j/\i<=(e.ret::e.args).length/\gr F y p a5 bX aF a6 cap given clock (M.map (bump z ((e.ret::e.args).take i)))/\b2 F h y/\y.get b=ai.get b/\ai.n<=y.n) (λb9 cf=>∃au bw,b9=.exit 0/\cf=⟨bw,[],.none,au⟩/\cd [] bw/\∃g,a9.ret (.aO []) au=.ret (.aO []) g/\gr F g p a5 bX aF a6 cap given clock (M.map (bump z e.parts))/\b2 F h g) (.exit 0) ⟨[(0,.ptr p 0),(2,.int .i64 z),(19,.slice b 0 (e.ret::e.args).length cp),(20,.int .i64 (Int.ofNat (e.ret::e.args).length)),(21,.int .i64 (Int.ofNat i))],[],.none,y⟩:=λi1=>by
  obtain rfl:i=(e.ret::e.args).length:=by omega
  rw[List.take_length] at hw
  exact⟨y,_,rfl,rfl,trivial,y,rfl,hw,Ib⟩
 by_cases i1:i<(e.ret::e.args).length
 rotate_left
 · exact a4.pre (O_ (Y m) p b _ i a5 cp z y ⟨λh=>absurd h i1,fin⟩) cL rfl rfl rfl
 have Pk:ar y b (0+i*1)=some (rS (e.ret::e.args)[i]):=by
  rw[<-bw i i1]
  unfold ar;rw[yB]
 have snoc:∀q:Nat,((e.ret::e.args).take (i+1)).count q=((e.ret::e.args).take i).count q+(if(e.ret::e.args)[i]=q then 1 else 0):=λq=>by
  rw[List.take_succ_eq_append_getElem i1,List.count_append,List.count_singleton]
  congr 1
  simp[beq_iff_eq]
 by_cases hex:∃x∈M,x.e.id=(e.ret::e.args)[i]
 · obtain⟨x,ab,rT⟩:=hex
   have kr:bump z ((e.ret::e.args).take i) x∈M.map (bump z ((e.ret::e.args).take i)):=List.mem_map.2 ⟨x,ab,rfl⟩
   have ej:=vj hw.aA hw.up kr false
   have p7:=hw.eF _ kr
   obtain⟨hb,ec⟩:=fu x ab
   have ag:((e.ret::e.args).take i).count x.e.id<=1001:=by
    have aa:=List.count_le_length (a:=x.e.id) (l:=(e.ret::e.args).take i)
    rw[List.length_take] at aa
    omega
   obtain⟨c,yE⟩:∃c,c=((e.ret::e.args).take i).count x.e.id:=⟨_,rfl⟩
   rw[<-yE] at ag
   have aD:(bump z ((e.ret::e.args).take i) x).ao=x.ao+z*(c:Nat):=by rw[yE];rfl
   have hs:=hw.fE kr (f:=λy=>{y with ao:=y.ao+z}) ⟨λ_=>rfl,λ_=>rfl,λ_=>rfl,λ_=>rfl,λ_=>rfl,λ_=>rfl,λ_=>rfl,λ_=>rfl,λ_=>rfl⟩
   have g0:m6 (bump z ((e.ret::e.args).take i) x).e.id (λy=>{y with ao:=y.ao+z}) (M.map (bump z ((e.ret::e.args).take i)))=M.map (bump z ((e.ret::e.args).take (i+1))):=by
    unfold m6
    rw[List.map_map]
    refine List.map_congr_left λy _=>?_
    show(if y.e.id=x.e.id then{bump z ((e.ret::e.args).take i) y with ao:=(bump z ((e.ret::e.args).take i) y).ao+z} else bump z ((e.ret::e.args).take i) y)=bump z ((e.ret::e.args).take (i+1)) y
    unfold bump
    rw[snoc y.e.id]
    by_cases aU:y.e.id=x.e.id
    · rw[if_pos aU,if_pos (by rw[aU,rT])]
      simp only[Mem.mk.injEq,true_and,and_true]
      rw[Int.natCast_add,Int.mul_add]
      simp;omega
    · rw[if_neg aU,if_neg (by rw[<-rT];exactλe=>aU e.symm)]
      simp
   rw[g0] at hs
   have vU:(bump z ((e.ret::e.args).take i) x).b=x.b:=rfl
   have agf:x.b<h.n:=w.aI.2.2.2 x ab
   have l2:-1000000000<=(bump z ((e.ret::e.args).take i) x).ao+z/\(bump z ((e.ret::e.args).take i) x).ao+z<=1000000000:=by
    rw[aD]
    rcases aW with rfl|rfl<;>omega
   refine a4.pre (O_ (Y m) p b _ i a5 cp z y ⟨λ_=>⟨i1,_,Pk,aT hw.st rfl,x.b,?_,_,aT p7 rfl,_,acE l2.1 l2.2,rfl,_,gN p7 rfl rfl,by omega,_,(by show _<k;omega),i+1,_,_,rfl,⟨rfl,rfl,rfl,rfl,rfl,trivial⟩,rfl,by omega,hs,Ib.trans (b2.set (b:=x.b) (w.ne x ab)),?_,by simpa using lO⟩,λh=>absurd i1 h⟩) cL rfl rfl rfl
   · rw[<-rT];exact ej
   · exact(dB (by omega) rfl).trans yB
 · have o6:∀x∈M.map (bump z ((e.ret::e.args).take i)),x.e.id≠(e.ret::e.args)[i]:=λx ab e=>by
     obtain⟨y,aU,rfl⟩:=List.mem_map.1 ab
     exact hex ⟨y,aU,e⟩
   have g0:M.map (bump z ((e.ret::e.args).take (i+1)))=M.map (bump z ((e.ret::e.args).take i)):=by
    refine List.map_congr_left λy aU=>?_
    unfold bump
    rw[snoc y.e.id,if_neg λe=>hex ⟨y,aU,e.symm⟩]
    simp
   refine a4.pre (ach (Y m) p b _ i a5 cp z y ⟨λ_=>⟨i1,_,Pk,aT hw.st rfl,H6 hw.aA o6 false,by omega,_,(by show _<k;omega),i+1,_,_,rfl,⟨rfl,rfl,rfl,rfl,rfl,trivial⟩,rfl,by omega,by rw[g0];exact hw,Ib,yB,lO⟩,λh=>absurd i1 h⟩) cL rfl rfl rfl
end Go.Proofs.jj
