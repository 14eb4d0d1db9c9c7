/-
  PROVED HERE: contracts of functions (Dj). No condition beside each statement's own.
-/
import Derived.Test.YtjkomfonmcmgdaaGreatDoorDh
import Derived.Test.YtjkomfonmcmgdaaGreatDoorSxa
import Derived.Test.YtjkomfonmcmgdaaGreatDoorProg
import Derived.Test.YtjkomfonmcmgdaaGreatDoorDi
set_option linter.unusedVariables false
set_option linter.unusedSimpArgs false
namespace Go.Proofs.dj
open Go aM Go.Proofs c_ Go.Proofs.cF
set_option maxRecDepth 100000
set_option maxHeartbeats 1000000
def sk{α:Type}(q:α->Bool):List α->Nat->Option (Nat×α)
 |[],_=>none
 |x::l,j=>if q x=true then some (j,x) else sk q l (j+1)
theorem y8{α:Type}{q:α->Bool}:∀{l:List α} {j:Nat},(∀x∈l,q x=false)->sk q l j=none
 |[],_,_=>rfl
 |x::l,j,h=>by
  rw[sk,if_neg (by rw[h x (List.mem_cons_self ..)];simp)]
  exact y8 λy aW=>h y (List.mem_cons_of_mem _ aW)
theorem y9{α:Type}{q:α->Bool}{x:α}:∀{l:List α} {j:Nat},x∈l->q x=true->l.Pairwise (λa b=>¬(q a=true/\q b=true))->∃i,sk q l j=some (j+i,x)/\∀(f:α->dK),wK i (l.map f)=(l.filter λy=>!q y).map f
 |[],_,h,_,_=>by cases h
 |y::l,j,h,aT,aO=>by
  rw[List.pairwise_cons] at aO
  by_cases aW:q y=true
  · have aa:x=y:=by
      rcases List.mem_cons.1 h with h|h
      · exact h
      · exact absurd ⟨aW,aT⟩ (aO.1 x h)
    subst aa
    refine⟨0,by rw[sk,if_pos aW];rfl,λf=>?_⟩
    have e:(x::l).filter (λy=>!q y)=l:=by
     rw[List.filter_cons,aW]
     have:l.filter (λy=>!q y)=l:=List.filter_eq_self.2 λz aZ=>by
      cases we:q z with
      |true=>exact absurd ⟨aW,we⟩ (aO.1 z aZ)
      |false=>rfl
     simpa using this
    rw[e];rfl
  · have aa:x∈l:=by
      rcases List.mem_cons.1 h with h|h
      · rw[h] at aT;exact absurd aT aW
      · exact h
    obtain⟨i,ab,ad⟩:=y9 (j:=j+1) aa aT aO.2
    refine⟨i+1,by rw[sk,if_neg aW,ab];congr 2;omega,λf=>?_⟩
    have y_:q y=false:=by simpa using aW
    rw[List.map_cons,wK,ad f,List.filter_cons,y_];rfl
theorem qH{α:Type}{P:Program}{h:J}{kt:TypeId}{k:I}{q:α->Bool}{f:α->dK}:∀(l:List α) (j:Nat),(∀x∈l,oK P h kt k (f x).key=some (q x))->jo P h kt k (l.map f) j=some ((sk q l j).map λr=>(r.1,(f r.2).val))
 |[],_,_=>rfl
 |x::l,j,hs=>by
  rw[List.map_cons,jo,hs x (List.mem_cons_self ..),sk]
  cases aT:q x with
  |true=>simp
  |false=>
   simp only[Bool.false_eq_true,if_false]
   exact qH l (j+1) λy aW=>hs y (List.mem_cons_of_mem _ aW)
theorem M8(a b:Nat):a8 (Int.ofNat a) (Int.ofNat b)=decide (a=b):=by
 by_cases h:a=b
 · rw[mB h,decide_eq_true h]
 · rw[ji h,decide_eq_false h]
def iw(id:Nat):a5:=(List.range 8).map λi=>UInt8.ofNat (id/2^(8*i))
def ez(l:List Nat):a5:=l.flatMap iw
def gi(ns:List a5):a5:=dW [32] ns
structure Mem where
 e:cu
 b:Nat
 dv:Nat
 dC:Nat
 ao:Int
 bJ:I
 bd:I
abbrev BR(e:cu):List I:=[.int .i64 (Int.ofNat e.k),.str e.nm,.str (gi e.ns),.str (ez e.args),.int .u64 (Int.ofNat e.ret)]
abbrev Za(e:cu)(ao:Int)(bJ bd:I):List I:=[.int .i64 (Int.ofNat e.k),.str e.nm,.str (gi e.ns),.str (ez e.args),.int .u64 (Int.ofNat e.ret),bJ,bd,.int .i64 (Int.ofNat e.pins),.int .i64 ao,.int .u64 (Int.ofNat e.used)]
def hD(x:Mem):dK:=⟨.int .u64 (Int.ofNat x.e.id),.ptr x.b 0,x.dv⟩
def iW(x:Mem):dK:=⟨.agg (BR x.e),.int .u64 (Int.ofNat x.e.id),x.dC⟩
def ke(id:Nat)(x:Mem):Bool:=decide (x.e.id=id)
def hn(k:Nat)(nm f p:a5)(r:Nat)(x:Mem):Bool:=decide (k=x.e.k)&&(decide (nm=x.e.nm)&&(decide (f=gi x.e.ns)&&(decide (p=ez x.e.args)&&decide (r=x.e.ret))))
theorem M9(a b c d e:I):iI Tryz.prog 3 [a,b,c,d,e] 0=some a/\iI Tryz.prog 9 [a,b,c,d,e] 1=some b/\iI Tryz.prog 9 [a,b,c,d,e] 2=some c/\iI Tryz.prog 9 [a,b,c,d,e] 3=some d/\iI Tryz.prog 32 [a,b,c,d,e] 4=some e:=⟨by kernel_rfl,by kernel_rfl,by kernel_rfl,by kernel_rfl,by kernel_rfl⟩
def za:List Field->List (TypeId×Nat)
 |[]=>[]
 |f::l=>(f.type,f.offset)::za l
theorem M_{P:Program}{E:TypeId->I->I->Option Bool}{xs ys:List I}:∀(bR:List Field) (l:List (TypeId×Nat×I×I×Bool)),(bR.all λf=>!decide (f.name= "_"))=true->za bR=l.map (λx=>(x.1,x.2.1))->(∀x∈l,iI P x.1 xs x.2.1=some x.2.2.1/\iI P x.1 ys x.2.1=some x.2.2.2.1/\E x.1 x.2.2.1 x.2.2.2.1=some x.2.2.2.2)->eqFields P E xs ys bR=some (l.all λx=>x.2.2.2.2)
 |[],l,_,h,_=>by
  have:l=[]:=by simpa[za] using h.symm
  subst this;rfl
 |f::bR,[],_,h,_=>by cases h
 |f::bR,⟨bA,cX,dP,iE,pk⟩::l,aK,h,aa=>by
  rw[List.all_cons,Bool.and_eq_true] at aK
  obtain⟨ab,ad,ar⟩:=aa _ (List.mem_cons_self ..)
  simp only[za,List.map_cons,List.cons.injEq,Prod.mk.injEq] at h
  have a6:=M_ bR l aK.2 h.2 λy aW=>aa y (List.mem_cons_of_mem _ aW)
  have ao:decide (f.name= "_")=false:=by simpa using aK.1
  rw[eqFields,ao,h.1.1,h.1.2]
  simp only at ab ad ar
  simp only[ab,ad,ar]
  cases pk with
  |true=>simp only[a6,List.all_cons,Bool.true_and]
  |false=>rfl
theorem Zb(h:J)(d a b:Nat):fO Tryz.prog h (d+1) 3 (.int .i64 (Int.ofNat a)) (.int .i64 (Int.ofNat b))=some (a8 (Int.ofNat a) (Int.ofNat b)):=by
 have hu:Tryz.prog.underlying 3=some (.int .i64):=by kernel_rfl
 simp only[fO,hu,if_true]
theorem Zc(h:J)(d a b:Nat):fO Tryz.prog h (d+1) 32 (.int .u64 (Int.ofNat a)) (.int .u64 (Int.ofNat b))=some (a8 (Int.ofNat a) (Int.ofNat b)):=by
 have hu:Tryz.prog.underlying 32=some (.int .u64):=by kernel_rfl
 simp only[fO,hu,if_true]
theorem Gr(h:J)(d:Nat)(a b:a5):fO Tryz.prog h (d+1) 9 (.str a) (.str b)=some (dF a b):=by
 have hu:Tryz.prog.underlying 9=some .string:=by kernel_rfl
 simp only[fO,hu]
theorem Zd(h:J)(k ea r r':Nat)(a b c cy hK c':a5):fO Tryz.prog h 8 62 (.agg [.int .i64 (Int.ofNat k),.str a,.str b,.str c,.int .u64 (Int.ofNat r)]) (.agg [.int .i64 (Int.ofNat ea),.str cy,.str hK,.str c',.int .u64 (Int.ofNat r')])=some (decide (k=ea)&&(decide (a=cy)&&(decide (b=hK)&&(decide (c=c')&&decide (r=r'))))):=by
 have Ag:(match Tryz.prog.underlying 62 with|some (.struct _)=>true|_=>false)=true:=by kernel_rfl
 obtain⟨bR,nY⟩:∃bR,Tryz.prog.underlying 62=some (.struct bR):=by
  split at Ag
  · rename_i bR nY;exact⟨bR,nY⟩
  · cases Ag
 have ch:Tryz.prog.stoodInHeld 62=false:=by kernel_rfl
 have jt:(match Tryz.prog.underlying 62 with|some (.struct bR)=>bR.toList.all λf=>!decide (f.name= "_")|_=>false)=true:=by kernel_rfl
 have Na:(match Tryz.prog.underlying 62 with|some (.struct bR)=>za bR.toList|_=>[])=[(3,0),(9,1),(9,2),(9,3),(32,4)]:=by kernel_rfl
 rw[nY] at jt Na
 obtain⟨EU,eN,fR,js,k_⟩:=M9 (.int .i64 (Int.ofNat k)) (.str a) (.str b) (.str c) (.int .u64 (Int.ofNat r))
 obtain⟨EV,ba,a7,b5,gr⟩:=M9 (.int .i64 (Int.ofNat ea)) (.str cy) (.str hK) (.str c') (.int .u64 (Int.ofNat r'))
 have e:=M_ (P:=Tryz.prog) (E:=fO Tryz.prog h 7) (xs:=[.int .i64 (Int.ofNat k),.str a,.str b,.str c,.int .u64 (Int.ofNat r)]) (ys:=[.int .i64 (Int.ofNat ea),.str cy,.str hK,.str c',.int .u64 (Int.ofNat r')]) bR.toList
  [(3,0,.int .i64 (Int.ofNat k),.int .i64 (Int.ofNat ea),a8 (Int.ofNat k) (Int.ofNat ea)),(9,1,.str a,.str cy,dF a cy),(9,2,.str b,.str hK,dF b hK),(9,3,.str c,.str c',dF c c'),(32,4,.int .u64 (Int.ofNat r),.int .u64 (Int.ofNat r'),a8 (Int.ofNat r) (Int.ofNat r'))] jt Na (by
    simp only[List.mem_cons,List.not_mem_nil,or_false]
    rintro x (rfl|rfl|rfl|rfl|rfl)
    · exact⟨EU,EV,Zb _ _ _ _⟩
    · exact⟨eN,ba,Gr _ _ _ _⟩
    · exact⟨fR,a7,Gr _ _ _ _⟩
    · exact⟨js,b5,Gr _ _ _ _⟩
    · exact⟨k_,gr,Zc _ _ _ _⟩)
 have ae:∀x y:a5,dF x y=decide (x=y):=λx y=>by
  apply Bool.eq_iff_iff.2
  rw[nW];simp
 simp only[List.all_cons,List.all_nil,M8,ae,Bool.and_true] at e
 rw[<-e]
 have key:∀xs ys:List I,fO Tryz.prog h (7+1) 62 (.agg xs) (.agg ys)=eqFields Tryz.prog (fO Tryz.prog h 7) xs ys bR.toList:=λxs ys=>by
  simp only[fO,nY,ch]
 exact key _ _
theorem wi:Tryz.prog.underlying 55=some (.map 32 59):=by kernel_rfl
theorem BS:Tryz.prog.underlying 56=some (.map 62 32):=by kernel_rfl
theorem BT(id:Nat):lB Tryz.prog 32 (.int .u64 (Int.ofNat id))=true:=by kernel_rfl
theorem BU(k r:Nat)(a b c:a5):lB Tryz.prog 62 (.agg [.int .i64 (Int.ofNat k),.str a,.str b,.str c,.int .u64 (Int.ofNat r)])=true:=by kernel_rfl
theorem BV(h:J)(id:Nat)(x:Mem):oK Tryz.prog h 32 (.int .u64 (Int.ofNat id)) (hD x).key=some (ke id x):=by
 show some (a8 (Int.ofNat id) (Int.ofNat x.e.id))=some (decide (x.e.id=id))
 rw[M8];congr 1;exact decide_eq_decide.2 eq_comm
theorem BW(h:J)(k r:Nat)(a b c:a5)(x:Mem):oK Tryz.prog h 62 (.agg [.int .i64 (Int.ofNat k),.str a,.str b,.str c,.int .u64 (Int.ofNat r)]) (iW x).key=some (hn k a b c r x):=by
 unfold oK iW BR
 simp only
 rw[Zd];rfl
abbrev wj(M:List Mem):Prop:=M.Pairwise λa b=>a.e.id<b.e.id
theorem Nb{M:List Mem}(aO:wj M)(id:Nat):M.Pairwise (λa b=>¬(ke id a=true/\ke id b=true)):=aO.imp λ{a b} fg ⟨ab,ad⟩=>by
 have ab:=of_decide_eq_true ab
 have ad:=of_decide_eq_true ad
 omega
theorem wk{h:J}{m c:Nat}{M:List Mem}(hm:h.get m=some (.map (M.map hD) c))(aO:wj M){x:Mem}(aa:x∈M)(ok:Bool):h9 Tryz.prog h 55 (.map m) (.int .u64 (Int.ofNat x.e.id)) ok=some (if ok=true then .aP [.ptr x.b 0,.bool true] else .ptr x.b 0):=by
 obtain⟨i,ab,_⟩:=y9 (j:=0) (q:=ke x.e.id) aa (decide_eq_true rfl) (Nb aO _)
 simp only[h9,wi,BT,hm,qH M 0 λy _=>BV h x.e.id y,ab,Option.map,oL]
 rfl
theorem Nc{h:J}{m c:Nat}{M:List Mem}(hm:h.get m=some (.map (M.map hD) c)){id:Nat}(aK:∀x∈M,x.e.id≠id)(ok:Bool):h9 Tryz.prog h 55 (.map m) (.int .u64 (Int.ofNat id)) ok=some (if ok=true then .aP [.bb,.bool false] else .bb):=by
 have ab:=y8 (q:=ke id) (l:=M) (j:=0) λx aa=>decide_eq_false (aK x aa)
 have aZ:d_ Tryz.prog 59=some .bb:=by kernel_rfl
 simp only[h9,wi,BT,hm,qH M 0 λy _=>BV h id y,ab,Option.map,oL,aZ]
theorem Ze{h:J}{m c:Nat}{M:List Mem}(hm:h.get m=some (.map (M.map hD) c))(aO:wj M){x:Mem}(aa:x∈M):oO Tryz.prog h 55 (.map m) (.int .u64 (Int.ofNat x.e.id))=some (.aP [],h.set m (some (.map ((M.filter λy=>!ke x.e.id y).map hD) c))):=by
 obtain⟨i,ab,ad⟩:=y9 (j:=0) (q:=ke x.e.id) aa (decide_eq_true rfl) (Nb aO _)
 simp only[oO,wi,BT,hm,qH M 0 λy _=>BV h x.e.id y,ab,Option.map,Nat.zero_add,ad]
def jm(ns:List a5):Prop:=∀s∈ns,s≠[]/\∀c∈s,c≠32
theorem Nd:∀{a b x y:a5},(∀c∈a,c≠32)->(∀c∈b,c≠32)->a++32::x=b++32::y->a=b/\x=y
 |[],[],x,y,_,_,h=>⟨rfl,by simpa using h⟩
 |[],c::b,x,y,_,ae,h=>by
  have:c=32:=by simp at h;exact h.1.symm
  exact absurd this (ae c (by simp))
 |c::a,[],x,y,aS,_,h=>by
  have:c=32:=by simp at h;exact h.1
  exact absurd this (aS c (by simp))
 |c::a,d::b,x,y,aS,ae,h=>by
  have ab:c=d/\a++32::x=b++32::y:=by simpa using h
  obtain⟨ad,ar⟩:=Nd (λz aZ=>aS z (by simp[aZ])) (λz aZ=>ae z (by simp[aZ])) ab.2
  exact⟨by rw[ab.1,ad],ar⟩
theorem Nf{a y:a5}(aS:∀c∈a,c≠32){b:a5}:a=b++32::y->False:=λh=>aS 32 (by rw[h];simp) rfl
theorem BX(l:List a5)(x:a5):(x::l).flatMap (λy=>[32]++y)=32::(x++l.flatMap λy=>[32]++y):=by simp
theorem Ng:∀{a b:List a5},jm a->jm b->gi a=gi b->a=b
 |[],[],_,_,_=>rfl
 |[],y::b,_,ae,h=>by
  have ab:[]=y++b.flatMap (λy=>[32]++y):=h
  have:=(ae y (by simp)).1
  cases y with
  |nil=>exact absurd rfl this
  |cons c y=>cases ab
 |x::a,[],aS,_,h=>by
  have ab:x++a.flatMap (λy=>[32]++y)=[]:=h
  have:=(aS x (by simp)).1
  cases x with
  |nil=>exact absurd rfl this
  |cons c y=>cases ab
 |[x],[y],_,_,h=>by
  have ab:x++[]=y++[]:=h
  rw[List.append_nil,List.append_nil] at ab
  rw[ab]
 |[x],y::z::b,aS,ae,h=>by
  have ab:x++[]=y++(z::b).flatMap (λy=>[32]++y):=h
  rw[BX,List.append_nil] at ab
  exact(Nf (aS x (by simp)).2 ab).elim
 |x::z::a,[y],aS,ae,h=>by
  have ab:x++(z::a).flatMap (λy=>[32]++y)=y++[]:=h
  rw[BX,List.append_nil] at ab
  exact(Nf (ae y (by simp)).2 ab.symm).elim
 |x::z::a,y::w::b,aS,ae,h=>by
  have ab:x++(z::a).flatMap (λy=>[32]++y)=y++(w::b).flatMap (λy=>[32]++y):=h
  rw[BX,BX] at ab
  obtain⟨ad,ar⟩:=Nd (aS x (by simp)).2 (ae y (by simp)).2 ab
  have aJ:=Ng (a:=z::a) (b:=w::b) (λs hs=>aS s (List.mem_cons_of_mem _ hs)) (λs hs=>ae s (List.mem_cons_of_mem _ hs)) ar
  rw[ad,aJ]
theorem tY(i:Nat):(iw i).length=8:=by simp[iw]
theorem Zf{i j:Nat}(af:i<18446744073709551616)(aL:j<18446744073709551616)(h:iw i=iw j):i=j:=by
 have key:∀k,k<8->i/2^(8*k) %256=j/2^(8*k) %256:=λk aq=>by
  have ab:(iw i)[k]? =(iw j)[k]? :=by rw[h]
  unfold iw at ab
  rw[List.getElem?_map,List.getElem?_map,List.getElem?_range aq] at ab
  simp only[Option.map_some,Option.some.injEq] at ab
  have:=congrArg UInt8.toNat ab
  simpa using this
 have j1:=key 0 (by omega)
 have bE:=key 1 (by omega)
 have b0:=key 2 (by omega)
 have ec:=key 3 (by omega)
 have gP:=key 4 (by omega)
 have hg:=key 5 (by omega)
 have ic:=key 6 (by omega)
 have xA:=key 7 (by omega)
 simp only[Nat.reduceMul,Nat.reducePow] at j1 bE b0 ec gP hg ic xA
 omega
theorem Nh:∀{a b:List Nat},(∀i∈a,i<18446744073709551616)->(∀i∈b,i<18446744073709551616)->ez a=ez b->a=b
 |[],[],_,_,_=>rfl
 |[],j::b,_,_,h=>by
  have:=congrArg List.length h
  simp[ez,tY] at this
  omega
 |i::a,[],_,_,h=>by
  have:=congrArg List.length h
  simp[ez,tY] at this
 |i::a,j::b,aS,ae,h=>by
  have ab:iw i++ez a=iw j++ez b:=h
  obtain⟨ad,ar⟩:=List.append_inj ab (by rw[tY,tY])
  rw[Zf (aS i (by simp)) (ae j (by simp)) ad,Nh (λx aa=>aS x (by simp[aa])) (λx aa=>ae x (by simp[aa])) ar]
theorem Ni{x:Mem}{k:Nat}{nm:a5}{ns:List a5}{az:List Nat}{r:Nat}(aa:jm x.e.ns)(aK:jm ns)(ab:∀i∈x.e.args,i<18446744073709551616)(ad:∀i∈az,i<18446744073709551616):hn k nm (gi ns) (ez az) r x=x.e.is k nm ns az r:=by
 apply Bool.eq_iff_iff.2
 rw[qE]
 unfold hn
 simp only[Bool.and_eq_true,decide_eq_true_eq]
 constructor
 · rintro⟨cw,c2,dm,e4,eX⟩
   exact⟨cw.symm,c2.symm,(Ng aK aa dm).symm,(Nh ad ab e4).symm,eX.symm⟩
 · rintro⟨cw,c2,dm,e4,eX⟩
   exact⟨cw.symm,c2.symm,by rw[dm],by rw[e4],eX.symm⟩
theorem Zg{h:J}{m c:Nat}{M:List Mem}(hm:h.get m=some (.map (M.map iW) c)){k r:Nat}{nm f p:a5}(aO:M.Pairwise λa b=>¬(hn k nm f p r a=true/\hn k nm f p r b=true)){x:Mem}(aa:x∈M)(aT:hn k nm f p r x=true):h9 Tryz.prog h 56 (.map m) (.agg [.int .i64 (Int.ofNat k),.str nm,.str f,.str p,.int .u64 (Int.ofNat r)]) true=some (.aP [.int .u64 (Int.ofNat x.e.id),.bool true]):=by
 obtain⟨i,ab,_⟩:=y9 (j:=0) (q:=hn k nm f p r) aa aT aO
 simp only[h9,BS,BU,hm,qH M 0 λy _=>BW h k r nm f p y,ab,Option.map,oL]
 rfl
theorem Zh{h:J}{m c:Nat}{M:List Mem}(hm:h.get m=some (.map (M.map iW) c)){k r:Nat}{nm f p:a5}(aK:∀x∈M,hn k nm f p r x=false):h9 Tryz.prog h 56 (.map m) (.agg [.int .i64 (Int.ofNat k),.str nm,.str f,.str p,.int .u64 (Int.ofNat r)]) true=some (.aP [.int .u64 (Int.ofNat 0),.bool false]):=by
 have ab:=y8 (q:=hn k nm f p r) (l:=M) (j:=0) aK
 have aZ:d_ Tryz.prog 32=some (.int .u64 (Int.ofNat 0)):=by kernel_rfl
 simp only[h9,BS,BU,hm,qH M 0 λy _=>BW h k r nm f p y,ab,Option.map,oL,aZ]
 rfl
theorem Zi{h:J}{m c:Nat}{M:List Mem}(hm:h.get m=some (.map (M.map iW) c)){k r:Nat}{nm f p:a5}(aO:M.Pairwise λa b=>¬(hn k nm f p r a=true/\hn k nm f p r b=true)){x:Mem}(aa:x∈M)(aT:hn k nm f p r x=true):oO Tryz.prog h 56 (.map m) (.agg [.int .i64 (Int.ofNat k),.str nm,.str f,.str p,.int .u64 (Int.ofNat r)])=some (.aP [],h.set m (some (.map ((M.filter λy=>!hn k nm f p r y).map iW) c))):=by
 obtain⟨i,ab,ad⟩:=y9 (j:=0) (q:=hn k nm f p r) aa aT aO
 simp only[oO,BS,BU,hm,qH M 0 λy _=>BW h k r nm f p y,ab,Option.map,Nat.zero_add,ad]
end Go.Proofs.dj
namespace Go.Proofs.dj
open Go aM Go.Proofs c_ Go.Proofs.cF
set_option maxRecDepth 100000
set_option maxHeartbeats 1000000
theorem Zj(m:Nat)(v:I)(h:J){R:av->Prop}(H:∃aD:Nat,b9 Tryz.prog h 63 v=some (.int .i64 (.ofNat aD))/\aD=0/\R (.ret (.str []) h)):
  R (Y (m+1) (.fn 46) [v,.str [32]] h):=
 dJ (intr:=b1) [(1013,.t)] [(0,.o v),(1,.v (.str [32]))] Tryz.func46 (by kernel_rfl) (by kernel_rfl) (by kernel_rfl) rfl (Eq.mp (by kernel_rfl) H)
theorem Zk(m:Nat)(b:Nat)(off:Nat)(N:Nat)(cp:b3)(h:J){R:av->Prop}(H:¬N=0/\(N=1->0<N/\∃s1:List UInt8,au h b (off+0*1)=some (.str s1)/\R (.ret (.str s1) h))/\(¬N=1->(0<1->(1<=N/\N<9223372036854775808)/\∃aD:Nat,arith .quo .i64 (.ofNat 9223372036854775807) (.ofNat (N-1))=some (.int .i64 (.ofNat aD))/\¬aD<=1/\(1<=N/\N<9223372036854775808)/\1*(N-1)<9223372036854775808/\0+1*(N-1)<9223372036854775808/\a4 Tryz.prog Tryz.f46 (Y m) [1,1,1,1,0,1,0] (ah.mk [(0,.slice b off N cp),(1,.str [32]),(5,.int .i64 (.ofNat (0+1*(N-1)))),(39,.slice b off N cp),(40,.int .i64 (.ofNat N)),(41,.int .i64 (.ofNat 0))] [] .none h) (λcd ct=>∃bm:Nat,∃aj:J,∃bB:Env,cd=.exit 1/\ct=ah.mk bB [] .none aj/\cl [(0,.slice b off N cp),(1,.str [32]),(5,.int .i64 (.ofNat bm))] bB/\∃ax:J,(Y m) (.fn 74) [.ptr aj.n 0,.int .i64 (.ofNat bm)] (J.push aj (.cells [.bb,.a0] 92 .own 0 0))=.ret (.aP []) ax/\0<N/\∃s2:List UInt8,au ax b (off+0*1)=some (.str s2)/\∃bG:Nat,∃v1:I,∃aC:J,(Y m) (.fn 44) [.ptr aj.n 0,.str s2] ax=.ret (.aP [.int .i64 (.ofNat bG),v1]) aC/\∃bV:Nat,∃cc:Nat,∃cI:Nat,∃aG:b3,de Tryz.prog aC 63 (.slice b off N cp) (some (.int .i64 (.ofNat 1))) none none=some (.slice bV cc cI aG)/\a4 Tryz.prog Tryz.f46 (Y m) [1,1,1,1,1,1,1,1,0,1,0] (ah.mk [(1,.str [32]),(8,.ptr aj.n 0),(63,.slice bV cc cI aG),(64,.int .i64 (.ofNat cI)),(65,.int .i64 (.ofNat 0))] [] .none aC) (λcd ct=>∃dr:Nat,∃bK:J,∃b2:Env,cd=.exit 3/\ct=ah.mk b2 [] .none bK/\cl [(8,.ptr dr 0)] b2/\∃bI:List UInt8,∃bW:J,(Y m) (.fn 47) [.ptr dr 0] bK=.ret (.str bI) bW/\R (.ret (.str bI) bW))))/\(¬0<1->a4 Tryz.prog Tryz.f46 (Y m) [1,1,1,1,0,1,0] (ah.mk [(0,.slice b off N cp),(1,.str [32]),(5,.int .i64 (.ofNat 0)),(39,.slice b off N cp),(40,.int .i64 (.ofNat N)),(41,.int .i64 (.ofNat 0))] [] .none h) (λcd ct=>∃en:Nat,∃dZ:J,∃dq:Env,cd=.exit 1/\ct=ah.mk dq [] .none dZ/\cl [(0,.slice b off N cp),(1,.str [32]),(5,.int .i64 (.ofNat en))] dq/\∃eQ:J,(Y m) (.fn 74) [.ptr dZ.n 0,.int .i64 (.ofNat en)] (J.push dZ (.cells [.bb,.a0] 92 .own 0 0))=.ret (.aP []) eQ/\0<N/\∃bL:List UInt8,au eQ b (off+0*1)=some (.str bL)/\∃eH:Nat,∃v2:I,∃fT:J,(Y m) (.fn 44) [.ptr dZ.n 0,.str bL] eQ=.ret (.aP [.int .i64 (.ofNat eH),v2]) fT/\∃fX:Nat,∃iH:Nat,∃jk:Nat,∃a9:b3,de Tryz.prog fT 63 (.slice b off N cp) (some (.int .i64 (.ofNat 1))) none none=some (.slice fX iH jk a9)/\a4 Tryz.prog Tryz.f46 (Y m) [1,1,1,1,1,1,1,1,0,1,0] (ah.mk [(1,.str [32]),(8,.ptr dZ.n 0),(63,.slice fX iH jk a9),(64,.int .i64 (.ofNat jk)),(65,.int .i64 (.ofNat 0))] [] .none fT) (λcd ct=>∃j8:Nat,∃jz:J,∃im:Env,cd=.exit 3/\ct=ah.mk im [] .none jz/\cl [(8,.ptr j8 0)] im/\∃cb:List UInt8,∃l7:J,(Y m) (.fn 47) [.ptr j8 0] jz=.ret (.str cb) l7/\R (.ret (.str cb) l7)))))):
  R (Y (m+1) (.fn 46) [.slice b off N cp,.str [32]] h):=
 dJ (intr:=b1) [(1013,.f),(1029,.f),(63,.bC .fS),(4001,.g2 [0,1,5,39,40,41] [(.exit 1,[(0,.is (.slice b off N cp)),(1,.is (.str [32])),(5,.n .i64)])]),(4003,.g2 [1,8,63,64,65] [(.exit 3,[(8,.p)])])] [(0,.v (.slice b off N cp)),(1,.v (.str [32]))] Tryz.func46 (by kernel_rfl) (by kernel_rfl) (by kernel_rfl) rfl (Eq.mp (by kernel_rfl) H)
theorem Zl(call:aI->List I->J->av)(b:Nat)(off:Nat)(N:Nat)(i:Nat)(n:Nat)(cp:b3)(h:J){Q:bn->ah->Prop}(H:(i<N->i<N/\∃s1:List UInt8,au h b (off+i*1)=some (.str s1)/\(n<=9223372036854775807/\9223372036854775807<9223372036854775808)/\¬9223372036854775807-n<List.length s1/\n+List.length s1<9223372036854775808/\i+1<9223372036854775808/\Q .nrm (ah.mk [(0,.slice b off N cp),(1,.str [32]),(5,.int .i64 (.ofNat (n+List.length s1))),(39,.slice b off N cp),(40,.int .i64 (.ofNat N)),(41,.int .i64 (.ofNat (i+1)))] [] .none h))/\(¬i<N->Q (.exit 1) (ah.mk [(0,.slice b off N cp),(1,.str [32]),(5,.int .i64 (.ofNat n)),(39,.slice b off N cp),(40,.int .i64 (.ofNat N)),(41,.int .i64 (.ofNat i))] [] .none h))):
  a4 Tryz.prog Tryz.f46 call [1,1,1,1,0,1,0,0] ⟨[(0,.slice b off N cp),(1,.str [32]),(5,.int .i64 (.ofNat n)),(39,.slice b off N cp),(40,.int .i64 (.ofNat N)),(41,.int .i64 (.ofNat i))],[],.none,h⟩ Q:=
 dI [(1049,.f)] [0,1,5,39,40,41] [(0,.v (.slice b off N cp)),(1,.v (.str [32])),(5,.v (.int .i64 (.ofNat n))),(39,.v (.slice b off N cp)),(40,.v (.int .i64 (.ofNat N))),(41,.v (.int .i64 (.ofNat i)))] rfl (Eq.mp (by kernel_rfl) H)
theorem Zm(call:aI->List I->J->av)(w:Nat)(b:Nat)(off:Nat)(N:Nat)(i:Nat)(cp:b3)(h:J){Q:bn->ah->Prop}(H:(i<N->i<N/\∃s1:List UInt8,au h b (off+i*1)=some (.str s1)/\∃aD:Nat,∃v1:I,∃aj:J,call (.fn 44) [.ptr w 0,.str [32]] h=.ret (.aP [.int .i64 (.ofNat aD),v1]) aj/\∃bm:Nat,∃v2:I,∃ax:J,call (.fn 44) [.ptr w 0,.str s1] aj=.ret (.aP [.int .i64 (.ofNat bm),v2]) ax/\i+1<9223372036854775808/\Q .nrm (ah.mk [(1,.str [32]),(8,.ptr w 0),(63,.slice b off N cp),(64,.int .i64 (.ofNat N)),(65,.int .i64 (.ofNat (i+1)))] [] .none ax))/\(¬i<N->Q (.exit 3) (ah.mk [(1,.str [32]),(8,.ptr w 0),(63,.slice b off N cp),(64,.int .i64 (.ofNat N)),(65,.int .i64 (.ofNat i))] [] .none h))):
  a4 Tryz.prog Tryz.f46 call [1,1,1,1,1,1,1,1,0,1,0,0] ⟨[(1,.str [32]),(8,.ptr w 0),(63,.slice b off N cp),(64,.int .i64 (.ofNat N)),(65,.int .i64 (.ofNat i))],[],.none,h⟩ Q:=
 dI [] [1,8,63,64,65] [(1,.v (.str [32])),(8,.v (.ptr w 0)),(63,.v (.slice b off N cp)),(64,.v (.int .i64 (.ofNat N))),(65,.v (.int .i64 (.ofNat i)))] rfl (Eq.mp (by kernel_rfl) H)
theorem Zn(m:Nat)(b:Nat)(n:Nat)(h:J){R:av->Prop}(H:∃aj:J,(Y m) (.fn 73) [.ptr b 0] h=.ret (.aP []) aj/\¬n<0/\∃v1:I,au (aj.room 13) b (0+1)=some v1/\∃aD:Nat,uk Tryz.prog 27 v1=some (.int .i64 (.ofNat aD))/\∃v2:I,au (aj.room 13) b (0+1)=some v2/\∃bm:Nat,b9 Tryz.prog (aj.room 13) 27 v2=some (.int .i64 (.ofNat bm))/\(bm<=aD/\aD<9223372036854775808)/\I.sound v1=true/\I.sound v2=true/\aD-bm<n/\∃ax:J,(Y m) (.fn 102) [.ptr b 0,.int .i64 (.ofNat n)] (aj.room 13)=.ret (.aP []) ax/\R (.ret (.aP []) ax)):
  R (Y (m+1) (.fn 74) [.ptr b 0,.int .i64 (.ofNat n)] h):=
 dJ (intr:=b1) [(1007,.f),(1021,.t)] [(0,.v (.ptr b 0)),(1,.v (.int .i64 (.ofNat n)))] Tryz.func74 (by kernel_rfl) (by kernel_rfl) (by kernel_rfl) rfl (Eq.mp (by kernel_rfl) H)
theorem Zo(m:Nat)(b:Nat)(n:Nat)(h:J){R:av->Prop}(H:∃v1:I,au (h.room 16) b (0+1)=some v1/\∃aD:Nat,uk Tryz.prog 27 v1=some (.int .i64 (.ofNat aD))/\2*aD<9223372036854775808/\2*aD+n<9223372036854775808/\∃bm:Nat,∃bG:Nat,∃bV:Nat,∃aG:b3,∃aj:J,(Y m) (.fn 112) [.int .i64 (.ofNat (2*aD+n))] (h.room 16)=.ret (.slice bm bG bV aG) aj/\∃v2:I,au aj b (0+1)=some v2/\∃cc:Nat,b9 Tryz.prog aj 27 v2=some (.int .i64 (.ofNat cc))/\∃c4:I,de Tryz.prog aj 27 (.slice bm bG bV aG) none (some (.int .i64 (.ofNat cc))) none=some c4/\I.sound v1=true/\I.sound v2=true/\au (h.room 16) b (0+1)=some v2/\I.sound c4=true/\I.sound c4=true/\∃v4:I,au aj b (0+1)=some v4/\∃cI:Nat,∃ax:J,um Tryz.prog aj 27 c4 v4=some (.int .i64 (.ofNat cI),ax)/\I.cQ c4=true/\∃aC:J,aM.storeCells ax b (0+1) [c4]=some aC/\R (.ret (.aP []) aC)):
  R (Y (m+1) (.fn 102) [.ptr b 0,.int .i64 (.ofNat n)] h):=
 dJ (intr:=b1) [(13,.bC .fS)] [(0,.v (.ptr b 0)),(1,.v (.int .i64 (.ofNat n)))] Tryz.func102 (by kernel_rfl) (by kernel_rfl) (by kernel_rfl) rfl (Eq.mp (by kernel_rfl) H)
theorem Zp(m:Nat)(id:Nat)(h:J){R:av->Prop}(H:∃v1:I,∃aj:J,Ax Tryz.prog h 27 (.int .i64 (.ofNat 8)) (.int .i64 (.ofNat 8))=some (v1,aj)/\∃aD:Nat,b9 Tryz.prog aj 27 v1=some (.int .i64 (.ofNat aD))/\a4 Tryz.prog Tryz.f45 (Y m) [1,1,0,1,0] (ah.mk [(0,.int .u64 (.ofNat id)),(3,v1),(7,.int .i64 (.ofNat aD)),(8,.int .i64 (.ofNat 0))] [] .none aj) (λcd ct=>∃bm:Nat,∃bG:Nat,∃bV:Nat,∃aG:b3,∃ax:J,∃bB:Env,cd=.exit 0/\ct=ah.mk bB [] .none ax/\cl [(3,.slice bm bG bV aG)] bB/\∃s1:List UInt8,iJ Tryz.prog 27 9 (.slice bm bG bV aG) ax=iX.val (.str s1) ax/\R (.ret (.str s1) ax))):
  R (Y (m+1) (.fn 45) [.int .u64 (.ofNat id)] h):=
 dJ (intr:=b1) [(4000,.g2 [0,3,7,8] [(.exit 0,[(3,.fS)])])] [(0,.v (.int .u64 (.ofNat id)))] Tryz.func45 (by kernel_rfl) (by kernel_rfl) (by kernel_rfl) rfl (Eq.mp (by kernel_rfl) H)
theorem Zq(call:aI->List I->J->av)(id:Nat)(b:Nat)(i:Nat)(cp:b3)(h:J){Q:bn->ah->Prop}(H:(i<8->8*i<9223372036854775808/\∃aD:Nat,qN .shr .u64 (.ofNat id) (.ofNat (8*i))=some (.int .u64 (.ofNat aD))/\∃bm:Nat,iJ Tryz.prog 32 5 (.int .u64 (.ofNat aD)) h=iX.val (.int .u8 (.ofNat bm)) h/\i<8/\∃aj:J,aM.storeCells h b (0+i*1) [.int .u8 (.ofNat bm)]=some aj/\i+1<9223372036854775808/\Q .nrm (ah.mk [(0,.int .u64 (.ofNat id)),(3,.slice b 0 8 cp),(7,.int .i64 (.ofNat 8)),(8,.int .i64 (.ofNat (i+1)))] [] .none aj))/\(¬i<8->Q (.exit 0) (ah.mk [(0,.int .u64 (.ofNat id)),(3,.slice b 0 8 cp),(7,.int .i64 (.ofNat 8)),(8,.int .i64 (.ofNat i))] [] .none h))):
  a4 Tryz.prog Tryz.f45 call [1,1,0,1,0,0] ⟨[(0,.int .u64 (.ofNat id)),(3,.slice b 0 8 cp),(7,.int .i64 (.ofNat 8)),(8,.int .i64 (.ofNat i))],[],.none,h⟩ Q:=
 dI [(16,.bC (.n .u64)),(17,.bC (.n .u8))] [0,3,7,8] [(0,.v (.int .u64 (.ofNat id))),(3,.v (.slice b 0 8 cp)),(7,.v (.int .i64 (.ofNat 8))),(8,.v (.int .i64 (.ofNat i)))] rfl (Eq.mp (by kernel_rfl) H)
theorem Zr(m:Nat)(p:Nat)(e:Nat)(z:Int)(h:J){R:av->Prop}(H:∃aD:Nat,au (h.room 13) e (0+0+4)=some (.int .u64 (.ofNat aD))/\∃v1:I,au (J.set (h.room 13) (h.n+5) (some (.cells [.int .u64 (.ofNat aD)] 32 .own 0 0))) e (0+6)=some v1/\∃bm:Nat,∃bG:Nat,∃bV:Nat,∃aG:b3,∃aj:J,dy Tryz.prog (J.set (h.room 13) (h.n+5) (some (.cells [.int .u64 (.ofNat aD)] 32 .own 0 0))) 44 (some 44) (.slice (h.n+5) 0 1 (.exact 1)) v1=some (.slice bm bG bV aG,aj)/\au (J.set (h.room 13) (h.n+5) (some (.cells [.int .u64 (.ofNat aD)] 32 .own 0 0))) e (0+0+4)=some (.int .u64 (.ofNat aD))/\I.sound v1=true/\a4 Tryz.prog Tryz.f41 (Y m) [1,0] (ah.mk [(0,.ptr p 0),(2,.int .i64 z),(19,.slice bm bG bV aG),(20,.int .i64 (.ofNat bV)),(21,.int .i64 (.ofNat 0))] [] .none aj) (λcd ct=>∃ax:J,∃bB:Env,cd=.exit 0/\ct=ah.mk bB [] .none ax/\cl [] bB/\R (.ret (.aP []) ax))):
  R (Y (m+1) (.fn 41) [.ptr p 0,.ptr e 0,.int .i64 z] h):=
 dJ (intr:=b1) [(19,.bC .fS),(4000,.g2 [0,2,19,20,21] [(.exit 0,[])])] [(0,.v (.ptr p 0)),(1,.v (.ptr e 0)),(2,.v (.int .i64 z))] Tryz.func41 (by kernel_rfl) (by kernel_rfl) (by kernel_rfl) rfl (Eq.mp (by kernel_rfl) H)
theorem Nj(call:aI->List I->J->av)(p:Nat)(b:Nat)(N:Nat)(i:Nat)(m:Nat)(cp:b3)(z:Int)(h:J){Q:bn->ah->Prop}(H:(i<N->i<N/\∃aD:Nat,au h b (0+i*1)=some (.int .u64 (.ofNat aD))/\au h p (0+3)=some (.map m)/\∃bm:Nat,h9 Tryz.prog h 55 (.map m) (.int .u64 (.ofNat aD)) false=some (.ptr bm 0)/\∃ei:Int,au h bm (0+8)=some (.int .i64 ei)/\∃gf:Int,arith .add .i64 ei z=some (.int .i64 gf)/\I.cQ (.int .i64 gf)=true/\∃aj:J,aM.storeCells h bm (0+8) [.int .i64 gf]=some aj/\i+1<9223372036854775808/\Q .nrm (ah.mk [(0,.ptr p 0),(2,.int .i64 z),(19,.slice b 0 N cp),(20,.int .i64 (.ofNat N)),(21,.int .i64 (.ofNat (i+1)))] [] .none aj))/\(¬i<N->Q (.exit 0) (ah.mk [(0,.ptr p 0),(2,.int .i64 z),(19,.slice b 0 N cp),(20,.int .i64 (.ofNat N)),(21,.int .i64 (.ofNat i))] [] .none h))):
  a4 Tryz.prog Tryz.f41 call [1,0,0] ⟨[(0,.ptr p 0),(2,.int .i64 z),(19,.slice b 0 N cp),(20,.int .i64 (.ofNat N)),(21,.int .i64 (.ofNat i))],[],.none,h⟩ Q:=
 dI [(28,.bC (.is (.map m))),(30,.bC .p),(36,.bC (.z .i64)),(38,.bC (.z .i64))] [0,2,19,20,21] [(0,.v (.ptr p 0)),(2,.v (.int .i64 z)),(19,.v (.slice b 0 N cp)),(20,.v (.int .i64 (.ofNat N))),(21,.v (.int .i64 (.ofNat i)))] rfl (Eq.mp (by kernel_rfl) H)
theorem Zs(call:aI->List I->J->av)(p:Nat)(b:Nat)(N:Nat)(i:Nat)(m:Nat)(cp:b3)(z:Int)(h:J){Q:bn->ah->Prop}(H:(i<N->i<N/\∃aD:Nat,au h b (0+i*1)=some (.int .u64 (.ofNat aD))/\au h p (0+3)=some (.map m)/\h9 Tryz.prog h 55 (.map m) (.int .u64 (.ofNat aD)) false=some .bb/\i+1<9223372036854775808/\Q .nrm (ah.mk [(0,.ptr p 0),(2,.int .i64 z),(19,.slice b 0 N cp),(20,.int .i64 (.ofNat N)),(21,.int .i64 (.ofNat (i+1)))] [] .none h))/\(¬i<N->Q (.exit 0) (ah.mk [(0,.ptr p 0),(2,.int .i64 z),(19,.slice b 0 N cp),(20,.int .i64 (.ofNat N)),(21,.int .i64 (.ofNat i))] [] .none h))):
  a4 Tryz.prog Tryz.f41 call [1,0,0] ⟨[(0,.ptr p 0),(2,.int .i64 z),(19,.slice b 0 N cp),(20,.int .i64 (.ofNat N)),(21,.int .i64 (.ofNat i))],[],.none,h⟩ Q:=
 dI [(28,.bC (.is (.map m))),(30,.bC (.is .bb))] [0,2,19,20,21] [(0,.v (.ptr p 0)),(2,.v (.int .i64 z)),(19,.v (.slice b 0 N cp)),(20,.v (.int .i64 (.ofNat N))),(21,.v (.int .i64 (.ofNat i)))] rfl (Eq.mp (by kernel_rfl) H)
def oE(id i:Nat):List UInt8:=(List.range 8).map λk=>if k<i then UInt8.ofNat (id/2^(8*k)) else 0
theorem Zt(id:Nat):oE id 8=iw id:=by
 unfold oE iw
 refine List.map_congr_left λk aq=>?_
 rw[if_pos (List.mem_range.1 aq)]
theorem Zu{l:List UInt8}{i:Nat}{c:UInt8}:(c8 l).set i (.int .u8 (Int.ofNat c.toNat))=c8 (l.set i c):=by
 induction l generalizing i with
 |nil=>rfl
 |cons x l a6=>
  cases i with
  |zero=>rfl
  |succ i=>simp only[c8,List.set_cons_succ,a6]
theorem Zv{id i:Nat}(af:i<8):(oE id i).set i (UInt8.ofNat (id/2^(8*i)))=oE id (i+1):=by
 apply List.ext_getElem (by simp[oE])
 intro k ab ad
 simp only[oE,List.getElem_set,List.getElem_map,List.getElem_range]
 by_cases h:i=k
 · subst h;simp
 · rw[if_neg h]
   by_cases aq:k<i
   · rw[if_pos aq,if_pos (by omega)]
   · rw[if_neg aq,if_neg (by omega)]
theorem Gs(l:List UInt8):(c8 l).length=l.length:=by
 induction l with
 |nil=>rfl
 |cons x l a6=>simp[c8,a6]
theorem Zw(m id:Nat)(h:J)(iB:id<18446744073709551616):∃g,Y (m+1) (.fn 45) [.int .u64 (Int.ofNat id)] h=.ret (.str (iw id)) g/\Ext h.n h g:=by
 obtain⟨H,cm⟩:∃H,H=h.push (.cells (c8 (oE id 0)) 5 .own 0 0):=⟨_,rfl⟩
 have dA:Ext h.n h H:=by rw[cm];exact Ext.push (Nat.le_refl _) _
 have aA:Ax Tryz.prog h 27 (.int .i64 (Int.ofNat 8)) (.int .i64 (Int.ofNat 8))=some (.slice h.n 0 8 (.exact 8),H):=by rw[cm];kernel_rfl
 refine Zp m id h (R:=λx=>∃g,x=.ret (.str (iw id)) g/\Ext h.n h g) ⟨_,H,aA,8,rfl,?_⟩
 refine a4.loop (by kernel_rfl) (λk st=>∃i y Γ,st=⟨Γ,[],.none,y⟩/\cl [(0,.int .u64 (Int.ofNat id)),(3,.slice h.n 0 8 (.exact 8)),(7,.int .i64 (Int.ofNat 8)),(8,.int .i64 (Int.ofNat i))] Γ/\8-i=k/\i<=8/\Ext h.n h y/\y.get h.n=some (.cells (c8 (oE id i)) 5 .own 0 0)) ?_ 8 _ (by omega) ⟨0,H,_,rfl,⟨rfl,rfl,rfl,rfl,trivial⟩,by omega,by omega,dA,by rw[cm];exact fj rfl⟩
 rintro k st ⟨i,y,Γ,rfl,cP,aq,af,aW,al⟩
 have pz:(oE id i).length=8:=by simp[oE]
 refine a4.pre (Zq (Y m) id h.n i (.exact 8) y ⟨λi1=>?_,λi1=>?_⟩) cP rfl rfl rfl
 · have bC:qN .shr .u64 (Int.ofNat id) (Int.ofNat (8*i))=some (.int .u64 (Int.ofNat (id/2^(8*i)))):=by
     have ab:¬(Int.ofNat (8*i)<0):=Int.not_lt.2 (Int.natCast_nonneg _)
     have ad:min (Int.ofNat (8*i)).toNat (IntKind.bits .u64)=8*i:=by
      show min (8*i) 64=8*i
      omega
     simp only[qN,if_neg ab,ad]
     have ar:((2:Int)^(8*i))=Int.ofNat (2^(8*i)):=by simp
     rw[ar]
     exact congrArg (λz=>some (I.int .u64 z)) (Int.ofNat_fdiv _ _).symm
   have p4:iJ Tryz.prog 32 5 (.int .u64 (Int.ofNat (id/2^(8*i)))) y=.val (.int .u8 (Int.ofNat (UInt8.ofNat (id/2^(8*i))).toNat)) y:=by
    have e:(UInt8.ofNat (id/2^(8*i))).toNat=id/2^(8*i) %256:=by simp
    rw[e]
    exact JO (ka:=.u64) (by kernel_rfl) (by kernel_rfl) (wrap_u8 _)
   obtain⟨g,Gt⟩:∃g,g=y.set h.n (some (.cells (c8 (oE id (i+1))) 5 .own 0 0)):=⟨_,rfl⟩
   have st:aM.storeCells y h.n (0+i*1) [.int .u8 (Int.ofNat (UInt8.ofNat (id/2^(8*i))).toNat)]=some g:=by
    rw[Gt,<-Zv i1,<-Zu]
    exact gJ al rfl (by rw[show 0+i*1=i by omega];exact Fp _ rfl _ i (by rw[Gs,pz];exact i1))
   refine⟨by omega,_,bC,_,p4,i1,g,st,by omega,_,(by show _<k;omega),i+1,g,_,rfl,⟨rfl,rfl,rfl,rfl,trivial⟩,rfl,by omega,?_,by rw[Gt];exact gI rfl⟩
   rw[Gt];exact Ext.iQ (Nat.le_refl _) aW
 · obtain rfl:i=8:=by omega
   rw[Zt] at al
   have p4:iJ Tryz.prog 27 9 (.slice h.n 0 8 (.exact 8)) y=.val (.str (iw id)) y:=by
    have jG:Tryz.prog.underlying 27=some (.slice 5):=by kernel_rfl
    have uF:Tryz.prog.underlying 9=some .string:=by kernel_rfl
    have mO:Tryz.prog.underlying 5=some (.int .u8):=by kernel_rfl
    have nH:aM.loadCells y h.n 0 8=some (c8 (iw id)):=by
     refine pb al ?_
     have:=JM (c8 (iw id)) [] 8 (by rw[Gs,tY])
     rw[List.append_nil] at this
     exact this
    simp only[iJ,jG,uF,mO,nH,Ee]
   exact⟨h.n,0,8,.exact 8,y,_,rfl,rfl,⟨rfl,trivial⟩,iw id,p4,y,rfl,aW⟩
theorem Zx(n b B:Nat)(h:J)(v:I)(w s:List UInt8)(al:h.get b=some (.cells [.ptr b 0,v] 92 .own 0 0))(Bw:pa B 5 h v w)(kC:b<B)(Xz:B<=h.n)(cV:w++s≠[])(aw:w.length+s.length<=1000000000):∃an,Y (n+3) (.fn 44) [.ptr b 0,.str s] h=.ret (.aP [.int .i64 (Int.ofNat s.length),.eS]) an/\jA B b an (w++s)/\kT b B h an:=by
 obtain⟨ab,aG,aj,aD,dv⟩:=FB n b h v (by omega) (.inr al)
 have bt:pa B 5 ab v w:=Bw.ext (by omega) λc ag _=>dv c (by omega)
 obtain⟨i,tP,Bx,xN⟩:=LX
 obtain⟨v',ad,cw,c2,dm⟩:=JI (P:=Tryz.prog) (B:=B) (sT:=27) (xT:=some 9) (e:=5) (z:=.int .u8 (Int.ofNat 0)) (by omega) (by kernel_rfl) (by kernel_rfl) tP Bx (by kernel_rfl) rfl (LY xN aw) bt
 have ax:=(dm.get b kC).trans aj
 have aK:=dm.n
 refine⟨ad.set b (some (.cells [.ptr b 0,v'] 92 .own 0 0)),?_,⟨.ptr b 0,v',gI rfl,.inr rfl,c2.ext (by simp) λc ag _=>dH (by omega) rfl,kC,by simp;omega,λe=>absurd e cV⟩,⟨by simp;omega,λc ag lG=>dH lG ((dm.get c ag).trans (dv c lG))⟩⟩
 rcases c2 with⟨rfl,_⟩|⟨c,r,rfl,_⟩
 · exact eK (intr:=b1) (n:=n+2) (args:=[.ptr b 0,.str s]) Tryz.func44 (by kernel_rfl) rfl (by kernel_rfl) (LR (Y (n+2)) b s v h ad ab _ aG (aU aj rfl) cw (gJ ax rfl rfl)) (.inl rfl) (by kernel_rfl)
 · exact eK (intr:=b1) (n:=n+2) (args:=[.ptr b 0,.str s]) Tryz.func44 (by kernel_rfl) rfl (by kernel_rfl) (bws (Y (n+2)) b c _ s v h ad ab _ aG (aU aj rfl) cw (gJ ax rfl rfl)) (.inl rfl) (by kernel_rfl)
theorem Zy(n m:Nat)(h:J)(hm:m<=1000000000):Y (n+1) (.fn 112) [.int .i64 (Int.ofNat m)] h=.ret (.slice h.n 0 m (.a1 1)) (h.push (.cells (List.replicate m .bad) 5 .a1 0 0)):=by
 have hle:Nat.ble m 1099511627776=true:=by simp;omega
 have aA:(Tryz.f112).resultTypes[0]? =some 27:=by kernel_rfl
 have ay:Tryz.prog.underlying 27=some (.slice 5):=by kernel_rfl
 have bx:(Tryz.f112).body=none:=by kernel_rfl
 have ef:(Tryz.f112).name= "internal/bytealg.MakeNoZero" :=by kernel_rfl
 have ga:b1 112 [.int .i64 (Int.ofNat m)] h=none:=rfl
 have fp:qS Tryz.prog Tryz.f112 "internal/bytealg.MakeNoZero" [.int .i64 (Int.ofNat m)] h=some (.slice h.n 0 m (.a1 1),h.push (.cells (List.replicate m .bad) 5 .a1 0 0)):=by
  simp only[qS,aA,ay,hle];rfl
 show e6 Tryz.prog b1 (n+1) _ _ _=_
 simp only[e6,ga,pQ,Tryz.func112,bx,ef,fp]
theorem Zz(n b m:Nat)(h:J)(ae:b<h.n)(al:h.get b=some (.cells [.bb,.a0] 92 .own 0 0))(h0:0<m)(hm:m<=1000000000):∃g c,Y (n+3) (.fn 74) [.ptr b 0,.int .i64 (Int.ofNat m)] h=.ret (.aP []) g/\g.get b=some (.cells [.ptr b 0,.slice c 0 0 (.a1 1)] 92 .own 0 0)/\pa h.n 5 g (.slice c 0 0 (.a1 1)) []/\kT b h.n h g:=by
 obtain⟨ab,aG,aj,aD,dv⟩:=FB n b h .a0 ae (.inl al)
 obtain⟨H,cm⟩:∃H,H=(ab.room 13).room 16:=⟨_,rfl⟩
 have lr:H.n=ab.n+29:=by rw[cm];simp
 have r7:H.get b=some (.cells [.ptr b 0,.a0] 92 .own 0 0):=by rw[cm];exact aj
 obtain⟨aQ,zb⟩:∃aQ,aQ=H.push (.cells (List.replicate m .bad) 5 .a1 0 0):=⟨_,rfl⟩
 have Gu:aQ.get b=some (.cells [.ptr b 0,.a0] 92 .own 0 0):=by rw[zb];exact mC (by omega) r7
 have Nk:=Zy n (0+m) H (by omega)
 obtain⟨bq,zc⟩:∃bq,bq=aQ.set b (some (.cells [.ptr b 0,.slice H.n 0 0 (.a1 1)] 92 .own 0 0)):=⟨_,rfl⟩
 have ja:de Tryz.prog aQ 27 (.slice H.n 0 (0+m) (.a1 1)) none (some (.int .i64 (Int.ofNat 0))) none=some (.slice H.n 0 0 (.a1 1)):=Bt (E:=5) (by kernel_rfl) (by kernel_rfl) (Nat.zero_le _)
 have Gl:um Tryz.prog aQ 27 (.slice H.n 0 0 (.a1 1)) .a0=some (.int .i64 (Int.ofNat 0),aQ):=by kernel_rfl
 have ZA:Y (n+2) (.fn 102) [.ptr b 0,.int .i64 (Int.ofNat m)] (ab.room 13)=.ret (.aP []) bq:=by
  rw[Nat.zero_add] at Nk ja
  refine Zo (n+1) b m (ab.room 13) (R:=λx=>x=.ret (.aP []) bq) ?_
  rw[<-cm]
  refine⟨.a0,aU r7 rfl,0,rfl,by omega,by omega,H.n,0,m,.a1 1,aQ,?_,.a0,aU Gu rfl,0,rfl,_,ja,rfl,rfl,aU r7 rfl,rfl,rfl,.a0,aU Gu rfl,0,aQ,Gl,rfl,bq,by rw[zc];exact gJ Gu rfl rfl,rfl⟩
  rw[show 2*0+m=m by omega,zb];exact Nk
 have bG:bq.n=H.n+1:=by rw[zc,zb];rfl
 refine⟨bq,H.n,Zn (n+2) b m h (R:=λx=>x=.ret (.aP []) bq) ⟨ab,aG,by omega,.a0,aU (h:=ab.room 13) aj rfl,0,rfl,.a0,aU (h:=ab.room 13) aj rfl,0,rfl,by omega,rfl,rfl,by omega,bq,ZA,rfl⟩,by rw[zc];exact gI rfl,.inr ⟨H.n,List.replicate m .bad,rfl,?_,by omega,by omega⟩,⟨by omega,λc ag lG=>?_⟩⟩
 · rw[zc]
   refine dH (by omega) ?_
   rw[zb];exact fj rfl
 · rw[zc]
   refine dH lG ?_
   rw[zb]
   refine mC (by omega) ?_
   rw[cm];exact dv c lG
end Go.Proofs.dj
namespace Go.Proofs.dj
open Go aM Go.Proofs c_ Go.Proofs.cF
set_option maxRecDepth 100000
set_option maxHeartbeats 1000000
theorem Gv(c:Nat):∀a b:List a5,fA c (a++b)=fA c a+fA c b
 |[],b=>by rw[fA,List.nil_append];omega
 |x::a,b=>by rw[List.cons_append,fA,Gv c a b,fA];omega
theorem Gw(c:Nat)(l:List a5)(i:Nat):fA c (l.take i)<=fA c l:=by
 have:=Gv c (l.take i) (l.drop i)
 rw[List.take_append_drop] at this
 omega
theorem BY(l:List a5)(i:Nat):(dW [32] (l.take i)).length<=fA 1 l:=Nat.le_trans (Bd [32] _) (Gw 1 l i)
theorem ZB(m:Nat){F:Nat->Prop}{h:J}{v:I}{ns:List a5}(aB:kb F h v (ns.map .str))(fJ:∀b,F b->b<h.n)(aK:∀s∈ns,s≠[])(aw:ns.length<=1000)(a_:fA 1 ns<=1000000):∃g,Y (m+4) (.fn 46) [v,.str [32]] h=.ret (.str (gi ns)) g/\Ext h.n h g:=by
 rcases aB with⟨rfl,e⟩|⟨b,off,cp,rfl,ae,ar,aJ,bO,cj⟩
 · obtain rfl:ns=[]:=by simpa using e
   exact⟨h,Zj (m+3) .a0 h (R:=λx=>x=.ret (.str (gi [])) h) ⟨0,rfl,rfl,rfl⟩,Ext.refl _ _⟩
 have ae:=fJ b ae
 rw[List.length_map] at aJ cj⊢
 have fU:∀{x},Ext h.n h x->∀i (af:i<ns.length),au x b (off+i*1)=some (.str ns[i]):=λe i af=>by
  rw[iS e ae (ar i (by rw[List.length_map];exact af))];simp
 refine Zk (m+3) b off ns.length cp h (R:=λx=>∃g,x=.ret (.str (gi ns)) g/\Ext h.n h g) ⟨by omega,λaD=>?_,λaD=>⟨λ_=>?_,λh=>absurd (by omega) h⟩⟩
 · refine⟨aJ,_,fU (Ext.refl _ _) 0 aJ,h,?_,Ext.refl _ _⟩
   cases ns with
   |nil=>cases aD
   |cons x l=>
    obtain rfl:l=[]:=by simpa using aD
    show _=av.ret (.str (x++[])) h
    rw[List.append_nil];rfl
 have aT:∃q,arith .quo .i64 (Int.ofNat 9223372036854775807) (Int.ofNat (ns.length-1))=some (.int .i64 (Int.ofNat q))/\¬q<=1:=by
  refine⟨9223372036854775807/(ns.length-1),?_,?_⟩
  · have ab:¬Int.ofNat (ns.length-1)=0:=λh=>by have ad:((ns.length-1:Nat):Int)=0:=h;omega
    have ad:9223372036854775807/(ns.length-1)<9223372036854775808:=Nat.lt_of_le_of_lt (Nat.div_le_self _ _) (by omega)
    simp only[arith]
    rw[if_neg ab]
    have ar:(Int.ofNat 9223372036854775807).tdiv (Int.ofNat (ns.length-1))=((9223372036854775807/(ns.length-1):Nat):Int):=rfl
    rw[ar,q2 _ ad]
    rfl
  · have:2<=9223372036854775807/(ns.length-1):=(Nat.le_div_iff_mul_le (by omega)).2 (by omega)
    omega
 obtain⟨q,ba,a7⟩:=aT
 refine⟨⟨by omega,by omega⟩,q,ba,a7,⟨by omega,by omega⟩,by omega,by omega,?_⟩
 refine a4.loop (by kernel_rfl) (λk st=>∃i n Γ,st=⟨Γ,[],.none,h⟩/\cl [(0,.slice b off ns.length cp),(1,.str [32]),(5,.int .i64 (Int.ofNat n)),(39,.slice b off ns.length cp),(40,.int .i64 (Int.ofNat ns.length)),(41,.int .i64 (Int.ofNat i))] Γ/\ns.length-i=k/\i<=ns.length/\0<n/\n<=1000+fA 1 (ns.take i)) ?_ ns.length _ (by omega) ⟨0,_,_,rfl,⟨rfl,rfl,rfl,rfl,rfl,rfl,trivial⟩,by omega,by omega,by omega,by omega⟩
 rintro k st ⟨i,n,Γ,rfl,cP,aq,af,w8,CI⟩
 have uZ:=Gw 1 ns i
 refine a4.pre (Zl (Y (m+3)) b off _ i n cp h ⟨λi1=>?_,λi1=>?_⟩) cP rfl rfl rfl
 · have e:fA 1 (ns.take (i+1))=fA 1 (ns.take i)+(ns[i].length+1):=by
     rw[List.take_succ_eq_append_getElem i1,Gv,fA,fA]
   have acY:=Gw 1 ns (i+1)
   exact⟨i1,_,fU (Ext.refl _ _) i i1,⟨by omega,by omega⟩,by omega,by omega,by omega,_,(by show _<k;omega),i+1,_,_,rfl,⟨rfl,rfl,rfl,rfl,rfl,rfl,trivial⟩,rfl,by omega,by omega,by omega⟩
 · obtain⟨H,cm⟩:∃H,H=h.push (.cells [.bb,.a0] 92 .own 0 0):=⟨_,rfl⟩
   have lr:H.n=h.n+1:=by rw[cm];rfl
   have dA:Ext h.n h H:=by rw[cm];exact Ext.push (Nat.le_refl _) _
   obtain⟨g,c,aG,zW,ZC,ou⟩:=Zz m h.n n H (by omega) (by rw[cm];exact fj rfl) w8 (by omega)
   have M5:=ou.n
   have BZ:∀{x},kT h.n H.n H x->Ext h.n h x:=λe=>⟨by have:=e.n;omega,λd ao=>(e.get d (by omega) (by omega)).trans (dA.get d ao)⟩
   have ZD:ns[0]≠[]:=aK _ (List.getElem_mem aJ)
   have cA:(dW [32] (ns.take 1)).length<=fA 1 ns:=BY ns 1
   have df:dW [32] (ns.take 1)=ns[0]:=by
    have:=tI [32] ns (i:=0) aJ
    simpa using this
   rw[df] at cA
   obtain⟨aC,dn,Nl,dP⟩:=Zx m h.n H.n g (.slice c 0 0 (.a1 1)) [] ns[0] zW ZC (by omega) M5 (by simpa using ZD) (by simp;omega)
   rw[List.nil_append] at Nl
   have ZE:kT h.n H.n H aC:=ou.trans (Nat.le_refl _) dP
   obtain⟨nL,kF,d1,d2,d3⟩:=FY (P:=Tryz.prog) (h:=aC) (T:=63) (E:=9) (b:=b) (off:=off) (by kernel_rfl) (by kernel_rfl) aJ cj
   obtain⟨rfl,_⟩:=d3 (by omega)
   subst cm
   refine⟨n,h,_,rfl,rfl,⟨rfl,rfl,rfl,trivial⟩,g,aG,aJ,ns[0],fU (BZ ou) 0 aJ,_,_,aC,dn,b,_,ns.length-1,kF,d1,?_⟩
   refine a4.loop (by kernel_rfl) (λk st=>∃i y Γ,st=⟨Γ,[],.none,y⟩/\cl [(1,.str [32]),(8,.ptr h.n 0),(63,.slice b (off+1*1) (ns.length-1) kF),(64,.int .i64 (Int.ofNat (ns.length-1))),(65,.int .i64 (Int.ofNat i))] Γ/\ns.length-1-i=k/\i<=ns.length-1/\jA (h.n+1) h.n y (dW [32] (ns.take (i+1)))/\kT h.n (h.n+1) (h.push (.cells [.bb,.a0] 92 .own 0 0)) y) ?_ (ns.length-1) _ (by omega) ⟨0,aC,_,rfl,⟨rfl,rfl,rfl,rfl,rfl,trivial⟩,by omega,by omega,by rw[df];exact Nl,ZE⟩
   rintro ea st ⟨j,y,cg,rfl,ox,eU,aL,r4,aW⟩
   refine a4.pre (Zm (Y (m+3)) h.n b _ _ j kF y ⟨λsB=>?_,λsB=>?_⟩) ox rfl rfl rfl
   · have bB:=BY ns (j+1)
     have b2:=BY ns (j+1+1)
     have ay:=tI [32] ns (i:=j+1) (by omega)
     rw[if_pos (by omega)] at ay
     rw[ay] at b2
     simp only[List.length_append,List.length_cons,List.length_nil] at b2
     obtain⟨jg,cK,ZF,bE⟩:=Bv m h.n (h.n+1) y _ [32] r4 (by simp;omega)
     obtain⟨jN,cG,ZG,b0⟩:=Bv m h.n (h.n+1) jg _ ns[j+1] ZF (by simp;omega)
     refine⟨sB,ns[j+1],?_,_,_,jg,cK,_,_,jN,cG,by omega,_,(by show _<ea;omega),j+1,jN,_,rfl,⟨rfl,rfl,rfl,rfl,rfl,trivial⟩,rfl,by omega,?_,(aW.trans (Nat.le_refl _) bE.x).trans (Nat.le_refl _) b0.x⟩
     · rw[show off+1*1+j*1=off+(j+1)*1 by omega]
       exact fU (BZ aW) (j+1) (by omega)
     · rw[ay];exact ZG
   · obtain rfl:j=ns.length-1:=by omega
     have bB:=BY ns (ns.length-1+1)
     obtain⟨bW,wm,pk⟩:=LZ (m+2) h.n (h.n+1) y _ r4 (by omega)
     rw[List.take_of_length_le (by omega)] at wm
     exact⟨h.n,y,_,rfl,rfl,⟨rfl,trivial⟩,gi ns,bW,wm,bW,rfl,⟨by have:=pk.n;have:=(BZ aW).n;omega,λd ao=>(pk.get d (by omega)).trans ((BZ aW).get d ao)⟩⟩
end Go.Proofs.dj
namespace Go.Proofs.dj
open Go aM Go.Proofs c_ Go.Proofs.cF
set_option maxRecDepth 100000
set_option maxHeartbeats 1000000
abbrev tZ(d:Nat):I:=.int .u64 (Int.ofNat d)
abbrev t_(B:Nat)(h:J)(v:I)(l:List Nat):Prop:=cD (λd=>[tZ d]) 1 32 B h v l
theorem B0:kU Tryz.prog (λd=>[tZ d]) 1 32 44 where
 hu:=by kernel_rfl
 fy:=by kernel_rfl
 info:=by
  obtain⟨i,af⟩:=Option.isSome_iff_exists.1 (show(Tryz.prog.info? 32).isSome=true by kernel_rfl)
  refine⟨i,af,?_,?_⟩
  · have:(Tryz.prog.info? 32).map (·.size)=some 1:=by kernel_rfl
    rw[af] at this;simpa using this
  · have:(Tryz.prog.info? 32).map (λi=>Nat.ble i.bytes 1000)=some true:=by kernel_rfl
    rw[af] at this
    exact Nat.le_of_ble_eq_true (by simpa using this)
 zero:=⟨.int .u64 0,by kernel_rfl,rfl⟩
 size:=by kernel_rfl
 len:=λ_=>rfl
 cell:=λ_=>rfl
 pos:=by decide
abbrev wo(cap given clock a3 bS:Nat):da:=.cells [.int .i64 (Int.ofNat cap),.int .u64 (Int.ofNat given),.int .u64 (Int.ofNat clock),.map a3,.map bS] 58 .own 0 0
abbrev B1(e:cu)(ao:Int)(bJ bd:I):da:=.cells (Za e ao bJ bd) 65 .own 0 0
structure f_(F:Nat->Prop)(h:J)(p a3 bS aG a9 cap given clock:Nat)(M:List Mem):Prop where
 st:h.get p=some (wo cap given clock a3 bS)
 aA:h.get a3=some (.map (M.map hD) aG)
 ay:h.get bS=some (.map (M.map iW) a9)
 et:∀x∈M,h.get x.b=some (B1 x.e x.ao x.bJ x.bd)
 ns:∀x∈M,pH 0 h x.bJ x.e.ns
 az:∀x∈M,t_ 0 h x.bd x.e.args
 bs:M.Pairwise λa b=>a.b≠b.b
 dv:M.Pairwise λa b=>a.dv≠b.dv
 fD:∀x∈M,x.dv<aG/\x.dC<a9
 up:wj M
 ua:∀x∈M,0<x.e.id
 jD:a3≠bS
 aN:p<h.n/\a3<h.n/\bS<h.n/\∀x∈M,x.b<h.n
 lq:¬F p/\¬F a3/\¬F bS
 ne:∀x∈M,¬F x.b
 wq:∀x∈M,∀d n cp,x.bJ=.slice d 0 n cp->¬F d
 wu:∀x∈M,∀d n cp,x.bd=.slice d 0 n cp->¬F d
theorem zd{cs:List I}{el:Nat}{e:Nat}:jj e (some (.cells cs el .own 0 0)):=λ_ _ _ h=>by cases h
theorem Nm{es:List dK}{c e:Nat}:jj e (some (.map es c)):=λ_ _ _ h=>by cases h
theorem ub{cs:List I}{el e:Nat}{k:gE}{aN up:Nat}(cV:el≠e):jj e (some (.cells cs el k aN up)):=λ_ _ _ h=>by cases h;exact cV rfl
theorem Nn{D:Type}{enc:D->List I}{w el:Nat}{F:Nat->Prop}{h g:J}{v:I}{ds:List D}(cV:el≠5)(a2:cD enc w el 0 h v ds)(hf:∀d n cp,v=.slice d 0 n cp->¬F d)(aK:h.n<=g.n)(aq:∀d,d<h.n->¬F d->jj 5 (h.get d)->g.get d=h.get d):cD enc w el 0 g v ds:=by
 rcases a2 with a2|⟨q,rfl,ad,ar,aJ,bO⟩
 · exact .inl a2
 · exact .inr ⟨q,rfl,ad,(aq q bO (hf q _ _ rfl) (by rw[ar];exact ub cV)).trans ar,aJ,by omega⟩
theorem No{D:Type}{enc:D->List I}{w el:Nat}{F G:Nat->Prop}{h:J}{v:I}{ds:List D}(cV:el≠5)(a2:cD enc w el 0 h v ds)(hf:∀d n cp,v=.slice d 0 n cp->¬F d)(iC:∀d,d<h.n->G d->F d\/¬jj 5 (h.get d)):∀d n cp,v=.slice d 0 n cp->¬G d:=by
 rintro d n cp e al
 rcases a2 with⟨rfl,_⟩|⟨q,rfl,ad,ar,aJ,bO⟩
 · cases e
 · cases e
   rcases iC _ bO al with h|h
   · exact hf _ _ _ rfl h
   · exact h (by rw[ar];exact ub cV)
theorem f_.move{F G:Nat->Prop}{h g:J}{p a3 bS aG a9 cap given clock:Nat}{M:List Mem}(w:f_ F h p a3 bS aG a9 cap given clock M)(aK:h.n<=g.n)(aq:∀d,d<h.n->¬F d->jj 5 (h.get d)->g.get d=h.get d)(iC:∀d,d<h.n->G d->F d\/¬jj 5 (h.get d)):f_ G g p a3 bS aG a9 cap given clock M:=by
 obtain⟨bB,b2,dq,im⟩:=w.aN
 obtain⟨f1,f2,f3⟩:=w.lq
 have wh:∀d,d<h.n->¬F d->jj 5 (h.get d)->¬G d:=λd ao hf ak al=>(iC d ao al).elim hf λk=>k ak
 have r1:jj 5 (h.get p):=by rw[w.st];exact zd
 have r2:jj 5 (h.get a3):=by rw[w.aA];exact Nm
 have ed:jj 5 (h.get bS):=by rw[w.ay];exact Nm
 have fq:∀x∈M,jj 5 (h.get x.b):=λx aa=>by rw[w.et x aa];exact zd
 have cb:9≠5:=by decide
 have cW:32≠5:=by decide
 exact⟨(aq p bB f1 r1).trans w.st,(aq a3 b2 f2 r2).trans w.aA,(aq bS dq f3 ed).trans w.ay,λx aa=>(aq x.b (im x aa) (w.ne x aa) (fq x aa)).trans (w.et x aa),λx aa=>Nn cb (w.ns x aa) (w.wq x aa) aK aq,λx aa=>Nn cW (w.az x aa) (w.wu x aa) aK aq,w.bs,w.dv,w.fD,w.up,w.ua,w.jD,⟨by omega,by omega,by omega,λx aa=>by have:=im x aa;omega⟩,⟨wh p bB f1 r1,wh a3 b2 f2 r2,wh bS dq f3 ed⟩,λx aa=>wh x.b (im x aa) (w.ne x aa) (fq x aa),λx aa=>No cb (w.ns x aa) (w.wq x aa) iC,λx aa=>No cW (w.az x aa) (w.wu x aa) iC⟩
theorem f_.ext{F:Nat->Prop}{h g:J}{p a3 bS aG a9 cap given clock:Nat}{M:List Mem}(w:f_ F h p a3 bS aG a9 cap given clock M)(e:Ext h.n h g):f_ F g p a3 bS aG a9 cap given clock M:=w.move e.n (λd ao _ _=>e.get d ao) λd _ h=>.inl h
structure wv(f:Mem->Mem):Prop where
 b:∀x,(f x).b=x.b
 dv:∀x,(f x).dv=x.dv
 dC:∀x,(f x).dC=x.dC
 bJ:∀x,(f x).bJ=x.bJ
 bd:∀x,(f x).bd=x.bd
 id:∀x,(f x).e.id=x.e.id
 bC:∀x,BR (f x).e=BR x.e
 ns:∀x,(f x).e.ns=x.e.ns
 args:∀x,(f x).e.args=x.e.args
def ma(id:Nat)(f:Mem->Mem)(M:List Mem):List Mem:=M.map λy=>if y.e.id=id then f y else y
theorem wv.ite{f:Mem->Mem}(hf:wv f)(id:Nat):wv λy=>if y.e.id=id then f y else y:=by
 constructor<;>intro x<;>split<;>first|rfl|exact hf.b x|exact hf.dv x|exact hf.dC x|exact hf.bJ x|exact hf.bd x|exact hf.id x|exact hf.bC x|exact hf.ns x|exact hf.args x
theorem ZH{M:List Mem}(h:wj M){a b:Mem}(aS:a∈M)(ae:b∈M)(e:a.e.id=b.e.id):a=b:=by
 induction M with
 |nil=>cases aS
 |cons x l a6=>
  rw[wj,List.pairwise_cons] at h
  rcases List.mem_cons.1 aS with ab|ab
  · rcases List.mem_cons.1 ae with ad|ad
    · rw[ab,ad]
    · have:=h.1 b ad;rw[ab] at e;omega
  · rcases List.mem_cons.1 ae with ad|ad
    · have:=h.1 a ab;rw[ad] at e;omega
    · exact a6 h.2 ab ad
theorem ZI{M:List Mem}(h:M.Pairwise λa b=>a.b≠b.b){a b:Mem}(aS:a∈M)(ae:b∈M)(e:a.b=b.b):a=b:=by
 induction M with
 |nil=>cases aS
 |cons x l a6=>
  rw[List.pairwise_cons] at h
  rcases List.mem_cons.1 aS with ab|ab
  · rcases List.mem_cons.1 ae with ad|ad
    · rw[ab,ad]
    · rw[ab] at e;exact absurd e (h.1 b ad)
  · rcases List.mem_cons.1 ae with ad|ad
    · rw[ad] at e;exact absurd e.symm (h.1 a ab)
    · exact a6 h.2 ab ad
theorem f_.fm{F:Nat->Prop}{h:J}{p a3 bS aG a9 cap given clock:Nat}{M:List Mem}(w:f_ F h p a3 bS aG a9 cap given clock M){x:Mem}(aa:x∈M){f:Mem->Mem}(hf:wv f):f_ F (h.set x.b (some (B1 (f x).e (f x).ao (f x).bJ (f x).bd))) p a3 bS aG a9 cap given clock (ma x.e.id f M):=by
 have K:=hf.ite x.e.id
 have nN:=w.et x aa
 have aO:p≠x.b:=λe=>by rw[<-e,w.st] at nN;cases nN
 have ab:a3≠x.b:=λe=>by rw[<-e,w.aA] at nN;cases nN
 have ad:bS≠x.b:=λe=>by rw[<-e,w.ay] at nN;cases nN
 have mem:∀y∈ma x.e.id f M,∃z∈M,y=if z.e.id=x.e.id then f z else z:=λy aW=>by
  obtain⟨z,aZ,e⟩:=List.mem_map.1 aW;exact⟨z,aZ,e.symm⟩
 have ZJ:(ma x.e.id f M).map hD=M.map hD:=by
  rw[ma,List.map_map]
  refine List.map_congr_left λz _=>?_
  show hD (if z.e.id=x.e.id then f z else z)=hD z
  unfold hD
  rw[K.id z,K.b z,K.dv z]
 have ZK:(ma x.e.id f M).map iW=M.map iW:=by
  rw[ma,List.map_map]
  refine List.map_congr_left λz _=>?_
  show iW (if z.e.id=x.e.id then f z else z)=iW z
  unfold iW
  rw[K.id z,K.bC z,K.dC z]
 have uc:∀{R S:Mem->Mem->Prop},M.Pairwise R->(∀a b,R a b->S (if a.e.id=x.e.id then f a else a) (if b.e.id=x.e.id then f b else b))->(ma x.e.id f M).Pairwise S:=λh k=>by
  rw[ma,List.pairwise_map];exact h.imp λ{a b} fg=>k a b fg
 refine⟨dH aO w.st,by rw[ZJ];exact dH ab w.aA,by rw[ZK];exact dH ad w.ay,λy aW=>?_,λy aW=>?_,λy aW=>?_,uc w.bs λa b fg=>by rw[K.b a,K.b b];exact fg,uc w.dv λa b fg=>by rw[K.dv a,K.dv b];exact fg,λy aW=>?_,uc w.up λa b fg=>by rw[K.id a,K.id b];exact fg,λy aW=>?_,w.jD,⟨w.aN.1,w.aN.2.1,w.aN.2.2.1,λy aW=>?_⟩,w.lq,λy aW=>?_,λy aW=>?_,λy aW=>?_⟩
 all_goals obtain⟨z,aZ,rfl⟩:=mem y aW
 · rw[K.b z]
   by_cases e:z.e.id=x.e.id
   · obtain rfl:=ZH w.up aZ aa e
     rw[if_pos rfl]
     exact gI rfl
   · rw[if_neg e]
     exact dH (λcH=>e (by rw[ZI w.bs aZ aa cH])) (w.et z aZ)
 · rw[K.bJ z,K.ns z];exact cD.rD (w.ns z aZ) nN
 · rw[K.bd z,K.args z];exact cD.rD (w.az z aZ) nN
 · rw[K.dv z,K.dC z];exact w.fD z aZ
 · rw[K.id z];exact w.ua z aZ
 · rw[K.b z];exact w.aN.2.2.2 z aZ
 · rw[K.b z];exact w.ne z aZ
 · rw[K.bJ z];exact w.wq z aZ
 · rw[K.bd z];exact w.wu z aZ
theorem f_.head{F:Nat->Prop}{h:J}{p a3 bS aG a9 cap given clock:Nat}{M:List Mem}(w:f_ F h p a3 bS aG a9 cap given clock M)(Np Nq:Nat):f_ F (h.set p (some (wo cap Np Nq a3 bS))) p a3 bS aG a9 cap Np Nq M:=by
 have aO:=w.st
 have ab:a3≠p:=λe=>by rw[<-e,w.aA] at aO;cases aO
 have ad:bS≠p:=λe=>by rw[<-e,w.ay] at aO;cases aO
 have ar:∀x∈M,x.b≠p:=λx aa e=>by
  rw[<-e,w.et x aa] at aO
  injection aO with aO;injection aO with _ aO
  exact absurd aO (by decide)
 exact⟨gI rfl,dH ab w.aA,dH ad w.ay,λx aa=>dH (ar x aa) (w.et x aa),λx aa=>cD.rD (w.ns x aa) aO,λx aa=>cD.rD (w.az x aa) aO,w.bs,w.dv,w.fD,w.up,w.ua,w.jD,w.aN,w.lq,w.ne,w.wq,w.wu⟩
structure bT(F:Nat->Prop)(h g:J):Prop where
 n:h.n<=g.n
 get:∀d,d<h.n->F d->g.get d=h.get d
theorem bT.refl(F:Nat->Prop)(h:J):bT F h h:=⟨Nat.le_refl _,λ_ _ _=>rfl⟩
theorem bT.trans{F:Nat->Prop}{h g k:J}(a:bT F h g)(b:bT F g k):bT F h k:=⟨Nat.le_trans a.n b.n,λd ao hf=>(b.get d (Nat.lt_of_lt_of_le ao a.n) hf).trans (a.get d ao hf)⟩
theorem bT.ext{F:Nat->Prop}{h g:J}(e:Ext h.n h g):bT F h g:=⟨e.n,λd ao _=>e.get d ao⟩
theorem bT.set{F:Nat->Prop}{h:J}{b:Nat}{o:Option da}(ae:¬F b):bT F h (h.set b o):=⟨Nat.le_refl _,λd _ hf=>dH (λe=>ae (e▸hf)) rfl⟩
theorem ZL{D:Type}{P:Program}{e:D->I}{el sT:TypeId}(T:kU P (λd=>[e d]) 1 el sT){h:J}{src:I}{q tc:Nat}{d:D}{es:List D}(aT:q<h.n)(al:h.get q=some (.cells [e d] tc .own 0 0))(hs:fP h 1 src=some (es.length,dN (λd=>[e d]) es))(aw:es.length<=100000):
  ∃b cp g,dy P h sT (some sT) (.slice q 0 1 (.exact 1)) src=some (.slice b 0 (d::es).length cp,g)/\Ext h.n h g/\(∀i (af:i<(d::es).length),au g b (0+i*1)=some (e (d::es)[i]))/\(b=q\/h.n<=b)/\b<g.n:=by
 obtain⟨i,af,bw,nj⟩:=T.info
 obtain⟨z,aZ,ia⟩:=T.zero
 by_cases h0:es.length=0
 · have df:es=[]:=List.eq_nil_of_length_eq_zero h0
   subst df
   refine⟨q,.exact 1,h,?_,Ext.refl _ _,λi af=>?_,.inl rfl,aT⟩
   · have ae:Nat.ble (1+0) 1=true:=rfl
     have dp:fP h 1 src=some (0,[]):=hs
     simp only[dy,T.hu,T.fy,af,aZ,bw,dp,ae];rfl
   · have:i=0:=by simp at af;omega
     subst this
     exact aU al rfl
 · obtain⟨k,aq⟩:∃k,es.length=k+1:=⟨es.length-1,by omega⟩
   have g_:kI (1+(k+1)) i.bytes=true:=by
    unfold kI
    have ab:(4*(1+(k+1))+2048)*(i.bytes+1)<=5000000*1001:=Nat.mul_le_mul (by omega) (by omega)
    simp;omega
   have ag:(e d).cQ=true:=by have:=T.cell d;simpa using this
   have iR:kh h el i.bytes 1 (1+(k+1)) z ([e d]++dN (λd=>[e d]) es) 0=some (.slice h.n 0 (1+(k+1)) (.a1 1),h.push (.cells ([e d]++dN (λd=>[e d]) es) el .a1 0 0)):=
    va g_ (by rw[ia];simp) (by rw[List.all_append,x2 T.cell];simp[ag])
   have oc:Nat.ble (1+(k+1)) 1=false:=by
    cases aa:Nat.ble (1+(k+1)) 1 with
    |false=>rfl
    |true=>have:=Nat.le_of_ble_eq_true aa;omega
   have fU:aM.loadCells h q 0 (1*1)=some [e d]:=pb al rfl
   refine⟨h.n,.a1 1,h.push (.cells ([e d]++dN (λd=>[e d]) es) el .a1 0 0),?_,Ext.push (Nat.le_refl _) _,λi af=>?_,.inr (Nat.le_refl _),by simp⟩
   · rw[aq] at hs
     have el:(d::es).length=1+(k+1):=by rw[List.length_cons,aq];omega
     rw[el]
     simp only[dy,T.hu,T.fy,af,aZ,bw,hs,oc,fU,iR]
   · refine nu (fj rfl) ?_
     rw[k3,Nat.zero_add,Nat.mul_one]
     have:[e d]++es.map e=(d::es).map e:=rfl
     rw[this,List.getElem?_map,List.getElem?_eq_getElem af];rfl
def bump(z:Int)(l:List Nat)(y:Mem):Mem:={y with ao:=y.ao+z*(l.count y.e.id:Nat)}
theorem ZM(z:Int)(ab:-1000000000<=z)(ad:z<=1000000000):IntKind.wrap .i64 z=z:=by
 have ay:(2:Int)^64=18446744073709551616:=by rfl
 have bx:(2:Int)^63=9223372036854775808:=by rfl
 by_cases h0:0<=z
 · have e:z %18446744073709551616=z:=by omega
   simp only[IntKind.wrap,IntKind.bits,IntKind.signed,ay,bx,e,Bool.true_and,decide_eq_true_eq,Nat.add_one_sub_one]
   rw[if_neg (by show¬((2:Int)^63<=z);rw[bx];omega)]
 · have e:z %18446744073709551616=z+18446744073709551616:=by omega
   simp only[IntKind.wrap,IntKind.bits,IntKind.signed,ay,bx,e,Bool.true_and,decide_eq_true_eq,Nat.add_one_sub_one]
   rw[if_pos (by show(2:Int)^63<=z+18446744073709551616;rw[bx];omega)]
   omega
theorem ZN{a b:Int}(ab:-1000000000<=a+b)(ad:a+b<=1000000000):arith .add .i64 a b=some (.int .i64 (a+b)):=by
 simp only[arith,ZM _ ab ad]
theorem Nr(m:Nat){F:Nat->Prop}{h:J}{p a3 bS aG a9 cap given clock:Nat}{M:List Mem}{e:cu}{nA:Nat}{ao z:Int}{bJ bd:I}(aZ:z=1\/z=-1)(w:f_ F h p a3 bS aG a9 cap given clock M)(he:h.get nA=some (B1 e ao bJ bd))(uH:t_ 0 h bd e.args)(ff:∀x∈M,-1000000<=x.ao/\x.ao<=1000000)(hlen:e.args.length<=1000)(ZO:nA<h.n):∃g,Y (m+1) (.fn 41) [.ptr p 0,.ptr nA 0,.int .i64 z] h=.ret (.aP []) g/\f_ F g p a3 bS aG a9 cap given clock (M.map (bump z e.parts))/\bT F h g:=by
 obtain⟨H,cm⟩:∃H,H=(h.room 13).set (h.n+5) (some (.cells [tZ e.ret] 32 .own 0 0)):=⟨_,rfl⟩
 have lr:H.n=h.n+13:=by rw[cm];simp
 have dA:Ext h.n h H:=by rw[cm];exact Ext.iQ (by omega) (Ext.room _ _ _)
 have qA:t_ 0 H bd e.args:=uH.mono dA (Nat.le_refl _)
 have Ns:=(dA.get _ ZO).trans he
 obtain⟨b,cp,aj,cw,bA,bB,bt,bH⟩:=ZL B0 (h:=H) (src:=bd) (q:=h.n+5) (tc:=32) (d:=e.ret) (es:=e.args) (by omega) (by rw[cm];exact gI rfl) (cD.src B0 qA) (by omega)
 have tX:Ext h.n h aj:=dA.trans dA.n bA
 have w9:h.n<=b:=by omega
 have hr:(e.ret::e.args).length=e.args.length+1:=rfl
 refine Zr m p nA z h (R:=λx=>∃g,x=.ret (.aP []) g/\f_ F g p a3 bS aG a9 cap given clock (M.map (bump z e.parts))/\bT F h g) ⟨e.ret,aU (h:=h.room 13) he rfl,bd,?_,b,0,(e.ret::e.args).length,cp,aj,?_,?_,cD.sound uH,?_⟩
 · rw[<-cm];exact aU Ns rfl
 · rw[<-cm];exact cw
 · rw[<-cm];exact aU Ns rfl
 refine a4.loop (by kernel_rfl) (λk st=>∃i y Γ,st=⟨Γ,[],.none,y⟩/\cl [(0,.ptr p 0),(2,.int .i64 z),(19,.slice b 0 (e.ret::e.args).length cp),(20,.int .i64 (Int.ofNat (e.ret::e.args).length)),(21,.int .i64 (Int.ofNat i))] Γ/\(e.ret::e.args).length-i=k/\i<=(e.ret::e.args).length/\f_ F y p a3 bS aG a9 cap given clock (M.map (bump z ((e.ret::e.args).take i)))/\bT F h y/\y.get b=aj.get b/\aj.n<=y.n) ?_ (e.ret::e.args).length _ (by omega) ⟨0,aj,_,rfl,⟨rfl,rfl,rfl,rfl,rfl,trivial⟩,by omega,by omega,?_,bT.ext tX,rfl,Nat.le_refl _⟩
 rotate_left
 · have df:M.map (bump z ((e.ret::e.args).take 0))=M:=by
     have:∀y∈M,bump z ((e.ret::e.args).take 0) y=y:=λy _=>by
      unfold bump
      simp
     rw[List.map_congr_left this,List.map_id']
   rw[df];exact w.ext tX
 rintro k st ⟨i,y,Γ,rfl,cP,aq,af,hw,Gx,xk,mW⟩
 have fin:¬i<(e.ret::e.args).length->dQ (λs=>∃j,j<k/\∃i y Γ,s=⟨Γ,[],.none,y⟩/\cl [(0,.ptr p 0),(2,.int .i64 z),(19,.slice b 0 (e.ret::e.args).length cp),(20,.int .i64 (Int.ofNat (e.ret::e.args).length)),(21,.int .i64 (Int.ofNat i))] Γ/\(e.ret::e.args).length-i=j/\i<=(e.ret::e.args).length/\f_ F y p a3 bS aG a9 cap given clock (M.map (bump z ((e.ret::e.args).take i)))/\bT F h y/\y.get b=aj.get b/\aj.n<=y.n) (λcd ct=>∃ax bB,cd=.exit 0/\ct=⟨bB,[],.none,ax⟩/\cl [] bB/\∃g,av.ret (.aP []) ax=.ret (.aP []) g/\f_ F g p a3 bS aG a9 cap given clock (M.map (bump z e.parts))/\bT F h g) (.exit 0) ⟨[(0,.ptr p 0),(2,.int .i64 z),(19,.slice b 0 (e.ret::e.args).length cp),(20,.int .i64 (Int.ofNat (e.ret::e.args).length)),(21,.int .i64 (Int.ofNat i))],[],.none,y⟩:=λi1=>by
  obtain rfl:i=(e.ret::e.args).length:=by omega
  rw[List.take_length] at hw
  exact⟨y,_,rfl,rfl,trivial,y,rfl,hw,Gx⟩
 by_cases i1:i<(e.ret::e.args).length
 rotate_left
 · exact a4.pre (Nj (Y m) p b _ i a3 cp z y ⟨λh=>absurd h i1,fin⟩) cP rfl rfl rfl
 have Nt:au y b (0+i*1)=some (tZ (e.ret::e.args)[i]):=by
  rw[<-bB i i1]
  unfold au;rw[xk]
 have snoc:∀q:Nat,((e.ret::e.args).take (i+1)).count q=((e.ret::e.args).take i).count q+(if(e.ret::e.args)[i]=q then 1 else 0):=λq=>by
  rw[List.take_succ_eq_append_getElem i1,List.count_append,List.count_singleton]
  congr 1
  simp[beq_iff_eq]
 by_cases hex:∃x∈M,x.e.id=(e.ret::e.args)[i]
 · obtain⟨x,aa,qI⟩:=hex
   have jP:bump z ((e.ret::e.args).take i) x∈M.map (bump z ((e.ret::e.args).take i)):=List.mem_map.2 ⟨x,aa,rfl⟩
   have er:=wk hw.aA hw.up jP false
   have o3:=hw.et _ jP
   obtain⟨iP,fw⟩:=ff x aa
   have ag:((e.ret::e.args).take i).count x.e.id<=1001:=by
    have ab:=List.count_le_length (a:=x.e.id) (l:=(e.ret::e.args).take i)
    rw[List.length_take] at ab
    omega
   obtain⟨c,xn⟩:∃c,c=((e.ret::e.args).take i).count x.e.id:=⟨_,rfl⟩
   rw[<-xn] at ag
   have aB:(bump z ((e.ret::e.args).take i) x).ao=x.ao+z*(c:Nat):=by rw[xn];rfl
   have hs:=hw.fm jP (f:=λy=>{y with ao:=y.ao+z}) ⟨λ_=>rfl,λ_=>rfl,λ_=>rfl,λ_=>rfl,λ_=>rfl,λ_=>rfl,λ_=>rfl,λ_=>rfl,λ_=>rfl⟩
   have gT:ma (bump z ((e.ret::e.args).take i) x).e.id (λy=>{y with ao:=y.ao+z}) (M.map (bump z ((e.ret::e.args).take i)))=M.map (bump z ((e.ret::e.args).take (i+1))):=by
    unfold ma
    rw[List.map_map]
    refine List.map_congr_left λy _=>?_
    show(if y.e.id=x.e.id then{bump z ((e.ret::e.args).take i) y with ao:=(bump z ((e.ret::e.args).take i) y).ao+z} else bump z ((e.ret::e.args).take i) y)=bump z ((e.ret::e.args).take (i+1)) y
    unfold bump
    rw[snoc y.e.id]
    by_cases aW:y.e.id=x.e.id
    · rw[if_pos aW,if_pos (by rw[aW,qI])]
      simp only[Mem.mk.injEq,true_and,and_true]
      rw[Int.natCast_add,Int.mul_add]
      simp;omega
    · rw[if_neg aW,if_neg (by rw[<-qI];exactλe=>aW e.symm)]
      simp
   rw[gT] at hs
   have CZ:(bump z ((e.ret::e.args).take i) x).b=x.b:=rfl
   have acZ:x.b<h.n:=w.aN.2.2.2 x aa
   have mn:-1000000000<=(bump z ((e.ret::e.args).take i) x).ao+z/\(bump z ((e.ret::e.args).take i) x).ao+z<=1000000000:=by
    rw[aB]
    rcases aZ with rfl|rfl<;>omega
   refine a4.pre (Nj (Y m) p b _ i a3 cp z y ⟨λ_=>⟨i1,_,Nt,aU hw.st rfl,x.b,?_,_,aU o3 rfl,_,ZN mn.1 mn.2,rfl,_,gJ o3 rfl rfl,by omega,_,(by show _<k;omega),i+1,_,_,rfl,⟨rfl,rfl,rfl,rfl,rfl,trivial⟩,rfl,by omega,hs,Gx.trans (bT.set (b:=x.b) (w.ne x aa)),?_,by simpa using mW⟩,λh=>absurd i1 h⟩) cP rfl rfl rfl
   · rw[<-qI];exact er
   · exact(dH (by omega) rfl).trans xk
 · have n7:∀x∈M.map (bump z ((e.ret::e.args).take i)),x.e.id≠(e.ret::e.args)[i]:=λx aa e=>by
     obtain⟨y,aW,rfl⟩:=List.mem_map.1 aa
     exact hex ⟨y,aW,e⟩
   have gT:M.map (bump z ((e.ret::e.args).take (i+1)))=M.map (bump z ((e.ret::e.args).take i)):=by
    refine List.map_congr_left λy aW=>?_
    unfold bump
    rw[snoc y.e.id,if_neg λe=>hex ⟨y,aW,e.symm⟩]
    simp
   refine a4.pre (Zs (Y m) p b _ i a3 cp z y ⟨λ_=>⟨i1,_,Nt,aU hw.st rfl,Nc hw.aA n7 false,by omega,_,(by show _<k;omega),i+1,_,_,rfl,⟨rfl,rfl,rfl,rfl,rfl,trivial⟩,rfl,by omega,by rw[gT];exact hw,Gx,xk,mW⟩,λh=>absurd i1 h⟩) cP rfl rfl rfl
end Go.Proofs.dj
