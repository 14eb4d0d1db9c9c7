/-
  PROVED HERE: contracts of functions (Dj). No condition beside each statement's own.
-/
import Derived.Test.YtjkomfonmcmgdaaDoorDh
import Derived.Test.YtjkomfonmcmgdaaDoorSxa
import Derived.Test.YtjkomfonmcmgdaaDoorProg
import Derived.Test.YtjkomfonmcmgdaaDoorDi
set_option linter.unusedVariables false
set_option linter.unusedSimpArgs false
set_option maxRecDepth 100000
set_option maxHeartbeats 1000000
namespace Go.Proofs.hJ
open Go a8 Go.Proofs gp Go.Proofs.hK
def qL{α:Type}(q:α->Bool):List α->Nat->Option (Nat×α)
 |[],_=>none
 |x::l,j=>if q x=true then some (j,x) else qL q l (j+1)
theorem xc{α:Type}{q:α->Bool}:∀{l:List α} {j:Nat},(∀x∈l,q x=false)->qL q l j=none
 |[],_,_=>rfl
 |x::l,j,h=>by
  rw[qL,if_neg (by rw[h x (List.mem_cons_self ..)];simp)]
  exact xc λy aO=>h y (List.mem_cons_of_mem _ aO)
theorem xd{α:Type}{q:α->Bool}{x:α}:∀{l:List α} {j:Nat},x∈l->q x=true->l.Pairwise (λa b=>¬(q a=true/\q b=true))->∃i,qL q l j=some (j+i,x)/\∀(f:α->db),uX i (l.map f)=(l.filter λy=>!q y).map f
 |[],_,h,_,_=>by cases h
 |y::l,j,h,aE,aL=>by
  rw[List.pairwise_cons] at aL
  by_cases aO:q y=true
  · have J:x=y:=by
      rcases List.mem_cons.1 h with h|h
      · exact h
      · exact absurd ⟨aO,aE⟩ (aL.1 x h)
    subst J
    refine⟨0,by rw[qL,if_pos aO];rfl,λf=>?_⟩
    have e:(x::l).filter (λy=>!q y)=l:=by
     rw[List.filter_cons,aO]
     have:l.filter (λy=>!q y)=l:=List.filter_eq_self.2 λz aP=>by
      cases Uc:q z with
      |true=>exact absurd ⟨aO,Uc⟩ (aL.1 z aP)
      |false=>rfl
     simpa using this
    rw[e];rfl
  · have J:x∈l:=by
      rcases List.mem_cons.1 h with h|h
      · rw[h] at aE;exact absurd aE aO
      · exact h
    obtain⟨i,aa,ad⟩:=xd (j:=j+1) J aE aL.2
    refine⟨i+1,by rw[qL,if_neg aO,aa];congr 2;omega,λf=>?_⟩
    have xe:q y=false:=by simpa using aO
    rw[List.map_cons,uX,ad f,List.filter_cons,xe];rfl
theorem pe{α:Type}{P:Program}{h:ab}{kt:TypeId}{k:I}{q:α->Bool}{f:α->db}:∀(l:List α) (j:Nat),(∀x∈l,np P h kt k (f x).key=some (q x))->ij P h kt k (l.map f) j=some ((qL q l j).map λr=>(r.1,(f r.2).val))
 |[],_,_=>rfl
 |x::l,j,hs=>by
  rw[List.map_cons,ij,hs x (List.mem_cons_self ..),qL]
  cases aE:q x with
  |true=>simp
  |false=>
   simp only[Bool.false_eq_true,if_false]
   exact pe l (j+1) λy aO=>hs y (List.mem_cons_of_mem _ aO)
theorem J8(a b:Nat):cW (Int.ofNat a) (Int.ofNat b)=decide (a=b):=by
 by_cases h:a=b
 · rw[qc h,decide_eq_true h]
 · rw[oV h,decide_eq_false h]
def hx(id:Nat):a5:=(List.range 8).map λi=>UInt8.ofNat (id/2^(8*i))
def dI(l:List Nat):a5:=l.flatMap hx
def fe(ns:List a5):a5:=e5 [32] ns
structure Mem where
 e:bI
 b:Nat
 de:Nat
 c9:Nat
 ak:Int
 bZ:I
 bf:I
abbrev z5(e:bI):List I:=[.int .i64 (Int.ofNat e.k),.str e.nm,.str (fe e.ns),.str (dI e.args),.int .u64 (Int.ofNat e.ret)]
abbrev Ud(e:bI)(ak:Int)(bZ bf:I):List I:=[.int .i64 (Int.ofNat e.k),.str e.nm,.str (fe e.ns),.str (dI e.args),.int .u64 (Int.ofNat e.ret),bZ,bf,.int .i64 (Int.ofNat e.pins),.int .i64 ak,.int .u64 (Int.ofNat e.used)]
def gM(x:Mem):db:=⟨.int .u64 (Int.ofNat x.e.id),.ptr x.b 0,x.de⟩
def hZ(x:Mem):db:=⟨.agg (z5 x.e),.int .u64 (Int.ofNat x.e.id),x.c9⟩
def jd(id:Nat)(x:Mem):Bool:=decide (x.e.id=id)
def gr(k:Nat)(nm f p:a5)(r:Nat)(x:Mem):Bool:=decide (k=x.e.k)&&(decide (nm=x.e.nm)&&(decide (f=fe x.e.ns)&&(decide (p=dI x.e.args)&&decide (r=x.e.ret))))
theorem J9(a b c d e:I):hP Tryd.prog 3 [a,b,c,d,e] 0=some a/\hP Tryd.prog 9 [a,b,c,d,e] 1=some b/\hP Tryd.prog 9 [a,b,c,d,e] 2=some c/\hP Tryd.prog 9 [a,b,c,d,e] 3=some d/\hP Tryd.prog 28 [a,b,c,d,e] 4=some e:=⟨by kernel_rfl,by kernel_rfl,by kernel_rfl,by kernel_rfl,by kernel_rfl⟩
def xf:List Field->List (TypeId×Nat)
 |[]=>[]
 |f::l=>(f.type,f.offset)::xf l
theorem J_{P:Program}{E:TypeId->I->I->Option Bool}{xs ys:List I}:∀(b0:List Field) (l:List (TypeId×Nat×I×I×Bool)),(b0.all λf=>!decide (f.name= "_"))=true->xf b0=l.map (λx=>(x.1,x.2.1))->(∀x∈l,hP P x.1 xs x.2.1=some x.2.2.1/\hP P x.1 ys x.2.1=some x.2.2.2.1/\E x.1 x.2.2.1 x.2.2.2.1=some x.2.2.2.2)->eqFields P E xs ys b0=some (l.all λx=>x.2.2.2.2)
 |[],l,_,h,_=>by
  have:l=[]:=by simpa[xf] using h.symm
  subst this;rfl
 |f::b0,[],_,h,_=>by cases h
 |f::b0,⟨bM,cU,gY,eO,nZ⟩::l,aH,h,J=>by
  rw[List.all_cons,Bool.and_eq_true] at aH
  obtain⟨aa,ad,aq⟩:=J _ (List.mem_cons_self ..)
  simp only[xf,List.map_cons,List.cons.injEq,Prod.mk.injEq] at h
  have a3:=J_ b0 l aH.2 h.2 λy aO=>J y (List.mem_cons_of_mem _ aO)
  have ak:decide (f.name= "_")=false:=by simpa using aH.1
  rw[eqFields,ak,h.1.1,h.1.2]
  simp only at aa ad aq
  simp only[aa,ad,aq]
  cases nZ with
  |true=>simp only[a3,List.all_cons,Bool.true_and]
  |false=>rfl
theorem Ue(h:ab)(d a b:Nat):e0 Tryd.prog h (d+1) 3 (.int .i64 (Int.ofNat a)) (.int .i64 (Int.ofNat b))=some (cW (Int.ofNat a) (Int.ofNat b)):=by
 have hu:Tryd.prog.underlying 3=some (.int .i64):=by kernel_rfl
 simp only[e0,hu,if_true]
theorem Uf(h:ab)(d a b:Nat):e0 Tryd.prog h (d+1) 28 (.int .u64 (Int.ofNat a)) (.int .u64 (Int.ofNat b))=some (cW (Int.ofNat a) (Int.ofNat b)):=by
 have hu:Tryd.prog.underlying 28=some (.int .u64):=by kernel_rfl
 simp only[e0,hu,if_true]
theorem Eb(h:ab)(d:Nat)(a b:a5):e0 Tryd.prog h (d+1) 9 (.str a) (.str b)=some (dv a b):=by
 have hu:Tryd.prog.underlying 9=some .string:=by kernel_rfl
 simp only[e0,hu]
theorem Ug(h:ab)(k dA r r':Nat)(a b c cb g7 c':a5):e0 Tryd.prog h 8 58 (.agg [.int .i64 (Int.ofNat k),.str a,.str b,.str c,.int .u64 (Int.ofNat r)]) (.agg [.int .i64 (Int.ofNat dA),.str cb,.str g7,.str c',.int .u64 (Int.ofNat r')])=some (decide (k=dA)&&(decide (a=cb)&&(decide (b=g7)&&(decide (c=c')&&decide (r=r'))))):=by
 have yw:(match Tryd.prog.underlying 58 with|some (.struct _)=>true|_=>false)=true:=by kernel_rfl
 obtain⟨b0,mG⟩:∃b0,Tryd.prog.underlying 58=some (.struct b0):=by
  split at yw
  · rename_i b0 mG;exact⟨b0,mG⟩
  · cases yw
 have bY:Tryd.prog.stoodInHeld 58=false:=by kernel_rfl
 have jl:(match Tryd.prog.underlying 58 with|some (.struct b0)=>b0.toList.all λf=>!decide (f.name= "_")|_=>false)=true:=by kernel_rfl
 have Ka:(match Tryd.prog.underlying 58 with|some (.struct b0)=>xf b0.toList|_=>[])=[(3,0),(9,1),(9,2),(9,3),(28,4)]:=by kernel_rfl
 rw[mG] at jl Ka
 obtain⟨Dl,eH,fB,j4,lT⟩:=J9 (.int .i64 (Int.ofNat k)) (.str a) (.str b) (.str c) (.int .u64 (Int.ofNat r))
 obtain⟨Dm,aV,ba,b1,gy⟩:=J9 (.int .i64 (Int.ofNat dA)) (.str cb) (.str g7) (.str c') (.int .u64 (Int.ofNat r'))
 have e:=J_ (P:=Tryd.prog) (E:=e0 Tryd.prog h 7) (xs:=[.int .i64 (Int.ofNat k),.str a,.str b,.str c,.int .u64 (Int.ofNat r)]) (ys:=[.int .i64 (Int.ofNat dA),.str cb,.str g7,.str c',.int .u64 (Int.ofNat r')]) b0.toList
  [(3,0,.int .i64 (Int.ofNat k),.int .i64 (Int.ofNat dA),cW (Int.ofNat k) (Int.ofNat dA)),(9,1,.str a,.str cb,dv a cb),(9,2,.str b,.str g7,dv b g7),(9,3,.str c,.str c',dv c c'),(28,4,.int .u64 (Int.ofNat r),.int .u64 (Int.ofNat r'),cW (Int.ofNat r) (Int.ofNat r'))] jl Ka (by
    simp only[List.mem_cons,List.not_mem_nil,or_false]
    rintro x (rfl|rfl|rfl|rfl|rfl)
    · exact⟨Dl,Dm,Ue _ _ _ _⟩
    · exact⟨eH,aV,Eb _ _ _ _⟩
    · exact⟨fB,ba,Eb _ _ _ _⟩
    · exact⟨j4,b1,Eb _ _ _ _⟩
    · exact⟨lT,gy,Uf _ _ _ _⟩)
 have ae:∀x y:a5,dv x y=decide (x=y):=λx y=>by
  apply Bool.eq_iff_iff.2
  rw[nF];simp
 simp only[List.all_cons,List.all_nil,J8,ae,Bool.and_true] at e
 rw[<-e]
 have key:∀xs ys:List I,e0 Tryd.prog h (7+1) 58 (.agg xs) (.agg ys)=eqFields Tryd.prog (e0 Tryd.prog h 7) xs ys b0.toList:=λxs ys=>by
  simp only[e0,mG,bY]
 exact key _ _
theorem xg:Tryd.prog.underlying 52=some (.map 28 56):=by kernel_rfl
theorem z6:Tryd.prog.underlying 53=some (.map 58 28):=by kernel_rfl
theorem z7(id:Nat):kz Tryd.prog 28 (.int .u64 (Int.ofNat id))=true:=by kernel_rfl
theorem z8(k r:Nat)(a b c:a5):kz Tryd.prog 58 (.agg [.int .i64 (Int.ofNat k),.str a,.str b,.str c,.int .u64 (Int.ofNat r)])=true:=by kernel_rfl
theorem z9(h:ab)(id:Nat)(x:Mem):np Tryd.prog h 28 (.int .u64 (Int.ofNat id)) (gM x).key=some (jd id x):=by
 show some (cW (Int.ofNat id) (Int.ofNat x.e.id))=some (decide (x.e.id=id))
 rw[J8];congr 1;exact decide_eq_decide.2 eq_comm
theorem z_(h:ab)(k r:Nat)(a b c:a5)(x:Mem):np Tryd.prog h 58 (.agg [.int .i64 (Int.ofNat k),.str a,.str b,.str c,.int .u64 (Int.ofNat r)]) (hZ x).key=some (gr k a b c r x):=by
 unfold np hZ z5
 simp only
 rw[Ug];rfl
abbrev ux(M:List Mem):Prop:=M.Pairwise λa b=>a.e.id<b.e.id
theorem Kb{M:List Mem}(aL:ux M)(id:Nat):M.Pairwise (λa b=>¬(jd id a=true/\jd id b=true)):=aL.imp λ{a b} eA ⟨aa,ad⟩=>by
 have aa:=of_decide_eq_true aa
 have ad:=of_decide_eq_true ad
 omega
theorem sr{h:ab}{m c:Nat}{M:List Mem}(hm:h.get m=some (.map (M.map gM) c))(aL:ux M){x:Mem}(J:x∈M)(ok:Bool):gv Tryd.prog h 52 (.map m) (.int .u64 (Int.ofNat x.e.id)) ok=some (if ok=true then .aJ [.ptr x.b 0,.bool true] else .ptr x.b 0):=by
 obtain⟨i,aa,_⟩:=xd (j:=0) (q:=jd x.e.id) J (decide_eq_true rfl) (Kb aL _)
 simp only[gv,xg,z7,hm,pe M 0 λy _=>z9 h x.e.id y,aa,Option.map,nq]
 rfl
theorem Ec{h:ab}{m c:Nat}{M:List Mem}(hm:h.get m=some (.map (M.map gM) c)){id:Nat}(aH:∀x∈M,x.e.id≠id)(ok:Bool):gv Tryd.prog h 52 (.map m) (.int .u64 (Int.ofNat id)) ok=some (if ok=true then .aJ [.br,.bool false] else .br):=by
 have aa:=xc (q:=jd id) (l:=M) (j:=0) λx J=>decide_eq_false (aH x J)
 have aP:dt Tryd.prog 56=some .br:=by kernel_rfl
 simp only[gv,xg,z7,hm,pe M 0 λy _=>z9 h id y,aa,Option.map,nq,aP]
theorem Uh{h:ab}{m c:Nat}{M:List Mem}(hm:h.get m=some (.map (M.map gM) c))(aL:ux M){x:Mem}(J:x∈M):nu Tryd.prog h 52 (.map m) (.int .u64 (Int.ofNat x.e.id))=some (.aJ [],h.set m (some (.map ((M.filter λy=>!jd x.e.id y).map gM) c))):=by
 obtain⟨i,aa,ad⟩:=xd (j:=0) (q:=jd x.e.id) J (decide_eq_true rfl) (Kb aL _)
 simp only[nu,xg,z7,hm,pe M 0 λy _=>z9 h x.e.id y,aa,Option.map,Nat.zero_add,ad]
def ig(ns:List a5):Prop:=∀s∈ns,s≠[]/\∀c∈s,c≠32
theorem Kc:∀{a b x y:a5},(∀c∈a,c≠32)->(∀c∈b,c≠32)->a++32::x=b++32::y->a=b/\x=y
 |[],[],x,y,_,_,h=>⟨rfl,by simpa using h⟩
 |[],c::b,x,y,_,ae,h=>by
  have:c=32:=by simp at h;exact h.1.symm
  exact absurd this (ae c (by simp))
 |c::a,[],x,y,aw,_,h=>by
  have:c=32:=by simp at h;exact h.1
  exact absurd this (aw c (by simp))
 |c::a,d::b,x,y,aw,ae,h=>by
  have aa:c=d/\a++32::x=b++32::y:=by simpa using h
  obtain⟨ad,aq⟩:=Kc (λz aP=>aw z (by simp[aP])) (λz aP=>ae z (by simp[aP])) aa.2
  exact⟨by rw[aa.1,ad],aq⟩
theorem Kd{a y:a5}(aw:∀c∈a,c≠32){b:a5}:a=b++32::y->False:=λh=>aw 32 (by rw[h];simp) rfl
theorem Aa(l:List a5)(x:a5):(x::l).flatMap (λy=>[32]++y)=32::(x++l.flatMap λy=>[32]++y):=by simp
theorem Ke:∀{a b:List a5},ig a->ig b->fe a=fe b->a=b
 |[],[],_,_,_=>rfl
 |[],y::b,_,ae,h=>by
  have aa:[]=y++b.flatMap (λy=>[32]++y):=h
  have:=(ae y (by simp)).1
  cases y with
  |nil=>exact absurd rfl this
  |cons c y=>cases aa
 |x::a,[],aw,_,h=>by
  have aa:x++a.flatMap (λy=>[32]++y)=[]:=h
  have:=(aw x (by simp)).1
  cases x with
  |nil=>exact absurd rfl this
  |cons c y=>cases aa
 |[x],[y],_,_,h=>by
  have aa:x++[]=y++[]:=h
  rw[List.append_nil,List.append_nil] at aa
  rw[aa]
 |[x],y::z::b,aw,ae,h=>by
  have aa:x++[]=y++(z::b).flatMap (λy=>[32]++y):=h
  rw[Aa,List.append_nil] at aa
  exact(Kd (aw x (by simp)).2 aa).elim
 |x::z::a,[y],aw,ae,h=>by
  have aa:x++(z::a).flatMap (λy=>[32]++y)=y++[]:=h
  rw[Aa,List.append_nil] at aa
  exact(Kd (ae y (by simp)).2 aa.symm).elim
 |x::z::a,y::w::b,aw,ae,h=>by
  have aa:x++(z::a).flatMap (λy=>[32]++y)=y++(w::b).flatMap (λy=>[32]++y):=h
  rw[Aa,Aa] at aa
  obtain⟨ad,aq⟩:=Kc (aw x (by simp)).2 (ae y (by simp)).2 aa
  have aC:=Ke (a:=z::a) (b:=w::b) (λs hs=>aw s (List.mem_cons_of_mem _ hs)) (λs hs=>ae s (List.mem_cons_of_mem _ hs)) aq
  rw[ad,aC]
theorem ss(i:Nat):(hx i).length=8:=by simp[hx]
theorem Ui{i j:Nat}(ag:i<18446744073709551616)(aF:j<18446744073709551616)(h:hx i=hx j):i=j:=by
 have key:∀k,k<8->i/2^(8*k) %256=j/2^(8*k) %256:=λk an=>by
  have aa:(hx i)[k]? =(hx j)[k]? :=by rw[h]
  unfold hx at aa
  rw[List.getElem?_map,List.getElem?_map,List.getElem?_range an] at aa
  simp only[Option.map_some,Option.some.injEq] at aa
  have:=congrArg UInt8.toNat aa
  simpa using this
 have pP:=key 0 (by omega)
 have bJ:=key 1 (by omega)
 have bR:=key 2 (by omega)
 have e_:=key 3 (by omega)
 have jK:=key 4 (by omega)
 have iF:=key 5 (by omega)
 have rr:=key 6 (by omega)
 have vL:=key 7 (by omega)
 simp only[Nat.reduceMul,Nat.reducePow] at pP bJ bR e_ jK iF rr vL
 omega
theorem Kf:∀{a b:List Nat},(∀i∈a,i<18446744073709551616)->(∀i∈b,i<18446744073709551616)->dI a=dI b->a=b
 |[],[],_,_,_=>rfl
 |[],j::b,_,_,h=>by
  have:=congrArg List.length h
  simp[dI,ss] at this
  omega
 |i::a,[],_,_,h=>by
  have:=congrArg List.length h
  simp[dI,ss] at this
 |i::a,j::b,aw,ae,h=>by
  have aa:hx i++dI a=hx j++dI b:=h
  obtain⟨ad,aq⟩:=List.append_inj aa (by rw[ss,ss])
  rw[Ui (aw i (by simp)) (ae j (by simp)) ad,Kf (λx J=>aw x (by simp[J])) (λx J=>ae x (by simp[J])) aq]
theorem Kg{x:Mem}{k:Nat}{nm:a5}{ns:List a5}{az:List Nat}{r:Nat}(J:ig x.e.ns)(aH:ig ns)(aa:∀i∈x.e.args,i<18446744073709551616)(ad:∀i∈az,i<18446744073709551616):gr k nm (fe ns) (dI az) r x=x.e.is k nm ns az r:=by
 apply Bool.eq_iff_iff.2
 rw[pc]
 unfold gr
 simp only[Bool.and_eq_true,decide_eq_true_eq]
 constructor
 · rintro⟨b8,cG,dw,gF,gf⟩
   exact⟨b8.symm,cG.symm,(Ke aH J dw).symm,(Kf ad aa gF).symm,gf.symm⟩
 · rintro⟨b8,cG,dw,gF,gf⟩
   exact⟨b8.symm,cG.symm,by rw[dw],by rw[gF],gf.symm⟩
theorem Uj{h:ab}{m c:Nat}{M:List Mem}(hm:h.get m=some (.map (M.map hZ) c)){k r:Nat}{nm f p:a5}(aL:M.Pairwise λa b=>¬(gr k nm f p r a=true/\gr k nm f p r b=true)){x:Mem}(J:x∈M)(aE:gr k nm f p r x=true):gv Tryd.prog h 53 (.map m) (.agg [.int .i64 (Int.ofNat k),.str nm,.str f,.str p,.int .u64 (Int.ofNat r)]) true=some (.aJ [.int .u64 (Int.ofNat x.e.id),.bool true]):=by
 obtain⟨i,aa,_⟩:=xd (j:=0) (q:=gr k nm f p r) J aE aL
 simp only[gv,z6,z8,hm,pe M 0 λy _=>z_ h k r nm f p y,aa,Option.map,nq]
 rfl
theorem Uk{h:ab}{m c:Nat}{M:List Mem}(hm:h.get m=some (.map (M.map hZ) c)){k r:Nat}{nm f p:a5}(aH:∀x∈M,gr k nm f p r x=false):gv Tryd.prog h 53 (.map m) (.agg [.int .i64 (Int.ofNat k),.str nm,.str f,.str p,.int .u64 (Int.ofNat r)]) true=some (.aJ [.int .u64 (Int.ofNat 0),.bool false]):=by
 have aa:=xc (q:=gr k nm f p r) (l:=M) (j:=0) aH
 have aP:dt Tryd.prog 28=some (.int .u64 (Int.ofNat 0)):=by kernel_rfl
 simp only[gv,z6,z8,hm,pe M 0 λy _=>z_ h k r nm f p y,aa,Option.map,nq,aP]
 rfl
theorem Ul{h:ab}{m c:Nat}{M:List Mem}(hm:h.get m=some (.map (M.map hZ) c)){k r:Nat}{nm f p:a5}(aL:M.Pairwise λa b=>¬(gr k nm f p r a=true/\gr k nm f p r b=true)){x:Mem}(J:x∈M)(aE:gr k nm f p r x=true):nu Tryd.prog h 53 (.map m) (.agg [.int .i64 (Int.ofNat k),.str nm,.str f,.str p,.int .u64 (Int.ofNat r)])=some (.aJ [],h.set m (some (.map ((M.filter λy=>!gr k nm f p r y).map hZ) c))):=by
 obtain⟨i,aa,ad⟩:=xd (j:=0) (q:=gr k nm f p r) J aE aL
 simp only[nu,z6,z8,hm,pe M 0 λy _=>z_ h k r nm f p y,aa,Option.map,Nat.zero_add,ad]
theorem Um(m:Nat)(v:I)(h:ab){R:a7->Prop}(H:∃aM:Nat,cr Tryd.prog h 40 v=some (.int .i64 (.ofNat aM))/\aM=0/\R (.ret (.str []) h)):
  R (Y (m+1) (.fn 27) [v,.str [32]] h):=
 dq (intr:=b5) [(1013,.t)] [(0,.o v),(1,.v (.str [32]))] Tryd.func27 (by kernel_rfl) (by kernel_rfl) (by kernel_rfl) rfl (Eq.mp (by kernel_rfl) H)
theorem Un(m b off N:Nat)(cp:c7)(h:ab){R:a7->Prop}(H:¬N=0/\(N=1->0<N/\∃s1:List UInt8,aB h b (off+0*1)=some (.str s1)/\R (.ret (.str s1) h))/\(¬N=1->(0<1->(1<=N/\N<9223372036854775808)/\∃aM:Nat,arith .quo .i64 (.ofNat 9223372036854775807) (.ofNat (N-1))=some (.int .i64 (.ofNat aM))/\¬aM<=1/\(1<=N/\N<9223372036854775808)/\1*(N-1)<9223372036854775808/\0+1*(N-1)<9223372036854775808/\a4 Tryd.prog Tryd.f27 (Y m) [1,1,1,1,0,1,0] (au.mk [(0,.slice b off N cp),(1,.str [32]),(5,.int .i64 (.ofNat (0+1*(N-1)))),(39,.slice b off N cp),(40,.int .i64 (.ofNat N)),(41,.int .i64 (.ofNat 0))] [] .none h) (λca ck=>∃bo:Nat,∃al:ab,∃bW:Env,ca=.exit 1/\ck=au.mk bW [] .none al/\cd [(0,.slice b off N cp),(1,.str [32]),(5,.int .i64 (.ofNat bo))] bW/\∃aA:ab,(Y m) (.fn 47) [.ptr al.n 0,.int .i64 (.ofNat bo)] (ab.push al (.cells [.br,.bd] 70 .own 0 0))=.ret (.aJ []) aA/\0<N/\∃s2:List UInt8,aB aA b (off+0*1)=some (.str s2)/\∃bF:Nat,∃v1:I,∃aU:ab,(Y m) (.fn 25) [.ptr al.n 0,.str s2] aA=.ret (.aJ [.int .i64 (.ofNat bF),v1]) aU/\∃b4:Nat,∃cy:Nat,∃cO:Nat,∃aT:c7,ec Tryd.prog aU 40 (.slice b off N cp) (some (.int .i64 (.ofNat 1))) none none=some (.slice b4 cy cO aT)/\a4 Tryd.prog Tryd.f27 (Y m) [1,1,1,1,1,1,1,1,0,1,0] (au.mk [(1,.str [32]),(8,.ptr al.n 0),(63,.slice b4 cy cO aT),(64,.int .i64 (.ofNat cO)),(65,.int .i64 (.ofNat 0))] [] .none aU) (λca ck=>∃di:Nat,∃bB:ab,∃cM:Env,ca=.exit 3/\ck=au.mk cM [] .none bB/\cd [(8,.ptr di 0)] cM/\∃cq:List UInt8,∃bO:ab,(Y m) (.fn 28) [.ptr di 0] bB=.ret (.str cq) bO/\R (.ret (.str cq) bO))))/\(¬0<1->a4 Tryd.prog Tryd.f27 (Y m) [1,1,1,1,0,1,0] (au.mk [(0,.slice b off N cp),(1,.str [32]),(5,.int .i64 (.ofNat 0)),(39,.slice b off N cp),(40,.int .i64 (.ofNat N)),(41,.int .i64 (.ofNat 0))] [] .none h) (λca ck=>∃fu:Nat,∃dK:ab,∃eW:Env,ca=.exit 1/\ck=au.mk eW [] .none dK/\cd [(0,.slice b off N cp),(1,.str [32]),(5,.int .i64 (.ofNat fu))] eW/\∃fq:ab,(Y m) (.fn 47) [.ptr dK.n 0,.int .i64 (.ofNat fu)] (ab.push dK (.cells [.br,.bd] 70 .own 0 0))=.ret (.aJ []) fq/\0<N/\∃b9:List UInt8,aB fq b (off+0*1)=some (.str b9)/\∃gJ:Nat,∃v2:I,∃gT:ab,(Y m) (.fn 25) [.ptr dK.n 0,.str b9] fq=.ret (.aJ [.int .i64 (.ofNat gJ),v2]) gT/\∃fT:Nat,∃ib:Nat,∃iw:Nat,∃bp:c7,ec Tryd.prog gT 40 (.slice b off N cp) (some (.int .i64 (.ofNat 1))) none none=some (.slice fT ib iw bp)/\a4 Tryd.prog Tryd.f27 (Y m) [1,1,1,1,1,1,1,1,0,1,0] (au.mk [(1,.str [32]),(8,.ptr dK.n 0),(63,.slice fT ib iw bp),(64,.int .i64 (.ofNat iw)),(65,.int .i64 (.ofNat 0))] [] .none gT) (λca ck=>∃o9:Nat,∃kY:ab,∃jb:Env,ca=.exit 3/\ck=au.mk jb [] .none kY/\cd [(8,.ptr o9 0)] jb/\∃cg:List UInt8,∃m7:ab,(Y m) (.fn 28) [.ptr o9 0] kY=.ret (.str cg) m7/\R (.ret (.str cg) m7)))))):
  R (Y (m+1) (.fn 27) [.slice b off N cp,.str [32]] h):=
 dq (intr:=b5) [(1013,.f),(1029,.f),(63,.a9 .im),(4001,.hH [0,1,5,39,40,41] [(.exit 1,[(0,.is (.slice b off N cp)),(1,.is (.str [32])),(5,.n .i64)])]),(4003,.hH [1,8,63,64,65] [(.exit 3,[(8,.p)])])] [(0,.v (.slice b off N cp)),(1,.v (.str [32]))] Tryd.func27 (by kernel_rfl) (by kernel_rfl) (by kernel_rfl) rfl (Eq.mp (by kernel_rfl) H)
theorem Uo(call:bt)(b off N i n:Nat)(cp:c7)(h:ab){Q:bk->au->Prop}(H:(i<N->i<N/\∃s1:List UInt8,aB h b (off+i*1)=some (.str s1)/\(n<=9223372036854775807/\9223372036854775807<9223372036854775808)/\¬9223372036854775807-n<List.length s1/\n+List.length s1<9223372036854775808/\i+1<9223372036854775808/\Q .nrm (au.mk [(0,.slice b off N cp),(1,.str [32]),(5,.int .i64 (.ofNat (n+List.length s1))),(39,.slice b off N cp),(40,.int .i64 (.ofNat N)),(41,.int .i64 (.ofNat (i+1)))] [] .none h))/\(¬i<N->Q (.exit 1) (au.mk [(0,.slice b off N cp),(1,.str [32]),(5,.int .i64 (.ofNat n)),(39,.slice b off N cp),(40,.int .i64 (.ofNat N)),(41,.int .i64 (.ofNat i))] [] .none h))):
  a4 Tryd.prog Tryd.f27 call [1,1,1,1,0,1,0,0] ⟨[(0,.slice b off N cp),(1,.str [32]),(5,.int .i64 (.ofNat n)),(39,.slice b off N cp),(40,.int .i64 (.ofNat N)),(41,.int .i64 (.ofNat i))],[],.none,h⟩ Q:=
 dZ [(1049,.f)] [0,1,5,39,40,41] [(0,.v (.slice b off N cp)),(1,.v (.str [32])),(5,.v (.int .i64 (.ofNat n))),(39,.v (.slice b off N cp)),(40,.v (.int .i64 (.ofNat N))),(41,.v (.int .i64 (.ofNat i)))] rfl (Eq.mp (by kernel_rfl) H)
theorem Up(call:bt)(w b off N i:Nat)(cp:c7)(h:ab){Q:bk->au->Prop}(H:(i<N->i<N/\∃s1:List UInt8,aB h b (off+i*1)=some (.str s1)/\∃aM:Nat,∃v1:I,∃al:ab,call (.fn 25) [.ptr w 0,.str [32]] h=.ret (.aJ [.int .i64 (.ofNat aM),v1]) al/\∃bo:Nat,∃v2:I,∃aA:ab,call (.fn 25) [.ptr w 0,.str s1] al=.ret (.aJ [.int .i64 (.ofNat bo),v2]) aA/\i+1<9223372036854775808/\Q .nrm (au.mk [(1,.str [32]),(8,.ptr w 0),(63,.slice b off N cp),(64,.int .i64 (.ofNat N)),(65,.int .i64 (.ofNat (i+1)))] [] .none aA))/\(¬i<N->Q (.exit 3) (au.mk [(1,.str [32]),(8,.ptr w 0),(63,.slice b off N cp),(64,.int .i64 (.ofNat N)),(65,.int .i64 (.ofNat i))] [] .none h))):
  a4 Tryd.prog Tryd.f27 call [1,1,1,1,1,1,1,1,0,1,0,0] ⟨[(1,.str [32]),(8,.ptr w 0),(63,.slice b off N cp),(64,.int .i64 (.ofNat N)),(65,.int .i64 (.ofNat i))],[],.none,h⟩ Q:=
 dZ [] [1,8,63,64,65] [(1,.v (.str [32])),(8,.v (.ptr w 0)),(63,.v (.slice b off N cp)),(64,.v (.int .i64 (.ofNat N))),(65,.v (.int .i64 (.ofNat i)))] rfl (Eq.mp (by kernel_rfl) H)
theorem Uq(m b n:Nat)(h:ab){R:a7->Prop}(H:∃al:ab,(Y m) (.fn 46) [.ptr b 0] h=.ret (.aJ []) al/\¬n<0/\∃v1:I,aB (al.room 13) b (0+1)=some v1/\∃aM:Nat,sO Tryd.prog 22 v1=some (.int .i64 (.ofNat aM))/\∃v2:I,aB (al.room 13) b (0+1)=some v2/\∃bo:Nat,cr Tryd.prog (al.room 13) 22 v2=some (.int .i64 (.ofNat bo))/\(bo<=aM/\aM<9223372036854775808)/\I.sound v1=true/\I.sound v2=true/\aM-bo<n/\∃aA:ab,(Y m) (.fn 70) [.ptr b 0,.int .i64 (.ofNat n)] (al.room 13)=.ret (.aJ []) aA/\R (.ret (.aJ []) aA)):
  R (Y (m+1) (.fn 47) [.ptr b 0,.int .i64 (.ofNat n)] h):=
 dq (intr:=b5) [(1007,.f),(1021,.t)] [(0,.v (.ptr b 0)),(1,.v (.int .i64 (.ofNat n)))] Tryd.func47 (by kernel_rfl) (by kernel_rfl) (by kernel_rfl) rfl (Eq.mp (by kernel_rfl) H)
theorem Ur(m b n:Nat)(h:ab){R:a7->Prop}(H:∃v1:I,aB (h.room 16) b (0+1)=some v1/\∃aM:Nat,sO Tryd.prog 22 v1=some (.int .i64 (.ofNat aM))/\2*aM<9223372036854775808/\2*aM+n<9223372036854775808/\∃bo:Nat,∃bF:Nat,∃b4:Nat,∃aT:c7,∃al:ab,(Y m) (.fn 79) [.int .i64 (.ofNat (2*aM+n))] (h.room 16)=.ret (.slice bo bF b4 aT) al/\∃v2:I,aB al b (0+1)=some v2/\∃cy:Nat,cr Tryd.prog al 22 v2=some (.int .i64 (.ofNat cy))/\∃eE:I,ec Tryd.prog al 22 (.slice bo bF b4 aT) none (some (.int .i64 (.ofNat cy))) none=some eE/\I.sound v1=true/\I.sound v2=true/\aB (h.room 16) b (0+1)=some v2/\I.sound eE=true/\I.sound eE=true/\∃v4:I,aB al b (0+1)=some v4/\∃cO:Nat,∃aA:ab,sP Tryd.prog al 22 eE v4=some (.int .i64 (.ofNat cO),aA)/\I.cw eE=true/\∃aU:ab,a8.storeCells aA b (0+1) [eE]=some aU/\R (.ret (.aJ []) aU)):
  R (Y (m+1) (.fn 70) [.ptr b 0,.int .i64 (.ofNat n)] h):=
 dq (intr:=b5) [(13,.a9 .im)] [(0,.v (.ptr b 0)),(1,.v (.int .i64 (.ofNat n)))] Tryd.func70 (by kernel_rfl) (by kernel_rfl) (by kernel_rfl) rfl (Eq.mp (by kernel_rfl) H)
theorem Us(m id:Nat)(h:ab){R:a7->Prop}(H:∃v1:I,∃al:ab,yO Tryd.prog h 22 (.int .i64 (.ofNat 8)) (.int .i64 (.ofNat 8))=some (v1,al)/\∃aM:Nat,cr Tryd.prog al 22 v1=some (.int .i64 (.ofNat aM))/\a4 Tryd.prog Tryd.f26 (Y m) [1,1,0,1,0] (au.mk [(0,.int .u64 (.ofNat id)),(3,v1),(7,.int .i64 (.ofNat aM)),(8,.int .i64 (.ofNat 0))] [] .none al) (λca ck=>∃bo:Nat,∃bF:Nat,∃b4:Nat,∃aT:c7,∃aA:ab,∃bW:Env,ca=.exit 0/\ck=au.mk bW [] .none aA/\cd [(3,.slice bo bF b4 aT)] bW/\∃s1:List UInt8,e8 Tryd.prog 22 9 (.slice bo bF b4 aT) aA=fW.val (.str s1) aA/\R (.ret (.str s1) aA))):
  R (Y (m+1) (.fn 26) [.int .u64 (.ofNat id)] h):=
 dq (intr:=b5) [(4000,.hH [0,3,7,8] [(.exit 0,[(3,.im)])])] [(0,.v (.int .u64 (.ofNat id)))] Tryd.func26 (by kernel_rfl) (by kernel_rfl) (by kernel_rfl) rfl (Eq.mp (by kernel_rfl) H)
theorem Ut(call:bt)(id b i:Nat)(cp:c7)(h:ab){Q:bk->au->Prop}(H:(i<8->8*i<9223372036854775808/\∃aM:Nat,pq .shr .u64 (.ofNat id) (.ofNat (8*i))=some (.int .u64 (.ofNat aM))/\∃bo:Nat,e8 Tryd.prog 28 5 (.int .u64 (.ofNat aM)) h=fW.val (.int .u8 (.ofNat bo)) h/\i<8/\∃al:ab,a8.storeCells h b (0+i*1) [.int .u8 (.ofNat bo)]=some al/\i+1<9223372036854775808/\Q .nrm (au.mk [(0,.int .u64 (.ofNat id)),(3,.slice b 0 8 cp),(7,.int .i64 (.ofNat 8)),(8,.int .i64 (.ofNat (i+1)))] [] .none al))/\(¬i<8->Q (.exit 0) (au.mk [(0,.int .u64 (.ofNat id)),(3,.slice b 0 8 cp),(7,.int .i64 (.ofNat 8)),(8,.int .i64 (.ofNat i))] [] .none h))):
  a4 Tryd.prog Tryd.f26 call [1,1,0,1,0,0] ⟨[(0,.int .u64 (.ofNat id)),(3,.slice b 0 8 cp),(7,.int .i64 (.ofNat 8)),(8,.int .i64 (.ofNat i))],[],.none,h⟩ Q:=
 dZ [(16,.a9 (.n .u64)),(17,.a9 (.n .u8))] [0,3,7,8] [(0,.v (.int .u64 (.ofNat id))),(3,.v (.slice b 0 8 cp)),(7,.v (.int .i64 (.ofNat 8))),(8,.v (.int .i64 (.ofNat i)))] rfl (Eq.mp (by kernel_rfl) H)
theorem Uu(m p e:Nat)(z:Int)(h:ab){R:a7->Prop}(H:∃aM:Nat,aB (h.room 13) e (0+0+4)=some (.int .u64 (.ofNat aM))/\∃v1:I,aB (ab.set (h.room 13) (h.n+5) (some (.cells [.int .u64 (.ofNat aM)] 28 .own 0 0))) e (0+6)=some v1/\∃bo:Nat,∃bF:Nat,∃b4:Nat,∃aT:c7,∃al:ab,eh Tryd.prog (ab.set (h.room 13) (h.n+5) (some (.cells [.int .u64 (.ofNat aM)] 28 .own 0 0))) 46 (some 46) (.slice (h.n+5) 0 1 (.exact 1)) v1=some (.slice bo bF b4 aT,al)/\aB (ab.set (h.room 13) (h.n+5) (some (.cells [.int .u64 (.ofNat aM)] 28 .own 0 0))) e (0+0+4)=some (.int .u64 (.ofNat aM))/\I.sound v1=true/\a4 Tryd.prog Tryd.f29 (Y m) [1,0] (au.mk [(0,.ptr p 0),(2,.int .i64 z),(19,.slice bo bF b4 aT),(20,.int .i64 (.ofNat b4)),(21,.int .i64 (.ofNat 0))] [] .none al) (λca ck=>∃aA:ab,∃bW:Env,ca=.exit 0/\ck=au.mk bW [] .none aA/\cd [] bW/\R (.ret (.aJ []) aA))):
  R (Y (m+1) (.fn 29) [.ptr p 0,.ptr e 0,.int .i64 z] h):=
 dq (intr:=b5) [(19,.a9 .im),(4000,.hH [0,2,19,20,21] [(.exit 0,[])])] [(0,.v (.ptr p 0)),(1,.v (.ptr e 0)),(2,.v (.int .i64 z))] Tryd.func29 (by kernel_rfl) (by kernel_rfl) (by kernel_rfl) rfl (Eq.mp (by kernel_rfl) H)
theorem Kh(call:bt)(p b N i m:Nat)(cp:c7)(z:Int)(h:ab){Q:bk->au->Prop}(H:(i<N->i<N/\∃aM:Nat,aB h b (0+i*1)=some (.int .u64 (.ofNat aM))/\aB h p (0+3)=some (.map m)/\∃bo:Nat,gv Tryd.prog h 52 (.map m) (.int .u64 (.ofNat aM)) false=some (.ptr bo 0)/\∃dk:Int,aB h bo (0+8)=some (.int .i64 dk)/\∃eB:Int,arith .add .i64 dk z=some (.int .i64 eB)/\I.cw (.int .i64 eB)=true/\∃al:ab,a8.storeCells h bo (0+8) [.int .i64 eB]=some al/\i+1<9223372036854775808/\Q .nrm (au.mk [(0,.ptr p 0),(2,.int .i64 z),(19,.slice b 0 N cp),(20,.int .i64 (.ofNat N)),(21,.int .i64 (.ofNat (i+1)))] [] .none al))/\(¬i<N->Q (.exit 0) (au.mk [(0,.ptr p 0),(2,.int .i64 z),(19,.slice b 0 N cp),(20,.int .i64 (.ofNat N)),(21,.int .i64 (.ofNat i))] [] .none h))):
  a4 Tryd.prog Tryd.f29 call [1,0,0] ⟨[(0,.ptr p 0),(2,.int .i64 z),(19,.slice b 0 N cp),(20,.int .i64 (.ofNat N)),(21,.int .i64 (.ofNat i))],[],.none,h⟩ Q:=
 dZ [(28,.a9 (.is (.map m))),(30,.a9 .p),(36,.a9 (.z .i64)),(38,.a9 (.z .i64))] [0,2,19,20,21] [(0,.v (.ptr p 0)),(2,.v (.int .i64 z)),(19,.v (.slice b 0 N cp)),(20,.v (.int .i64 (.ofNat N))),(21,.v (.int .i64 (.ofNat i)))] rfl (Eq.mp (by kernel_rfl) H)
theorem Uv(call:bt)(p b N i m:Nat)(cp:c7)(z:Int)(h:ab){Q:bk->au->Prop}(H:(i<N->i<N/\∃aM:Nat,aB h b (0+i*1)=some (.int .u64 (.ofNat aM))/\aB h p (0+3)=some (.map m)/\gv Tryd.prog h 52 (.map m) (.int .u64 (.ofNat aM)) false=some .br/\i+1<9223372036854775808/\Q .nrm (au.mk [(0,.ptr p 0),(2,.int .i64 z),(19,.slice b 0 N cp),(20,.int .i64 (.ofNat N)),(21,.int .i64 (.ofNat (i+1)))] [] .none h))/\(¬i<N->Q (.exit 0) (au.mk [(0,.ptr p 0),(2,.int .i64 z),(19,.slice b 0 N cp),(20,.int .i64 (.ofNat N)),(21,.int .i64 (.ofNat i))] [] .none h))):
  a4 Tryd.prog Tryd.f29 call [1,0,0] ⟨[(0,.ptr p 0),(2,.int .i64 z),(19,.slice b 0 N cp),(20,.int .i64 (.ofNat N)),(21,.int .i64 (.ofNat i))],[],.none,h⟩ Q:=
 dZ [(28,.a9 (.is (.map m))),(30,.a9 (.is .br))] [0,2,19,20,21] [(0,.v (.ptr p 0)),(2,.v (.int .i64 z)),(19,.v (.slice b 0 N cp)),(20,.v (.int .i64 (.ofNat N))),(21,.v (.int .i64 (.ofNat i)))] rfl (Eq.mp (by kernel_rfl) H)
def nb(id i:Nat):List UInt8:=(List.range 8).map λk=>if k<i then UInt8.ofNat (id/2^(8*k)) else 0
theorem Uw(id:Nat):nb id 8=hx id:=by
 unfold nb hx
 refine List.map_congr_left λk an=>?_
 rw[if_pos (List.mem_range.1 an)]
theorem Ux{l:List UInt8}{i:Nat}{c:UInt8}:(cI l).set i (.int .u8 (Int.ofNat c.toNat))=cI (l.set i c):=by
 induction l generalizing i with
 |nil=>rfl
 |cons x l a3=>
  cases i with
  |zero=>rfl
  |succ i=>simp only[cI,List.set_cons_succ,a3]
theorem Uy{id i:Nat}(ag:i<8):(nb id i).set i (UInt8.ofNat (id/2^(8*i)))=nb id (i+1):=by
 apply List.ext_getElem (by simp[nb])
 intro k aa ad
 simp only[nb,List.getElem_set,List.getElem_map,List.getElem_range]
 by_cases h:i=k
 · subst h;simp
 · rw[if_neg h]
   by_cases an:k<i
   · rw[if_pos an,if_pos (by omega)]
   · rw[if_neg an,if_neg (by omega)]
theorem Ed(l:List UInt8):(cI l).length=l.length:=by
 induction l with
 |nil=>rfl
 |cons x l a3=>simp[cI,a3]
theorem Uz(m id:Nat)(h:ab)(gU:id<18446744073709551616):∃g,Y (m+1) (.fn 26) [.int .u64 (Int.ofNat id)] h=.ret (.str (hx id)) g/\Ext h.n h g:=by
 obtain⟨H,cQ⟩:∃H,H=h.push (.cells (cI (nb id 0)) 5 .own 0 0):=⟨_,rfl⟩
 have dU:Ext h.n h H:=by rw[cQ];exact Ext.push (Nat.le_refl _) _
 have ax:yO Tryd.prog h 22 (.int .i64 (Int.ofNat 8)) (.int .i64 (Int.ofNat 8))=some (.slice h.n 0 8 (.exact 8),H):=by rw[cQ];kernel_rfl
 refine Us m id h (R:=λx=>∃g,x=.ret (.str (hx id)) g/\Ext h.n h g) ⟨_,H,ax,8,rfl,?_⟩
 refine a4.loop (by kernel_rfl) (λk st=>∃i y Γ,st=⟨Γ,[],.none,y⟩/\cd [(0,.int .u64 (Int.ofNat id)),(3,.slice h.n 0 8 (.exact 8)),(7,.int .i64 (Int.ofNat 8)),(8,.int .i64 (Int.ofNat i))] Γ/\8-i=k/\i<=8/\Ext h.n h y/\y.get h.n=some (.cells (cI (nb id i)) 5 .own 0 0)) ?_ 8 _ (by omega) ⟨0,H,_,rfl,⟨rfl,rfl,rfl,rfl,trivial⟩,by omega,by omega,dU,by rw[cQ];exact fI rfl⟩
 rintro k st ⟨i,y,Γ,rfl,cR,an,ag,aO,aj⟩
 have si:(nb id i).length=8:=by simp[nb]
 refine a4.pre (Ut (Y m) id h.n i (.exact 8) y ⟨λi1=>?_,λi1=>?_⟩) cR rfl rfl rfl
 · have a9:pq .shr .u64 (Int.ofNat id) (Int.ofNat (8*i))=some (.int .u64 (Int.ofNat (id/2^(8*i)))):=by
     have aa:¬(Int.ofNat (8*i)<0):=Int.not_lt.2 (Int.natCast_nonneg _)
     have ad:min (Int.ofNat (8*i)).toNat (IntKind.bits .u64)=8*i:=by
      show min (8*i) 64=8*i
      omega
     simp only[pq,if_neg aa,ad]
     have aq:((2:Int)^(8*i))=Int.ofNat (2^(8*i)):=by simp
     rw[aq]
     exact congrArg (λz=>some (I.int .u64 z)) (Int.ofNat_fdiv _ _).symm
   have l0:e8 Tryd.prog 28 5 (.int .u64 (Int.ofNat (id/2^(8*i)))) y=.val (.int .u8 (Int.ofNat (UInt8.ofNat (id/2^(8*i))).toNat)) y:=by
    have e:(UInt8.ofNat (id/2^(8*i))).toNat=id/2^(8*i) %256:=by simp
    rw[e]
    exact CJ (ka:=.u64) (by kernel_rfl) (by kernel_rfl) (wrap_u8 _)
   obtain⟨g,Ee⟩:∃g,g=y.set h.n (some (.cells (cI (nb id (i+1))) 5 .own 0 0)):=⟨_,rfl⟩
   have st:a8.storeCells y h.n (0+i*1) [.int .u8 (Int.ofNat (UInt8.ofNat (id/2^(8*i))).toNat)]=some g:=by
    rw[Ee,<-Uy i1,<-Ux]
    exact gn aj rfl (by rw[show 0+i*1=i by omega];exact wS _ rfl _ i (by rw[Ed,si];exact i1))
   refine⟨by omega,_,a9,_,l0,i1,g,st,by omega,_,(by show _<k;omega),i+1,g,_,rfl,⟨rfl,rfl,rfl,rfl,trivial⟩,rfl,by omega,?_,by rw[Ee];exact ft rfl⟩
   rw[Ee];exact Ext.hG (Nat.le_refl _) aO
 · obtain rfl:i=8:=by omega
   rw[Uw] at aj
   have l0:e8 Tryd.prog 22 9 (.slice h.n 0 8 (.exact 8)) y=.val (.str (hx id)) y:=by
    have vn:Tryd.prog.underlying 22=some (.slice 5):=by kernel_rfl
    have s9:Tryd.prog.underlying 9=some .string:=by kernel_rfl
    have UA:Tryd.prog.underlying 5=some (.int .u8):=by kernel_rfl
    have mm:a8.loadCells y h.n 0 8=some (cI (hx id)):=by
     refine oW aj ?_
     have:=HR (cI (hx id)) [] 8 (by rw[Ed,ss])
     rw[List.append_nil] at this
     exact this
    simp only[e8,vn,s9,UA,mm,za]
   exact⟨h.n,0,8,.exact 8,y,_,rfl,rfl,⟨rfl,trivial⟩,hx id,l0,y,rfl,aO⟩
theorem UB(n b B:Nat)(h:ab)(v:I)(w s:List UInt8)(aj:h.get b=some (.cells [.ptr b 0,v] 70 .own 0 0))(zK:nS B 5 h v w)(jy:b<B)(TE:B<=h.n)(cF:w++s≠[])(ar:w.length+s.length<=1000000000):∃ao,Y (n+3) (.fn 25) [.ptr b 0,.str s] h=.ret (.aJ [.int .i64 (Int.ofNat s.length),.ea]) ao/\ix B b ao (w++s)/\jP b B h ao:=by
 obtain⟨aa,aT,al,aM,de⟩:=DQ n b h v (by omega) (.inr aj)
 have bn:nS B 5 aa v w:=zK.ext (by omega) λc af _=>de c (by omega)
 obtain⟨i,sk,zL,vX⟩:=JD
 obtain⟨v',ad,b8,cG,dw⟩:=HN (P:=Tryd.prog) (B:=B) (sT:=22) (xT:=some 9) (e:=5) (z:=.int .u8 (Int.ofNat 0)) (by omega) (by kernel_rfl) (by kernel_rfl) sk zL (by kernel_rfl) rfl (JE vX ar) bn
 have aA:=(dw.get b jy).trans al
 have aH:=dw.n
 refine⟨ad.set b (some (.cells [.ptr b 0,v'] 70 .own 0 0)),?_,⟨.ptr b 0,v',ft rfl,.inr rfl,cG.ext (by simp) λc af _=>c5 (by omega) rfl,jy,by simp;omega,λe=>absurd e cF⟩,⟨by simp;omega,λc af kD=>c5 kD ((dw.get c af).trans (de c kD))⟩⟩
 rcases cG with⟨rfl,_⟩|⟨c,r,rfl,_⟩
 · exact fH (intr:=b5) (n:=n+2) (args:=[.ptr b 0,.str s]) Tryd.func25 (by kernel_rfl) rfl (by kernel_rfl) (Jy (Y (n+2)) b s v h ad aa _ aT (a_ al rfl) b8 (gn aA rfl rfl)) (.inl rfl) (by kernel_rfl)
 · exact fH (intr:=b5) (n:=n+2) (args:=[.ptr b 0,.str s]) Tryd.func25 (by kernel_rfl) rfl (by kernel_rfl) (bws (Y (n+2)) b c _ s v h ad aa _ aT (a_ al rfl) b8 (gn aA rfl rfl)) (.inl rfl) (by kernel_rfl)
theorem UC(n m:Nat)(h:ab)(hm:m<=1000000000):Y (n+1) (.fn 79) [.int .i64 (Int.ofNat m)] h=.ret (.slice h.n 0 m (.aS 1)) (h.push (.cells (List.replicate m .bad) 5 .aS 0 0)):=by
 have hle:Nat.ble m 1099511627776=true:=by simp;omega
 have ax:(Tryd.f79).resultTypes[0]? =some 22:=by kernel_rfl
 have av:Tryd.prog.underlying 22=some (.slice 5):=by kernel_rfl
 have bq:(Tryd.f79).body=none:=by kernel_rfl
 have dD:(Tryd.f79).name= "internal/bytealg.MakeNoZero" :=by kernel_rfl
 have iR:b5 79 [.int .i64 (Int.ofNat m)] h=none:=rfl
 have eI:px Tryd.prog Tryd.f79 "internal/bytealg.MakeNoZero" [.int .i64 (Int.ofNat m)] h=some (.slice h.n 0 m (.aS 1),h.push (.cells (List.replicate m .bad) 5 .aS 0 0)):=by
  simp only[px,ax,av,hle];rfl
 show et Tryd.prog b5 (n+1) _ _ _=_
 simp only[et,iR,oq,Tryd.func79,bq,dD,eI]
theorem UD(n b m:Nat)(h:ab)(ae:b<h.n)(aj:h.get b=some (.cells [.br,.bd] 70 .own 0 0))(h0:0<m)(hm:m<=1000000000):∃g c,Y (n+3) (.fn 47) [.ptr b 0,.int .i64 (Int.ofNat m)] h=.ret (.aJ []) g/\g.get b=some (.cells [.ptr b 0,.slice c 0 0 (.aS 1)] 70 .own 0 0)/\nS h.n 5 g (.slice c 0 0 (.aS 1)) []/\jP b h.n h g:=by
 obtain⟨aa,aT,al,aM,de⟩:=DQ n b h .bd ae (.inl aj)
 obtain⟨H,cQ⟩:∃H,H=(aa.room 13).room 16:=⟨_,rfl⟩
 have n6:H.n=aa.n+29:=by rw[cQ];simp
 have qE:H.get b=some (.cells [.ptr b 0,.bd] 70 .own 0 0):=by rw[cQ];exact al
 obtain⟨bU,oc⟩:∃bU,bU=H.push (.cells (List.replicate m .bad) 5 .aS 0 0):=⟨_,rfl⟩
 have Ef:bU.get b=some (.cells [.ptr b 0,.bd] 70 .own 0 0):=by rw[oc];exact lp (by omega) qE
 have Ki:=UC n (0+m) H (by omega)
 obtain⟨dh,xh⟩:∃dh,dh=bU.set b (some (.cells [.ptr b 0,.slice H.n 0 0 (.aS 1)] 70 .own 0 0)):=⟨_,rfl⟩
 have jk:ec Tryd.prog bU 22 (.slice H.n 0 (0+m) (.aS 1)) none (some (.int .i64 (Int.ofNat 0))) none=some (.slice H.n 0 0 (.aS 1)):=zG (E:=5) (by kernel_rfl) (by kernel_rfl) (Nat.zero_le _)
 have UE:sP Tryd.prog bU 22 (.slice H.n 0 0 (.aS 1)) .bd=some (.int .i64 (Int.ofNat 0),bU):=by kernel_rfl
 have UF:Y (n+2) (.fn 70) [.ptr b 0,.int .i64 (Int.ofNat m)] (aa.room 13)=.ret (.aJ []) dh:=by
  rw[Nat.zero_add] at Ki jk
  refine Ur (n+1) b m (aa.room 13) (R:=λx=>x=.ret (.aJ []) dh) ?_
  rw[<-cQ]
  refine⟨.bd,a_ qE rfl,0,rfl,by omega,by omega,H.n,0,m,.aS 1,bU,?_,.bd,a_ Ef rfl,0,rfl,_,jk,rfl,rfl,a_ qE rfl,rfl,rfl,.bd,a_ Ef rfl,0,bU,UE,rfl,dh,by rw[xh];exact gn Ef rfl rfl,rfl⟩
  rw[show 2*0+m=m by omega,oc];exact Ki
 have bF:dh.n=H.n+1:=by rw[xh,oc];rfl
 refine⟨dh,H.n,Uq (n+2) b m h (R:=λx=>x=.ret (.aJ []) dh) ⟨aa,aT,by omega,.bd,a_ (h:=aa.room 13) al rfl,0,rfl,.bd,a_ (h:=aa.room 13) al rfl,0,rfl,by omega,rfl,rfl,by omega,dh,UF,rfl⟩,by rw[xh];exact ft rfl,.inr ⟨H.n,List.replicate m .bad,rfl,?_,by omega,by omega⟩,⟨by omega,λc af kD=>?_⟩⟩
 · rw[xh]
   refine c5 (by omega) ?_
   rw[oc];exact fI rfl
 · rw[xh]
   refine c5 kD ?_
   rw[oc]
   refine lp (by omega) ?_
   rw[cQ];exact de c kD
theorem Eg(c:Nat):∀a b:List a5,eP c (a++b)=eP c a+eP c b
 |[],b=>by rw[eP,List.nil_append];omega
 |x::a,b=>by rw[List.cons_append,eP,Eg c a b,eP];omega
theorem Eh(c:Nat)(l:List a5)(i:Nat):eP c (l.take i)<=eP c l:=by
 have:=Eg c (l.take i) (l.drop i)
 rw[List.take_append_drop] at this
 omega
theorem Ab(l:List a5)(i:Nat):(e5 [32] (l.take i)).length<=eP 1 l:=Nat.le_trans (zC [32] _) (Eh 1 l i)
theorem UG(m:Nat){F:Nat->Prop}{h:ab}{v:I}{ns:List a5}(aD:oa F h v (ns.map .str))(e6:∀b,F b->b<h.n)(aH:∀s∈ns,s≠[])(ar:ns.length<=1000)(bm:eP 1 ns<=1000000):∃g,Y (m+4) (.fn 27) [v,.str [32]] h=.ret (.str (fe ns)) g/\Ext h.n h g:=by
 rcases aD with⟨rfl,e⟩|⟨b,off,cp,rfl,ae,aq,aC,bC,dd⟩
 · obtain rfl:ns=[]:=by simpa using e
   exact⟨h,Um (m+3) .bd h (R:=λx=>x=.ret (.str (fe [])) h) ⟨0,rfl,rfl,rfl⟩,Ext.refl _ _⟩
 have ae:=e6 b ae
 rw[List.length_map] at aC dd⊢
 have ga:∀{x},Ext h.n h x->∀i (ag:i<ns.length),aB x b (off+i*1)=some (.str ns[i]):=λe i ag=>by
  rw[lr e ae (aq i (by rw[List.length_map];exact ag))];simp
 refine Un (m+3) b off ns.length cp h (R:=λx=>∃g,x=.ret (.str (fe ns)) g/\Ext h.n h g) ⟨by omega,λaM=>?_,λaM=>⟨λ_=>?_,λh=>absurd (by omega) h⟩⟩
 · refine⟨aC,_,ga (Ext.refl _ _) 0 aC,h,?_,Ext.refl _ _⟩
   cases ns with
   |nil=>cases aM
   |cons x l=>
    obtain rfl:l=[]:=by simpa using aM
    show _=a7.ret (.str (x++[])) h
    rw[List.append_nil];rfl
 have aE:∃q,arith .quo .i64 (Int.ofNat 9223372036854775807) (Int.ofNat (ns.length-1))=some (.int .i64 (Int.ofNat q))/\¬q<=1:=by
  refine⟨9223372036854775807/(ns.length-1),?_,?_⟩
  · have aa:¬Int.ofNat (ns.length-1)=0:=λh=>by have ad:((ns.length-1:Nat):Int)=0:=h;omega
    have ad:9223372036854775807/(ns.length-1)<9223372036854775808:=Nat.lt_of_le_of_lt (Nat.div_le_self _ _) (by omega)
    simp only[arith]
    rw[if_neg aa]
    have aq:(Int.ofNat 9223372036854775807).tdiv (Int.ofNat (ns.length-1))=((9223372036854775807/(ns.length-1):Nat):Int):=rfl
    rw[aq,oz _ ad]
    rfl
  · have:2<=9223372036854775807/(ns.length-1):=(Nat.le_div_iff_mul_le (by omega)).2 (by omega)
    omega
 obtain⟨q,aV,ba⟩:=aE
 refine⟨⟨by omega,by omega⟩,q,aV,ba,⟨by omega,by omega⟩,by omega,by omega,?_⟩
 refine a4.loop (by kernel_rfl) (λk st=>∃i n Γ,st=⟨Γ,[],.none,h⟩/\cd [(0,.slice b off ns.length cp),(1,.str [32]),(5,.int .i64 (Int.ofNat n)),(39,.slice b off ns.length cp),(40,.int .i64 (Int.ofNat ns.length)),(41,.int .i64 (Int.ofNat i))] Γ/\ns.length-i=k/\i<=ns.length/\0<n/\n<=1000+eP 1 (ns.take i)) ?_ ns.length _ (by omega) ⟨0,_,_,rfl,⟨rfl,rfl,rfl,rfl,rfl,rfl,trivial⟩,by omega,by omega,by omega,by omega⟩
 rintro k st ⟨i,n,Γ,rfl,cR,an,ag,vk,A_⟩
 have tu:=Eh 1 ns i
 refine a4.pre (Uo (Y (m+3)) b off _ i n cp h ⟨λi1=>?_,λi1=>?_⟩) cR rfl rfl rfl
 · have e:eP 1 (ns.take (i+1))=eP 1 (ns.take i)+(ns[i].length+1):=by
     rw[List.take_succ_eq_append_getElem i1,Eg,eP,eP]
   have Yw:=Eh 1 ns (i+1)
   exact⟨i1,_,ga (Ext.refl _ _) i i1,⟨by omega,by omega⟩,by omega,by omega,by omega,_,(by show _<k;omega),i+1,_,_,rfl,⟨rfl,rfl,rfl,rfl,rfl,rfl,trivial⟩,rfl,by omega,by omega,by omega⟩
 · obtain⟨H,cQ⟩:∃H,H=h.push (.cells [.br,.bd] 70 .own 0 0):=⟨_,rfl⟩
   have n6:H.n=h.n+1:=by rw[cQ];rfl
   have dU:Ext h.n h H:=by rw[cQ];exact Ext.push (Nat.le_refl _) _
   obtain⟨g,c,aT,x8,UH,m5⟩:=UD m h.n n H (by omega) (by rw[cQ];exact fI rfl) vk (by omega)
   have UI:=m5.n
   have Ac:∀{x},jP h.n H.n H x->Ext h.n h x:=λe=>⟨by have:=e.n;omega,λd ak=>(e.get d (by omega) (by omega)).trans (dU.get d ak)⟩
   have UJ:ns[0]≠[]:=aH _ (List.getElem_mem aC)
   have cm:(e5 [32] (ns.take 1)).length<=eP 1 ns:=Ab ns 1
   have da:e5 [32] (ns.take 1)=ns[0]:=by
    have:=zy [32] ns (i:=0) aC
    simpa using this
   rw[da] at cm
   obtain⟨aU,ef,Kj,gY⟩:=UB m h.n H.n g (.slice c 0 0 (.aS 1)) [] ns[0] x8 UH (by omega) UI (by simpa using UJ) (by simp;omega)
   rw[List.nil_append] at Kj
   have UK:jP h.n H.n H aU:=m5.trans (Nat.le_refl _) gY
   obtain⟨D7,sq,d1,d2,d3⟩:=T5 (P:=Tryd.prog) (h:=aU) (T:=40) (E:=9) (b:=b) (off:=off) (by kernel_rfl) (by kernel_rfl) aC dd
   obtain⟨rfl,_⟩:=d3 (by omega)
   subst cQ
   refine⟨n,h,_,rfl,rfl,⟨rfl,rfl,rfl,trivial⟩,g,aT,aC,ns[0],ga (Ac m5) 0 aC,_,_,aU,ef,b,_,ns.length-1,sq,d1,?_⟩
   refine a4.loop (by kernel_rfl) (λk st=>∃i y Γ,st=⟨Γ,[],.none,y⟩/\cd [(1,.str [32]),(8,.ptr h.n 0),(63,.slice b (off+1*1) (ns.length-1) sq),(64,.int .i64 (Int.ofNat (ns.length-1))),(65,.int .i64 (Int.ofNat i))] Γ/\ns.length-1-i=k/\i<=ns.length-1/\ix (h.n+1) h.n y (e5 [32] (ns.take (i+1)))/\jP h.n (h.n+1) (h.push (.cells [.br,.bd] 70 .own 0 0)) y) ?_ (ns.length-1) _ (by omega) ⟨0,aU,_,rfl,⟨rfl,rfl,rfl,rfl,rfl,trivial⟩,by omega,by omega,by rw[da];exact Kj,UK⟩
   rintro dA st ⟨j,y,b3,rfl,wV,ek,aF,qB,aO⟩
   refine a4.pre (Up (Y (m+3)) h.n b _ _ j sq y ⟨λfX=>?_,λfX=>?_⟩) wV rfl rfl rfl
   · have bW:=Ab ns (j+1)
     have cM:=Ab ns (j+1+1)
     have av:=zy [32] ns (i:=j+1) (by omega)
     rw[if_pos (by omega)] at av
     rw[av] at cM
     simp only[List.length_append,List.length_cons,List.length_nil] at cM
     obtain⟨hV,cz,UL,bJ⟩:=zJ m h.n (h.n+1) y _ [32] qB (by simp;omega)
     obtain⟨iX,cA,UM,bR⟩:=zJ m h.n (h.n+1) hV _ ns[j+1] UL (by simp;omega)
     refine⟨fX,ns[j+1],?_,_,_,hV,cz,_,_,iX,cA,by omega,_,(by show _<dA;omega),j+1,iX,_,rfl,⟨rfl,rfl,rfl,rfl,rfl,trivial⟩,rfl,by omega,?_,(aO.trans (Nat.le_refl _) bJ.x).trans (Nat.le_refl _) bR.x⟩
     · rw[show off+1*1+j*1=off+(j+1)*1 by omega]
       exact ga (Ac aO) (j+1) (by omega)
     · rw[av];exact UM
   · obtain rfl:j=ns.length-1:=by omega
     have bW:=Ab ns (ns.length-1+1)
     obtain⟨bO,pf,nZ⟩:=JF (m+2) h.n (h.n+1) y _ qB (by omega)
     rw[List.take_of_length_le (by omega)] at pf
     exact⟨h.n,y,_,rfl,rfl,⟨rfl,trivial⟩,fe ns,bO,pf,bO,rfl,⟨by have:=nZ.n;have:=(Ac aO).n;omega,λd ak=>(nZ.get d (by omega)).trans ((Ac aO).get d ak)⟩⟩
abbrev hO(d:Nat):I:=.int .u64 (Int.ofNat d)
abbrev su(B:Nat)(h:ab)(v:I)(l:List Nat):Prop:=cH (λd=>[hO d]) 1 28 B h v l
theorem Ad:kd Tryd.prog (λd=>[hO d]) 1 28 46 where
 hu:=by kernel_rfl
 fb:=by kernel_rfl
 info:=by
  obtain⟨i,ag⟩:=Option.isSome_iff_exists.1 (show(Tryd.prog.info? 28).isSome=true by kernel_rfl)
  refine⟨i,ag,?_,?_⟩
  · have:(Tryd.prog.info? 28).map (·.size)=some 1:=by kernel_rfl
    rw[ag] at this;simpa using this
  · have:(Tryd.prog.info? 28).map (λi=>Nat.ble i.bytes 1000)=some true:=by kernel_rfl
    rw[ag] at this
    exact Nat.le_of_ble_eq_true (by simpa using this)
 zero:=⟨.int .u64 0,by kernel_rfl,rfl⟩
 size:=by kernel_rfl
 len:=λ_=>rfl
 cell:=λ_=>rfl
 pos:=by decide
abbrev uy(cap given clock aR bD:Nat):cX:=.cells [.int .i64 (Int.ofNat cap),.int .u64 (Int.ofNat given),.int .u64 (Int.ofNat clock),.map aR,.map bD] 55 .own 0 0
abbrev uz(e:bI)(ak:Int)(bZ bf:I):cX:=.cells (Ud e ak bZ bf) 60 .own 0 0
structure e7(F:Nat->Prop)(h:ab)(p aR bD aT bp cap given clock:Nat)(M:List Mem):Prop where
 st:h.get p=some (uy cap given clock aR bD)
 ax:h.get aR=some (.map (M.map gM) aT)
 av:h.get bD=some (.map (M.map hZ) bp)
 dz:∀x∈M,h.get x.b=some (uz x.e x.ak x.bZ x.bf)
 ns:∀x∈M,na 0 h x.bZ x.e.ns
 az:∀x∈M,su 0 h x.bf x.e.args
 bs:M.Pairwise λa b=>a.b≠b.b
 de:M.Pairwise λa b=>a.de≠b.de
 iQ:∀x∈M,x.de<aT/\x.c9<bp
 up:ux M
 sv:∀x∈M,0<x.e.id
 nc:aR≠bD
 aY:p<h.n/\aR<h.n/\bD<h.n/\∀x∈M,x.b<h.n
 nd:¬F p/\¬F aR/\¬F bD
 ne:∀x∈M,¬F x.b
 uA:∀x∈M,∀d n cp,x.bZ=.slice d 0 n cp->¬F d
 uB:∀x∈M,∀d n cp,x.bf=.slice d 0 n cp->¬F d
theorem xi{cs:List I}{el:Nat}{e:Nat}:ia e (some (.cells cs el .own 0 0)):=λ_ _ _ h=>by cases h
theorem Kk{es:List db}{c e:Nat}:ia e (some (.map es c)):=λ_ _ _ h=>by cases h
theorem sw{cs:List I}{el e:Nat}{k:hz}{aY up:Nat}(cF:el≠e):ia e (some (.cells cs el k aY up)):=λ_ _ _ h=>by cases h;exact cF rfl
theorem Kl{D:Type}{enc:D->List I}{w el:Nat}{F:Nat->Prop}{h g:ab}{v:I}{ds:List D}(cF:el≠5)(aQ:cH enc w el 0 h v ds)(hf:∀d n cp,v=.slice d 0 n cp->¬F d)(aH:h.n<=g.n)(an:∀d,d<h.n->¬F d->ia 5 (h.get d)->g.get d=h.get d):cH enc w el 0 g v ds:=by
 rcases aQ with aQ|⟨q,rfl,ad,aq,aC,bC⟩
 · exact .inl aQ
 · exact .inr ⟨q,rfl,ad,(an q bC (hf q _ _ rfl) (by rw[aq];exact sw cF)).trans aq,aC,by omega⟩
theorem Km{D:Type}{enc:D->List I}{w el:Nat}{F G:Nat->Prop}{h:ab}{v:I}{ds:List D}(cF:el≠5)(aQ:cH enc w el 0 h v ds)(hf:∀d n cp,v=.slice d 0 n cp->¬F d)(lj:∀d,d<h.n->G d->F d\/¬ia 5 (h.get d)):∀d n cp,v=.slice d 0 n cp->¬G d:=by
 rintro d n cp e aj
 rcases aQ with⟨rfl,_⟩|⟨q,rfl,ad,aq,aC,bC⟩
 · cases e
 · cases e
   rcases lj _ bC aj with h|h
   · exact hf _ _ _ rfl h
   · exact h (by rw[aq];exact sw cF)
theorem e7.move{F G:Nat->Prop}{h g:ab}{p aR bD aT bp cap given clock:Nat}{M:List Mem}(w:e7 F h p aR bD aT bp cap given clock M)(aH:h.n<=g.n)(an:∀d,d<h.n->¬F d->ia 5 (h.get d)->g.get d=h.get d)(lj:∀d,d<h.n->G d->F d\/¬ia 5 (h.get d)):e7 G g p aR bD aT bp cap given clock M:=by
 obtain⟨bW,cM,eW,jb⟩:=w.aY
 obtain⟨f1,f2,f3⟩:=w.nd
 have Ae:∀d,d<h.n->¬F d->ia 5 (h.get d)->¬G d:=λd ak hf ai aj=>(lj d ak aj).elim hf λk=>k ai
 have r1:ia 5 (h.get p):=by rw[w.st];exact xi
 have r2:ia 5 (h.get aR):=by rw[w.ax];exact Kk
 have dJ:ia 5 (h.get bD):=by rw[w.av];exact Kk
 have gj:∀x∈M,ia 5 (h.get x.b):=λx J=>by rw[w.dz x J];exact xi
 have cg:9≠5:=by decide
 have cT:28≠5:=by decide
 exact⟨(an p bW f1 r1).trans w.st,(an aR cM f2 r2).trans w.ax,(an bD eW f3 dJ).trans w.av,λx J=>(an x.b (jb x J) (w.ne x J) (gj x J)).trans (w.dz x J),λx J=>Kl cg (w.ns x J) (w.uA x J) aH an,λx J=>Kl cT (w.az x J) (w.uB x J) aH an,w.bs,w.de,w.iQ,w.up,w.sv,w.nc,⟨by omega,by omega,by omega,λx J=>by have:=jb x J;omega⟩,⟨Ae p bW f1 r1,Ae aR cM f2 r2,Ae bD eW f3 dJ⟩,λx J=>Ae x.b (jb x J) (w.ne x J) (gj x J),λx J=>Km cg (w.ns x J) (w.uA x J) lj,λx J=>Km cT (w.az x J) (w.uB x J) lj⟩
theorem e7.ext{F:Nat->Prop}{h g:ab}{p aR bD aT bp cap given clock:Nat}{M:List Mem}(w:e7 F h p aR bD aT bp cap given clock M)(e:Ext h.n h g):e7 F g p aR bD aT bp cap given clock M:=w.move e.n (λd ak _ _=>e.get d ak) λd _ h=>.inl h
structure uC(f:Mem->Mem):Prop where
 b:∀x,(f x).b=x.b
 de:∀x,(f x).de=x.de
 c9:∀x,(f x).c9=x.c9
 bZ:∀x,(f x).bZ=x.bZ
 bf:∀x,(f x).bf=x.bf
 id:∀x,(f x).e.id=x.e.id
 a9:∀x,z5 (f x).e=z5 x.e
 ns:∀x,(f x).e.ns=x.e.ns
 args:∀x,(f x).e.args=x.e.args
def k0(id:Nat)(f:Mem->Mem)(M:List Mem):List Mem:=M.map λy=>if y.e.id=id then f y else y
theorem uC.ite{f:Mem->Mem}(hf:uC f)(id:Nat):uC λy=>if y.e.id=id then f y else y:=by
 constructor<;>intro x<;>split<;>first|rfl|exact hf.b x|exact hf.de x|exact hf.c9 x|exact hf.bZ x|exact hf.bf x|exact hf.id x|exact hf.a9 x|exact hf.ns x|exact hf.args x
theorem UN{M:List Mem}(h:ux M){a b:Mem}(aw:a∈M)(ae:b∈M)(e:a.e.id=b.e.id):a=b:=by
 induction M with
 |nil=>cases aw
 |cons x l a3=>
  rw[ux,List.pairwise_cons] at h
  rcases List.mem_cons.1 aw with aa|aa
  · rcases List.mem_cons.1 ae with ad|ad
    · rw[aa,ad]
    · have:=h.1 b ad;rw[aa] at e;omega
  · rcases List.mem_cons.1 ae with ad|ad
    · have:=h.1 a aa;rw[ad] at e;omega
    · exact a3 h.2 aa ad
theorem UO{M:List Mem}(h:M.Pairwise λa b=>a.b≠b.b){a b:Mem}(aw:a∈M)(ae:b∈M)(e:a.b=b.b):a=b:=by
 induction M with
 |nil=>cases aw
 |cons x l a3=>
  rw[List.pairwise_cons] at h
  rcases List.mem_cons.1 aw with aa|aa
  · rcases List.mem_cons.1 ae with ad|ad
    · rw[aa,ad]
    · rw[aa] at e;exact absurd e (h.1 b ad)
  · rcases List.mem_cons.1 ae with ad|ad
    · rw[ad] at e;exact absurd e.symm (h.1 a aa)
    · exact a3 h.2 aa ad
theorem e7.eG{F:Nat->Prop}{h:ab}{p aR bD aT bp cap given clock:Nat}{M:List Mem}(w:e7 F h p aR bD aT bp cap given clock M){x:Mem}(J:x∈M){f:Mem->Mem}(hf:uC f):e7 F (h.set x.b (some (uz (f x).e (f x).ak (f x).bZ (f x).bf))) p aR bD aT bp cap given clock (k0 x.e.id f M):=by
 have K:=hf.ite x.e.id
 have k1:=w.dz x J
 have aL:p≠x.b:=λe=>by rw[<-e,w.st] at k1;cases k1
 have aa:aR≠x.b:=λe=>by rw[<-e,w.ax] at k1;cases k1
 have ad:bD≠x.b:=λe=>by rw[<-e,w.av] at k1;cases k1
 have mem:∀y∈k0 x.e.id f M,∃z∈M,y=if z.e.id=x.e.id then f z else z:=λy aO=>by
  obtain⟨z,aP,e⟩:=List.mem_map.1 aO;exact⟨z,aP,e.symm⟩
 have UP:(k0 x.e.id f M).map gM=M.map gM:=by
  rw[k0,List.map_map]
  refine List.map_congr_left λz _=>?_
  show gM (if z.e.id=x.e.id then f z else z)=gM z
  unfold gM
  rw[K.id z,K.b z,K.de z]
 have UQ:(k0 x.e.id f M).map hZ=M.map hZ:=by
  rw[k0,List.map_map]
  refine List.map_congr_left λz _=>?_
  show hZ (if z.e.id=x.e.id then f z else z)=hZ z
  unfold hZ
  rw[K.id z,K.a9 z,K.c9 z]
 have sx:∀{R S:Mem->Mem->Prop},M.Pairwise R->(∀a b,R a b->S (if a.e.id=x.e.id then f a else a) (if b.e.id=x.e.id then f b else b))->(k0 x.e.id f M).Pairwise S:=λh k=>by
  rw[k0,List.pairwise_map];exact h.imp λ{a b} eA=>k a b eA
 refine⟨c5 aL w.st,by rw[UP];exact c5 aa w.ax,by rw[UQ];exact c5 ad w.av,λy aO=>?_,λy aO=>?_,λy aO=>?_,sx w.bs λa b eA=>by rw[K.b a,K.b b];exact eA,sx w.de λa b eA=>by rw[K.de a,K.de b];exact eA,λy aO=>?_,sx w.up λa b eA=>by rw[K.id a,K.id b];exact eA,λy aO=>?_,w.nc,⟨w.aY.1,w.aY.2.1,w.aY.2.2.1,λy aO=>?_⟩,w.nd,λy aO=>?_,λy aO=>?_,λy aO=>?_⟩
 all_goals obtain⟨z,aP,rfl⟩:=mem y aO
 · rw[K.b z]
   by_cases e:z.e.id=x.e.id
   · obtain rfl:=UN w.up aP J e
     rw[if_pos rfl]
     exact ft rfl
   · rw[if_neg e]
     exact c5 (λcn=>e (by rw[UO w.bs aP J cn])) (w.dz z aP)
 · rw[K.bZ z,K.ns z];exact cH.ze (w.ns z aP) k1
 · rw[K.bf z,K.args z];exact cH.ze (w.az z aP) k1
 · rw[K.de z,K.c9 z];exact w.iQ z aP
 · rw[K.id z];exact w.sv z aP
 · rw[K.b z];exact w.aY.2.2.2 z aP
 · rw[K.b z];exact w.ne z aP
 · rw[K.bZ z];exact w.uA z aP
 · rw[K.bf z];exact w.uB z aP
theorem e7.head{F:Nat->Prop}{h:ab}{p aR bD aT bp cap given clock:Nat}{M:List Mem}(w:e7 F h p aR bD aT bp cap given clock M)(Kn Ko:Nat):e7 F (h.set p (some (uy cap Kn Ko aR bD))) p aR bD aT bp cap Kn Ko M:=by
 have aL:=w.st
 have aa:aR≠p:=λe=>by rw[<-e,w.ax] at aL;cases aL
 have ad:bD≠p:=λe=>by rw[<-e,w.av] at aL;cases aL
 have aq:∀x∈M,x.b≠p:=λx J e=>by
  rw[<-e,w.dz x J] at aL
  injection aL with aL;injection aL with _ aL
  exact absurd aL (by decide)
 exact⟨ft rfl,c5 aa w.ax,c5 ad w.av,λx J=>c5 (aq x J) (w.dz x J),λx J=>cH.ze (w.ns x J) aL,λx J=>cH.ze (w.az x J) aL,w.bs,w.de,w.iQ,w.up,w.sv,w.nc,w.aY,w.nd,w.ne,w.uA,w.uB⟩
structure bA(F:Nat->Prop)(h g:ab):Prop where
 n:h.n<=g.n
 get:∀d,d<h.n->F d->g.get d=h.get d
theorem bA.refl(F:Nat->Prop)(h:ab):bA F h h:=⟨Nat.le_refl _,λ_ _ _=>rfl⟩
theorem bA.trans{F:Nat->Prop}{h g k:ab}(a:bA F h g)(b:bA F g k):bA F h k:=⟨Nat.le_trans a.n b.n,λd ak hf=>(b.get d (Nat.lt_of_lt_of_le ak a.n) hf).trans (a.get d ak hf)⟩
theorem bA.ext{F:Nat->Prop}{h g:ab}(e:Ext h.n h g):bA F h g:=⟨e.n,λd ak _=>e.get d ak⟩
theorem bA.set{F:Nat->Prop}{h:ab}{b:Nat}{o:Option cX}(ae:¬F b):bA F h (h.set b o):=⟨Nat.le_refl _,λd _ hf=>c5 (λe=>ae (e▸hf)) rfl⟩
theorem UR{D:Type}{P:Program}{e:D->I}{el sT:TypeId}(T:kd P (λd=>[e d]) 1 el sT){h:ab}{src:I}{q tc:Nat}{d:D}{es:List D}(aE:q<h.n)(aj:h.get q=some (.cells [e d] tc .own 0 0))(hs:fF h 1 src=some (es.length,dS (λd=>[e d]) es))(ar:es.length<=100000):
  ∃b cp g,eh P h sT (some sT) (.slice q 0 1 (.exact 1)) src=some (.slice b 0 (d::es).length cp,g)/\Ext h.n h g/\(∀i (ag:i<(d::es).length),aB g b (0+i*1)=some (e (d::es)[i]))/\(b=q\/h.n<=b)/\b<g.n:=by
 obtain⟨i,ag,bh,l5⟩:=T.info
 obtain⟨z,aP,hi⟩:=T.zero
 by_cases h0:es.length=0
 · have da:es=[]:=List.eq_nil_of_length_eq_zero h0
   subst da
   refine⟨q,.exact 1,h,?_,Ext.refl _ _,λi ag=>?_,.inl rfl,aE⟩
   · have ae:Nat.ble (1+0) 1=true:=rfl
     have c_:fF h 1 src=some (0,[]):=hs
     simp only[eh,T.hu,T.fb,ag,aP,bh,c_,ae];rfl
   · have:i=0:=by simp at ag;omega
     subst this
     exact a_ aj rfl
 · obtain⟨k,an⟩:∃k,es.length=k+1:=⟨es.length-1,by omega⟩
   have fk:jA (1+(k+1)) i.bytes=true:=by
    unfold jA
    have aa:(4*(1+(k+1))+2048)*(i.bytes+1)<=5000000*1001:=Nat.mul_le_mul (by omega) (by omega)
    simp;omega
   have af:(e d).cw=true:=by have:=T.cell d;simpa using this
   have ke:ji h el i.bytes 1 (1+(k+1)) z ([e d]++dS (λd=>[e d]) es) 0=some (.slice h.n 0 (1+(k+1)) (.aS 1),h.push (.cells ([e d]++dS (λd=>[e d]) es) el .aS 0 0)):=
    tG fk (by rw[hi];simp) (by rw[List.all_append,wg T.cell];simp[af])
   have mX:Nat.ble (1+(k+1)) 1=false:=by
    cases J:Nat.ble (1+(k+1)) 1 with
    |false=>rfl
    |true=>have:=Nat.le_of_ble_eq_true J;omega
   have ga:a8.loadCells h q 0 (1*1)=some [e d]:=oW aj rfl
   refine⟨h.n,.aS 1,h.push (.cells ([e d]++dS (λd=>[e d]) es) el .aS 0 0),?_,Ext.push (Nat.le_refl _) _,λi ag=>?_,.inr (Nat.le_refl _),by simp⟩
   · rw[an] at hs
     have el:(d::es).length=1+(k+1):=by rw[List.length_cons,an];omega
     rw[el]
     simp only[eh,T.hu,T.fb,ag,aP,bh,hs,mX,ga,ke]
   · refine mb (fI rfl) ?_
     rw[kZ,Nat.zero_add,Nat.mul_one]
     have:[e d]++es.map e=(d::es).map e:=rfl
     rw[this,List.getElem?_map,List.getElem?_eq_getElem ag];rfl
def bump(z:Int)(l:List Nat)(y:Mem):Mem:={y with ak:=y.ak+z*(l.count y.e.id:Nat)}
theorem US(z:Int)(aa:-1000000000<=z)(ad:z<=1000000000):IntKind.wrap .i64 z=z:=by
 have av:(2:Int)^64=18446744073709551616:=by rfl
 have bq:(2:Int)^63=9223372036854775808:=by rfl
 by_cases h0:0<=z
 · have e:z %18446744073709551616=z:=by omega
   simp only[IntKind.wrap,IntKind.bits,IntKind.signed,av,bq,e,Bool.true_and,decide_eq_true_eq,Nat.add_one_sub_one]
   rw[if_neg (by show¬((2:Int)^63<=z);rw[bq];omega)]
 · have e:z %18446744073709551616=z+18446744073709551616:=by omega
   simp only[IntKind.wrap,IntKind.bits,IntKind.signed,av,bq,e,Bool.true_and,decide_eq_true_eq,Nat.add_one_sub_one]
   rw[if_pos (by show(2:Int)^63<=z+18446744073709551616;rw[bq];omega)]
   omega
theorem UT{a b:Int}(aa:-1000000000<=a+b)(ad:a+b<=1000000000):arith .add .i64 a b=some (.int .i64 (a+b)):=by
 simp only[arith,US _ aa ad]
theorem Kp(m:Nat){F:Nat->Prop}{h:ab}{p aR bD aT bp cap given clock:Nat}{M:List Mem}{e:bI}{mg:Nat}{ak z:Int}{bZ bf:I}(aP:z=1\/z=-1)(w:e7 F h p aR bD aT bp cap given clock M)(he:h.get mg=some (uz e ak bZ bf))(oE:su 0 h bf e.args)(fa:∀x∈M,-1000000<=x.ak/\x.ak<=1000000)(hlen:e.args.length<=1000)(UU:mg<h.n):∃g,Y (m+1) (.fn 29) [.ptr p 0,.ptr mg 0,.int .i64 z] h=.ret (.aJ []) g/\e7 F g p aR bD aT bp cap given clock (M.map (bump z e.parts))/\bA F h g:=by
 obtain⟨H,cQ⟩:∃H,H=(h.room 13).set (h.n+5) (some (.cells [hO e.ret] 28 .own 0 0)):=⟨_,rfl⟩
 have n6:H.n=h.n+13:=by rw[cQ];simp
 have dU:Ext h.n h H:=by rw[cQ];exact Ext.hG (by omega) (Ext.room _ _ _)
 have o8:su 0 H bf e.args:=oE.mono dU (Nat.le_refl _)
 have Kq:=(dU.get _ UU).trans he
 obtain⟨b,cp,al,b8,bM,bW,bn,cJ⟩:=UR Ad (h:=H) (src:=bf) (q:=h.n+5) (tc:=28) (d:=e.ret) (es:=e.args) (by omega) (by rw[cQ];exact ft rfl) (cH.src Ad o8) (by omega)
 have Kr:Ext h.n h al:=dU.trans dU.n bM
 have q4:h.n<=b:=by omega
 have jE:(e.ret::e.args).length=e.args.length+1:=rfl
 refine Uu m p mg z h (R:=λx=>∃g,x=.ret (.aJ []) g/\e7 F g p aR bD aT bp cap given clock (M.map (bump z e.parts))/\bA F h g) ⟨e.ret,a_ (h:=h.room 13) he rfl,bf,?_,b,0,(e.ret::e.args).length,cp,al,?_,?_,cH.sound oE,?_⟩
 · rw[<-cQ];exact a_ Kq rfl
 · rw[<-cQ];exact b8
 · rw[<-cQ];exact a_ Kq rfl
 refine a4.loop (by kernel_rfl) (λk st=>∃i y Γ,st=⟨Γ,[],.none,y⟩/\cd [(0,.ptr p 0),(2,.int .i64 z),(19,.slice b 0 (e.ret::e.args).length cp),(20,.int .i64 (Int.ofNat (e.ret::e.args).length)),(21,.int .i64 (Int.ofNat i))] Γ/\(e.ret::e.args).length-i=k/\i<=(e.ret::e.args).length/\e7 F y p aR bD aT bp cap given clock (M.map (bump z ((e.ret::e.args).take i)))/\bA F h y/\y.get b=al.get b/\al.n<=y.n) ?_ (e.ret::e.args).length _ (by omega) ⟨0,al,_,rfl,⟨rfl,rfl,rfl,rfl,rfl,trivial⟩,by omega,by omega,?_,bA.ext Kr,rfl,Nat.le_refl _⟩
 rotate_left
 · have da:M.map (bump z ((e.ret::e.args).take 0))=M:=by
     have:∀y∈M,bump z ((e.ret::e.args).take 0) y=y:=λy _=>by
      unfold bump
      simp
     rw[List.map_congr_left this,List.map_id']
   rw[da];exact w.ext Kr
 rintro k st ⟨i,y,Γ,rfl,cR,an,ag,hw,Ei,vu,uD⟩
 have fin:¬i<(e.ret::e.args).length->df (λs=>∃j,j<k/\∃i y Γ,s=⟨Γ,[],.none,y⟩/\cd [(0,.ptr p 0),(2,.int .i64 z),(19,.slice b 0 (e.ret::e.args).length cp),(20,.int .i64 (Int.ofNat (e.ret::e.args).length)),(21,.int .i64 (Int.ofNat i))] Γ/\(e.ret::e.args).length-i=j/\i<=(e.ret::e.args).length/\e7 F y p aR bD aT bp cap given clock (M.map (bump z ((e.ret::e.args).take i)))/\bA F h y/\y.get b=al.get b/\al.n<=y.n) (λca ck=>∃aA bW,ca=.exit 0/\ck=⟨bW,[],.none,aA⟩/\cd [] bW/\∃g,a7.ret (.aJ []) aA=.ret (.aJ []) g/\e7 F g p aR bD aT bp cap given clock (M.map (bump z e.parts))/\bA F h g) (.exit 0) ⟨[(0,.ptr p 0),(2,.int .i64 z),(19,.slice b 0 (e.ret::e.args).length cp),(20,.int .i64 (Int.ofNat (e.ret::e.args).length)),(21,.int .i64 (Int.ofNat i))],[],.none,y⟩:=λi1=>by
  obtain rfl:i=(e.ret::e.args).length:=by omega
  rw[List.take_length] at hw
  exact⟨y,_,rfl,rfl,trivial,y,rfl,hw,Ei⟩
 by_cases i1:i<(e.ret::e.args).length
 rotate_left
 · exact a4.pre (Kh (Y m) p b _ i aR cp z y ⟨λh=>absurd h i1,fin⟩) cR rfl rfl rfl
 have Ks:aB y b (0+i*1)=some (hO (e.ret::e.args)[i]):=by
  rw[<-bW i i1]
  unfold aB;rw[vu]
 have snoc:∀q:Nat,((e.ret::e.args).take (i+1)).count q=((e.ret::e.args).take i).count q+(if(e.ret::e.args)[i]=q then 1 else 0):=λq=>by
  rw[List.take_succ_eq_append_getElem i1,List.count_append,List.count_singleton]
  congr 1
  simp[beq_iff_eq]
 by_cases hex:∃x∈M,x.e.id=(e.ret::e.args)[i]
 · obtain⟨x,J,nf⟩:=hex
   have iM:bump z ((e.ret::e.args).take i) x∈M.map (bump z ((e.ret::e.args).take i)):=List.mem_map.2 ⟨x,J,rfl⟩
   have dp:=sr hw.ax hw.up iM false
   have nK:=hw.dz _ iM
   obtain⟨tw,e9⟩:=fa x J
   have af:((e.ret::e.args).take i).count x.e.id<=1001:=by
    have aa:=List.count_le_length (a:=x.e.id) (l:=(e.ret::e.args).take i)
    rw[List.length_take] at aa
    omega
   obtain⟨c,vy⟩:∃c,c=((e.ret::e.args).take i).count x.e.id:=⟨_,rfl⟩
   rw[<-vy] at af
   have aD:(bump z ((e.ret::e.args).take i) x).ak=x.ak+z*(c:Nat):=by rw[vy];rfl
   have hs:=hw.eG iM (f:=λy=>{y with ak:=y.ak+z}) ⟨λ_=>rfl,λ_=>rfl,λ_=>rfl,λ_=>rfl,λ_=>rfl,λ_=>rfl,λ_=>rfl,λ_=>rfl,λ_=>rfl⟩
   have jV:k0 (bump z ((e.ret::e.args).take i) x).e.id (λy=>{y with ak:=y.ak+z}) (M.map (bump z ((e.ret::e.args).take i)))=M.map (bump z ((e.ret::e.args).take (i+1))):=by
    unfold k0
    rw[List.map_map]
    refine List.map_congr_left λy _=>?_
    show(if y.e.id=x.e.id then{bump z ((e.ret::e.args).take i) y with ak:=(bump z ((e.ret::e.args).take i) y).ak+z} else bump z ((e.ret::e.args).take i) y)=bump z ((e.ret::e.args).take (i+1)) y
    unfold bump
    rw[snoc y.e.id]
    by_cases aO:y.e.id=x.e.id
    · rw[if_pos aO,if_pos (by rw[aO,nf])]
      simp only[Mem.mk.injEq,true_and,and_true]
      rw[Int.natCast_add,Int.mul_add]
      simp;omega
    · rw[if_neg aO,if_neg (by rw[<-nf];exactλe=>aO e.symm)]
      simp
   rw[jV] at hs
   have ta:(bump z ((e.ret::e.args).take i) x).b=x.b:=rfl
   have Yx:x.b<h.n:=w.aY.2.2.2 x J
   have j7:-1000000000<=(bump z ((e.ret::e.args).take i) x).ak+z/\(bump z ((e.ret::e.args).take i) x).ak+z<=1000000000:=by
    rw[aD]
    rcases aP with rfl|rfl<;>omega
   refine a4.pre (Kh (Y m) p b _ i aR cp z y ⟨λ_=>⟨i1,_,Ks,a_ hw.st rfl,x.b,?_,_,a_ nK rfl,_,UT j7.1 j7.2,rfl,_,gn nK rfl rfl,by omega,_,(by show _<k;omega),i+1,_,_,rfl,⟨rfl,rfl,rfl,rfl,rfl,trivial⟩,rfl,by omega,hs,Ei.trans (bA.set (b:=x.b) (w.ne x J)),?_,by simpa using uD⟩,λh=>absurd i1 h⟩) cR rfl rfl rfl
   · rw[<-nf];exact dp
   · exact(c5 (by omega) rfl).trans vu
 · have mS:∀x∈M.map (bump z ((e.ret::e.args).take i)),x.e.id≠(e.ret::e.args)[i]:=λx J e=>by
     obtain⟨y,aO,rfl⟩:=List.mem_map.1 J
     exact hex ⟨y,aO,e⟩
   have jV:M.map (bump z ((e.ret::e.args).take (i+1)))=M.map (bump z ((e.ret::e.args).take i)):=by
    refine List.map_congr_left λy aO=>?_
    unfold bump
    rw[snoc y.e.id,if_neg λe=>hex ⟨y,aO,e.symm⟩]
    simp
   refine a4.pre (Uv (Y m) p b _ i aR cp z y ⟨λ_=>⟨i1,_,Ks,a_ hw.st rfl,Ec hw.ax mS false,by omega,_,(by show _<k;omega),i+1,_,_,rfl,⟨rfl,rfl,rfl,rfl,rfl,trivial⟩,rfl,by omega,by rw[jV];exact hw,Ei,vu,uD⟩,λh=>absurd i1 h⟩) cR rfl rfl rfl
end Go.Proofs.hJ
