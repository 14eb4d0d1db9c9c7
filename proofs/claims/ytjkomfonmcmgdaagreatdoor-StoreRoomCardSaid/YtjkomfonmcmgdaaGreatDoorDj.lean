/-
  PROVED HERE: contracts of functions (Dj). No condition beside each statement's own.
-/
import Derived.Test.YtjkomfonmcmgdaaGreatDoorDh
import Derived.Test.YtjkomfonmcmgdaaGreatDoorSxa
import Derived.Test.YtjkomfonmcmgdaaGreatDoorProg
import Derived.Test.YtjkomfonmcmgdaaGreatDoorDi
set_option linter.unusedVariables false
set_option linter.unusedSimpArgs false
namespace Go.Proofs.dj
open Go aP Go.Proofs c8 Go.Proofs.cG
set_option maxRecDepth 100000
set_option maxHeartbeats 1000000
def sP{α:Type}(q:α->Bool):List α->Nat->Option (Nat×α)
 |[],_=>none
 |x::l,j=>if q x=true then some (j,x) else sP q l (j+1)
theorem zy{α:Type}{q:α->Bool}:∀{l:List α} {j:Nat},(∀x∈l,q x=false)->sP q l j=none
 |[],_,_=>rfl
 |x::l,j,h=>by
  rw[sP,if_neg (by rw[h x (List.mem_cons_self ..)];simp)]
  exact zy λy aS=>h y (List.mem_cons_of_mem _ aS)
theorem zz{α:Type}{q:α->Bool}{x:α}:∀{l:List α} {j:Nat},x∈l->q x=true->l.Pairwise (λa b=>¬(q a=true/\q b=true))->∃i,sP q l j=some (j+i,x)/\∀(f:α->dN),w_ i (l.map f)=(l.filter λy=>!q y).map f
 |[],_,h,_,_=>by cases h
 |y::l,j,h,aM,aK=>by
  rw[List.pairwise_cons] at aK
  by_cases aS:q y=true
  · have aa:x=y:=by
      rcases List.mem_cons.1 h with h|h
      · exact h
      · exact absurd ⟨aS,aM⟩ (aK.1 x h)
    subst aa
    refine⟨0,by rw[sP,if_pos aS];rfl,λf=>?_⟩
    have e:(x::l).filter (λy=>!q y)=l:=by
     rw[List.filter_cons,aS]
     have:l.filter (λy=>!q y)=l:=List.filter_eq_self.2 λz a2=>by
      cases wM:q z with
      |true=>exact absurd ⟨aS,wM⟩ (aK.1 z a2)
      |false=>rfl
     simpa using this
    rw[e];rfl
  · have aa:x∈l:=by
      rcases List.mem_cons.1 h with h|h
      · rw[h] at aM;exact absurd aM aS
      · exact h
    obtain⟨i,ab,ad⟩:=zz (j:=j+1) aa aM aK.2
    refine⟨i+1,by rw[sP,if_neg aS,ab];congr 2;omega,λf=>?_⟩
    have zA:q y=false:=by simpa using aS
    rw[List.map_cons,w_,ad f,List.filter_cons,zA];rfl
theorem q5{α:Type}{P:Program}{h:J}{kt:TypeId}{k:I}{q:α->Bool}{f:α->dN}:∀(l:List α) (j:Nat),(∀x∈l,o8 P h kt k (f x).key=some (q x))->jF P h kt k (l.map f) j=some ((sP q l j).map λr=>(r.1,(f r.2).val))
 |[],_,_=>rfl
 |x::l,j,hs=>by
  rw[List.map_cons,jF,hs x (List.mem_cons_self ..),sP]
  cases aM:q x with
  |true=>simp
  |false=>
   simp only[Bool.false_eq_true,if_false]
   exact q5 l (j+1) λy aS=>hs y (List.mem_cons_of_mem _ aS)
theorem NP(a b:Nat):a_ (Int.ofNat a) (Int.ofNat b)=decide (a=b):=by
 by_cases h:a=b
 · rw[mU h,decide_eq_true h]
 · rw[jw h,decide_eq_false h]
def iD(id:Nat):a5:=(List.range 8).map λi=>UInt8.ofNat (id/2^(8*i))
def eE(l:List Nat):a5:=l.flatMap iD
def gm(ns:List a5):a5:=d_ [32] ns
structure Mem where
 e:ca
 b:Nat
 dz:Nat
 dG:Nat
 ao:Int
 bL:I
 bg:I
abbrev Cf(e:ca):List I:=[.int .i64 (Int.ofNat e.k),.str e.nm,.str (gm e.ns),.str (eE e.args),.int .u64 (Int.ofNat e.ret)]
abbrev ZN(e:ca)(ao:Int)(bL bg:I):List I:=[.int .i64 (Int.ofNat e.k),.str e.nm,.str (gm e.ns),.str (eE e.args),.int .u64 (Int.ofNat e.ret),bL,bg,.int .i64 (Int.ofNat e.pins),.int .i64 ao,.int .u64 (Int.ofNat e.used)]
def hM(x:Mem):dN:=⟨.int .u64 (Int.ofNat x.e.id),.ptr x.b 0,x.dz⟩
def jf(x:Mem):dN:=⟨.agg (Cf x.e),.int .u64 (Int.ofNat x.e.id),x.dG⟩
def kp(id:Nat)(x:Mem):Bool:=decide (x.e.id=id)
def hx(k:Nat)(nm f p:a5)(r:Nat)(x:Mem):Bool:=decide (k=x.e.k)&&(decide (nm=x.e.nm)&&(decide (f=gm x.e.ns)&&(decide (p=eE x.e.args)&&decide (r=x.e.ret))))
theorem NQ(a b c d e:I):iQ Tryz.prog 3 [a,b,c,d,e] 0=some a/\iQ Tryz.prog 9 [a,b,c,d,e] 1=some b/\iQ Tryz.prog 9 [a,b,c,d,e] 2=some c/\iQ Tryz.prog 9 [a,b,c,d,e] 3=some d/\iQ Tryz.prog 32 [a,b,c,d,e] 4=some e:=⟨by kernel_rfl,by kernel_rfl,by kernel_rfl,by kernel_rfl,by kernel_rfl⟩
def zB:List Field->List (TypeId×Nat)
 |[]=>[]
 |f::l=>(f.type,f.offset)::zB l
theorem NR{P:Program}{E:TypeId->I->I->Option Bool}{xs ys:List I}:∀(bV:List Field) (l:List (TypeId×Nat×I×I×Bool)),(bV.all λf=>!decide (f.name= "_"))=true->zB bV=l.map (λx=>(x.1,x.2.1))->(∀x∈l,iQ P x.1 xs x.2.1=some x.2.2.1/\iQ P x.1 ys x.2.1=some x.2.2.2.1/\E x.1 x.2.2.1 x.2.2.2.1=some x.2.2.2.2)->eqFields P E xs ys bV=some (l.all λx=>x.2.2.2.2)
 |[],l,_,h,_=>by
  have:l=[]:=by simpa[zB] using h.symm
  subst this;rfl
 |f::bV,[],_,h,_=>by cases h
 |f::bV,⟨bC,c0,dU,g_,pN⟩::l,aN,h,aa=>by
  rw[List.all_cons,Bool.and_eq_true] at aN
  obtain⟨ab,ad,ar⟩:=aa _ (List.mem_cons_self ..)
  simp only[zB,List.map_cons,List.cons.injEq,Prod.mk.injEq] at h
  have a7:=NR bV l aN.2 h.2 λy aS=>aa y (List.mem_cons_of_mem _ aS)
  have ao:decide (f.name= "_")=false:=by simpa using aN.1
  rw[eqFields,ao,h.1.1,h.1.2]
  simp only at ab ad ar
  simp only[ab,ad,ar]
  cases pN with
  |true=>simp only[a7,List.all_cons,Bool.true_and]
  |false=>rfl
theorem ZO(h:J)(d a b:Nat):fU Tryz.prog h (d+1) 3 (.int .i64 (Int.ofNat a)) (.int .i64 (Int.ofNat b))=some (a_ (Int.ofNat a) (Int.ofNat b)):=by
 have hu:Tryz.prog.underlying 3=some (.int .i64):=by kernel_rfl
 simp only[fU,hu,if_true]
theorem ZP(h:J)(d a b:Nat):fU Tryz.prog h (d+1) 32 (.int .u64 (Int.ofNat a)) (.int .u64 (Int.ofNat b))=some (a_ (Int.ofNat a) (Int.ofNat b)):=by
 have hu:Tryz.prog.underlying 32=some (.int .u64):=by kernel_rfl
 simp only[fU,hu,if_true]
theorem GU(h:J)(d:Nat)(a b:a5):fU Tryz.prog h (d+1) 9 (.str a) (.str b)=some (dK a b):=by
 have hu:Tryz.prog.underlying 9=some .string:=by kernel_rfl
 simp only[fU,hu]
theorem ZQ(h:J)(k ej r r':Nat)(a b c cA hS c':a5):fU Tryz.prog h 8 62 (.agg [.int .i64 (Int.ofNat k),.str a,.str b,.str c,.int .u64 (Int.ofNat r)]) (.agg [.int .i64 (Int.ofNat ej),.str cA,.str hS,.str c',.int .u64 (Int.ofNat r')])=some (decide (k=ej)&&(decide (a=cA)&&(decide (b=hS)&&(decide (c=c')&&decide (r=r'))))):=by
 have AJ:(match Tryz.prog.underlying 62 with|some (.struct _)=>true|_=>false)=true:=by kernel_rfl
 obtain⟨bV,oh⟩:∃bV,Tryz.prog.underlying 62=some (.struct bV):=by
  split at AJ
  · rename_i bV oh;exact⟨bV,oh⟩
  · cases AJ
 have ct:Tryz.prog.stoodInHeld 62=false:=by kernel_rfl
 have jI:(match Tryz.prog.underlying 62 with|some (.struct bV)=>bV.toList.all λf=>!decide (f.name= "_")|_=>false)=true:=by kernel_rfl
 have NS:(match Tryz.prog.underlying 62 with|some (.struct bV)=>zB bV.toList|_=>[])=[(3,0),(9,1),(9,2),(9,3),(32,4)]:=by kernel_rfl
 rw[oh] at jI NS
 obtain⟨Fk,eF,fs,jk,lp⟩:=NQ (.int .i64 (Int.ofNat k)) (.str a) (.str b) (.str c) (.int .u64 (Int.ofNat r))
 obtain⟨Fl,a8,a6,b4,fX⟩:=NQ (.int .i64 (Int.ofNat ej)) (.str cA) (.str hS) (.str c') (.int .u64 (Int.ofNat r'))
 have e:=NR (P:=Tryz.prog) (E:=fU Tryz.prog h 7) (xs:=[.int .i64 (Int.ofNat k),.str a,.str b,.str c,.int .u64 (Int.ofNat r)]) (ys:=[.int .i64 (Int.ofNat ej),.str cA,.str hS,.str c',.int .u64 (Int.ofNat r')]) bV.toList
  [(3,0,.int .i64 (Int.ofNat k),.int .i64 (Int.ofNat ej),a_ (Int.ofNat k) (Int.ofNat ej)),(9,1,.str a,.str cA,dK a cA),(9,2,.str b,.str hS,dK b hS),(9,3,.str c,.str c',dK c c'),(32,4,.int .u64 (Int.ofNat r),.int .u64 (Int.ofNat r'),a_ (Int.ofNat r) (Int.ofNat r'))] jI NS (by
    simp only[List.mem_cons,List.not_mem_nil,or_false]
    rintro x (rfl|rfl|rfl|rfl|rfl)
    · exact⟨Fk,Fl,ZO _ _ _ _⟩
    · exact⟨eF,a8,GU _ _ _ _⟩
    · exact⟨fs,a6,GU _ _ _ _⟩
    · exact⟨jk,b4,GU _ _ _ _⟩
    · exact⟨lp,fX,ZP _ _ _ _⟩)
 have ae:∀x y:a5,dK x y=decide (x=y):=λx y=>by
  apply Bool.eq_iff_iff.2
  rw[oe];simp
 simp only[List.all_cons,List.all_nil,NP,ae,Bool.and_true] at e
 rw[<-e]
 have key:∀xs ys:List I,fU Tryz.prog h (7+1) 62 (.agg xs) (.agg ys)=eqFields Tryz.prog (fU Tryz.prog h 7) xs ys bV.toList:=λxs ys=>by
  simp only[fU,oh,ct]
 exact key _ _
theorem wP:Tryz.prog.underlying 55=some (.map 32 59):=by kernel_rfl
theorem Cg:Tryz.prog.underlying 56=some (.map 62 32):=by kernel_rfl
theorem Ch(id:Nat):lO Tryz.prog 32 (.int .u64 (Int.ofNat id))=true:=by kernel_rfl
theorem Ci(k r:Nat)(a b c:a5):lO Tryz.prog 62 (.agg [.int .i64 (Int.ofNat k),.str a,.str b,.str c,.int .u64 (Int.ofNat r)])=true:=by kernel_rfl
theorem Cj(h:J)(id:Nat)(x:Mem):o8 Tryz.prog h 32 (.int .u64 (Int.ofNat id)) (hM x).key=some (kp id x):=by
 show some (a_ (Int.ofNat id) (Int.ofNat x.e.id))=some (decide (x.e.id=id))
 rw[NP];congr 1;exact decide_eq_decide.2 eq_comm
theorem Ck(h:J)(k r:Nat)(a b c:a5)(x:Mem):o8 Tryz.prog h 62 (.agg [.int .i64 (Int.ofNat k),.str a,.str b,.str c,.int .u64 (Int.ofNat r)]) (jf x).key=some (hx k a b c r x):=by
 unfold o8 jf Cf
 simp only
 rw[ZQ];rfl
abbrev wQ(M:List Mem):Prop:=M.Pairwise λa b=>a.e.id<b.e.id
theorem NT{M:List Mem}(aK:wQ M)(id:Nat):M.Pairwise (λa b=>¬(kp id a=true/\kp id b=true)):=aK.imp λ{a b} fc ⟨ab,ad⟩=>by
 have ab:=of_decide_eq_true ab
 have ad:=of_decide_eq_true ad
 omega
theorem uF{h:J}{m c:Nat}{M:List Mem}(hm:h.get m=some (.map (M.map hM) c))(aK:wQ M){x:Mem}(aa:x∈M)(ok:Bool):hy Tryz.prog h 55 (.map m) (.int .u64 (Int.ofNat x.e.id)) ok=some (if ok=true then .aQ [.ptr x.b 0,.bool true] else .ptr x.b 0):=by
 obtain⟨i,ab,_⟩:=zz (j:=0) (q:=kp x.e.id) aa (decide_eq_true rfl) (NT aK _)
 simp only[hy,wP,Ch,hm,q5 M 0 λy _=>Cj h x.e.id y,ab,Option.map,o9]
 rfl
theorem GV{h:J}{m c:Nat}{M:List Mem}(hm:h.get m=some (.map (M.map hM) c)){id:Nat}(aN:∀x∈M,x.e.id≠id)(ok:Bool):hy Tryz.prog h 55 (.map m) (.int .u64 (Int.ofNat id)) ok=some (if ok=true then .aQ [.bb,.bool false] else .bb):=by
 have ab:=zy (q:=kp id) (l:=M) (j:=0) λx aa=>decide_eq_false (aN x aa)
 have a2:ei Tryz.prog 59=some .bb:=by kernel_rfl
 simp only[hy,wP,Ch,hm,q5 M 0 λy _=>Cj h id y,ab,Option.map,o9,a2]
theorem ZR{h:J}{m c:Nat}{M:List Mem}(hm:h.get m=some (.map (M.map hM) c))(aK:wQ M){x:Mem}(aa:x∈M):pb Tryz.prog h 55 (.map m) (.int .u64 (Int.ofNat x.e.id))=some (.aQ [],h.set m (some (.map ((M.filter λy=>!kp x.e.id y).map hM) c))):=by
 obtain⟨i,ab,ad⟩:=zz (j:=0) (q:=kp x.e.id) aa (decide_eq_true rfl) (NT aK _)
 simp only[pb,wP,Ch,hm,q5 M 0 λy _=>Cj h x.e.id y,ab,Option.map,Nat.zero_add,ad]
def jC(ns:List a5):Prop:=∀s∈ns,s≠[]/\∀c∈s,c≠32
theorem NU:∀{a b x y:a5},(∀c∈a,c≠32)->(∀c∈b,c≠32)->a++32::x=b++32::y->a=b/\x=y
 |[],[],x,y,_,_,h=>⟨rfl,by simpa using h⟩
 |[],c::b,x,y,_,ae,h=>by
  have:c=32:=by simp at h;exact h.1.symm
  exact absurd this (ae c (by simp))
 |c::a,[],x,y,aT,_,h=>by
  have:c=32:=by simp at h;exact h.1
  exact absurd this (aT c (by simp))
 |c::a,d::b,x,y,aT,ae,h=>by
  have ab:c=d/\a++32::x=b++32::y:=by simpa using h
  obtain⟨ad,ar⟩:=NU (λz a2=>aT z (by simp[a2])) (λz a2=>ae z (by simp[a2])) ab.2
  exact⟨by rw[ab.1,ad],ar⟩
theorem NV{a y:a5}(aT:∀c∈a,c≠32){b:a5}:a=b++32::y->False:=λh=>aT 32 (by rw[h];simp) rfl
theorem Cl(l:List a5)(x:a5):(x::l).flatMap (λy=>[32]++y)=32::(x++l.flatMap λy=>[32]++y):=by simp
theorem NW:∀{a b:List a5},jC a->jC b->gm a=gm b->a=b
 |[],[],_,_,_=>rfl
 |[],y::b,_,ae,h=>by
  have ab:[]=y++b.flatMap (λy=>[32]++y):=h
  have:=(ae y (by simp)).1
  cases y with
  |nil=>exact absurd rfl this
  |cons c y=>cases ab
 |x::a,[],aT,_,h=>by
  have ab:x++a.flatMap (λy=>[32]++y)=[]:=h
  have:=(aT x (by simp)).1
  cases x with
  |nil=>exact absurd rfl this
  |cons c y=>cases ab
 |[x],[y],_,_,h=>by
  have ab:x++[]=y++[]:=h
  rw[List.append_nil,List.append_nil] at ab
  rw[ab]
 |[x],y::z::b,aT,ae,h=>by
  have ab:x++[]=y++(z::b).flatMap (λy=>[32]++y):=h
  rw[Cl,List.append_nil] at ab
  exact(NV (aT x (by simp)).2 ab).elim
 |x::z::a,[y],aT,ae,h=>by
  have ab:x++(z::a).flatMap (λy=>[32]++y)=y++[]:=h
  rw[Cl,List.append_nil] at ab
  exact(NV (ae y (by simp)).2 ab.symm).elim
 |x::z::a,y::w::b,aT,ae,h=>by
  have ab:x++(z::a).flatMap (λy=>[32]++y)=y++(w::b).flatMap (λy=>[32]++y):=h
  rw[Cl,Cl] at ab
  obtain⟨ad,ar⟩:=NU (aT x (by simp)).2 (ae y (by simp)).2 ab
  have aG:=NW (a:=z::a) (b:=w::b) (λs hs=>aT s (List.mem_cons_of_mem _ hs)) (λs hs=>ae s (List.mem_cons_of_mem _ hs)) ar
  rw[ad,aG]
theorem uG(i:Nat):(iD i).length=8:=by simp[iD]
theorem ZS{i j:Nat}(af:i<18446744073709551616)(aJ:j<18446744073709551616)(h:iD i=iD j):i=j:=by
 have key:∀k,k<8->i/2^(8*k) %256=j/2^(8*k) %256:=λk aq=>by
  have ab:(iD i)[k]? =(iD j)[k]? :=by rw[h]
  unfold iD at ab
  rw[List.getElem?_map,List.getElem?_map,List.getElem?_range aq] at ab
  simp only[Option.map_some,Option.some.injEq] at ab
  have:=congrArg UInt8.toNat ab
  simpa using this
 have kd:=key 0 (by omega)
 have bH:=key 1 (by omega)
 have bY:=key 2 (by omega)
 have eb:=key 3 (by omega)
 have gO:=key 4 (by omega)
 have ho:=key 5 (by omega)
 have im:=key 6 (by omega)
 have x1:=key 7 (by omega)
 simp only[Nat.reduceMul,Nat.reducePow] at kd bH bY eb gO ho im x1
 omega
theorem NX:∀{a b:List Nat},(∀i∈a,i<18446744073709551616)->(∀i∈b,i<18446744073709551616)->eE a=eE b->a=b
 |[],[],_,_,_=>rfl
 |[],j::b,_,_,h=>by
  have:=congrArg List.length h
  simp[eE,uG] at this
  omega
 |i::a,[],_,_,h=>by
  have:=congrArg List.length h
  simp[eE,uG] at this
 |i::a,j::b,aT,ae,h=>by
  have ab:iD i++eE a=iD j++eE b:=h
  obtain⟨ad,ar⟩:=List.append_inj ab (by rw[uG,uG])
  rw[ZS (aT i (by simp)) (ae j (by simp)) ad,NX (λx aa=>aT x (by simp[aa])) (λx aa=>ae x (by simp[aa])) ar]
theorem NY{x:Mem}{k:Nat}{nm:a5}{ns:List a5}{az:List Nat}{r:Nat}(aa:jC x.e.ns)(aN:jC ns)(ab:∀i∈x.e.args,i<18446744073709551616)(ad:∀i∈az,i<18446744073709551616):hx k nm (gm ns) (eE az) r x=x.e.is k nm ns az r:=by
 apply Bool.eq_iff_iff.2
 rw[p6]
 unfold hx
 simp only[Bool.and_eq_true,decide_eq_true_eq]
 constructor
 · rintro⟨cr,cZ,dp,eS,eG⟩
   exact⟨cr.symm,cZ.symm,(NW aN aa dp).symm,(NX ad ab eS).symm,eG.symm⟩
 · rintro⟨cr,cZ,dp,eS,eG⟩
   exact⟨cr.symm,cZ.symm,by rw[dp],by rw[eS],eG.symm⟩
theorem ZT{h:J}{m c:Nat}{M:List Mem}(hm:h.get m=some (.map (M.map jf) c)){k r:Nat}{nm f p:a5}(aK:M.Pairwise λa b=>¬(hx k nm f p r a=true/\hx k nm f p r b=true)){x:Mem}(aa:x∈M)(aM:hx k nm f p r x=true):hy Tryz.prog h 56 (.map m) (.agg [.int .i64 (Int.ofNat k),.str nm,.str f,.str p,.int .u64 (Int.ofNat r)]) true=some (.aQ [.int .u64 (Int.ofNat x.e.id),.bool true]):=by
 obtain⟨i,ab,_⟩:=zz (j:=0) (q:=hx k nm f p r) aa aM aK
 simp only[hy,Cg,Ci,hm,q5 M 0 λy _=>Ck h k r nm f p y,ab,Option.map,o9]
 rfl
theorem ZU{h:J}{m c:Nat}{M:List Mem}(hm:h.get m=some (.map (M.map jf) c)){k r:Nat}{nm f p:a5}(aN:∀x∈M,hx k nm f p r x=false):hy Tryz.prog h 56 (.map m) (.agg [.int .i64 (Int.ofNat k),.str nm,.str f,.str p,.int .u64 (Int.ofNat r)]) true=some (.aQ [.int .u64 (Int.ofNat 0),.bool false]):=by
 have ab:=zy (q:=hx k nm f p r) (l:=M) (j:=0) aN
 have a2:ei Tryz.prog 32=some (.int .u64 (Int.ofNat 0)):=by kernel_rfl
 simp only[hy,Cg,Ci,hm,q5 M 0 λy _=>Ck h k r nm f p y,ab,Option.map,o9,a2]
 rfl
theorem ZV{h:J}{m c:Nat}{M:List Mem}(hm:h.get m=some (.map (M.map jf) c)){k r:Nat}{nm f p:a5}(aK:M.Pairwise λa b=>¬(hx k nm f p r a=true/\hx k nm f p r b=true)){x:Mem}(aa:x∈M)(aM:hx k nm f p r x=true):pb Tryz.prog h 56 (.map m) (.agg [.int .i64 (Int.ofNat k),.str nm,.str f,.str p,.int .u64 (Int.ofNat r)])=some (.aQ [],h.set m (some (.map ((M.filter λy=>!hx k nm f p r y).map jf) c))):=by
 obtain⟨i,ab,ad⟩:=zz (j:=0) (q:=hx k nm f p r) aa aM aK
 simp only[pb,Cg,Ci,hm,q5 M 0 λy _=>Ck h k r nm f p y,ab,Option.map,Nat.zero_add,ad]
end Go.Proofs.dj
namespace Go.Proofs.dj
open Go aP Go.Proofs c8 Go.Proofs.cG
set_option maxRecDepth 100000
set_option maxHeartbeats 1000000
theorem ZW(m:Nat)(v:I)(h:J){R:av->Prop}(H:∃aD:Nat,cc Tryz.prog h 63 v=some (.int .i64 (.ofNat aD))/\aD=0/\R (.ret (.str []) h)):
  R (Y (m+1) (.fn 46) [v,.str [32]] h):=
 dI (intr:=b0) [(1013,.t)] [(0,.o v),(1,.v (.str [32]))] Tryz.func46 (by kernel_rfl) (by kernel_rfl) (by kernel_rfl) rfl (Eq.mp (by kernel_rfl) H)
theorem ZX(m:Nat)(b:Nat)(off:Nat)(N:Nat)(cp:b3)(h:J){R:av->Prop}(H:¬N=0/\(N=1->0<N/\∃s1:List UInt8,au h b (off+0*1)=some (.str s1)/\R (.ret (.str s1) h))/\(¬N=1->(0<1->(1<=N/\N<9223372036854775808)/\∃aD:Nat,arith .quo .i64 (.ofNat 9223372036854775807) (.ofNat (N-1))=some (.int .i64 (.ofNat aD))/\¬aD<=1/\(1<=N/\N<9223372036854775808)/\1*(N-1)<9223372036854775808/\0+1*(N-1)<9223372036854775808/\a3 Tryz.prog Tryz.f46 (Y m) [1,1,1,1,0,1,0] (ah.mk [(0,.slice b off N cp),(1,.str [32]),(5,.int .i64 (.ofNat (0+1*(N-1)))),(39,.slice b off N cp),(40,.int .i64 (.ofNat N)),(41,.int .i64 (.ofNat 0))] [] .none h) (λb9 cj=>∃bj:Nat,∃ai:J,∃bz:Env,b9=.exit 1/\cj=ah.mk bz [] .none ai/\b_ [(0,.slice b off N cp),(1,.str [32]),(5,.int .i64 (.ofNat bj))] bz/\∃ax:J,(Y m) (.fn 74) [.ptr ai.n 0,.int .i64 (.ofNat bj)] (J.push ai (.cells [.bb,.a0] 92 .own 0 0))=.ret (.aQ []) ax/\0<N/\∃s2:List UInt8,au ax b (off+0*1)=some (.str s2)/\∃bD:Nat,∃v1:I,∃aB:J,(Y m) (.fn 44) [.ptr ai.n 0,.str s2] ax=.ret (.aQ [.int .i64 (.ofNat bD),v1]) aB/\∃bT:Nat,∃b5:Nat,∃cx:Nat,∃aH:b3,di Tryz.prog aB 63 (.slice b off N cp) (some (.int .i64 (.ofNat 1))) none none=some (.slice bT b5 cx aH)/\a3 Tryz.prog Tryz.f46 (Y m) [1,1,1,1,1,1,1,1,0,1,0] (ah.mk [(1,.str [32]),(8,.ptr ai.n 0),(63,.slice bT b5 cx aH),(64,.int .i64 (.ofNat cx)),(65,.int .i64 (.ofNat 0))] [] .none aB) (λb9 cj=>∃da:Nat,∃bE:J,∃bR:Env,b9=.exit 3/\cj=ah.mk bR [] .none bE/\b_ [(8,.ptr da 0)] bR/\∃bK:List UInt8,∃bS:J,(Y m) (.fn 47) [.ptr da 0] bE=.ret (.str bK) bS/\R (.ret (.str bK) bS))))/\(¬0<1->a3 Tryz.prog Tryz.f46 (Y m) [1,1,1,1,0,1,0] (ah.mk [(0,.slice b off N cp),(1,.str [32]),(5,.int .i64 (.ofNat 0)),(39,.slice b off N cp),(40,.int .i64 (.ofNat N)),(41,.int .i64 (.ofNat 0))] [] .none h) (λb9 cj=>∃et:Nat,∃dC:J,∃cU:Env,b9=.exit 1/\cj=ah.mk cU [] .none dC/\b_ [(0,.slice b off N cp),(1,.str [32]),(5,.int .i64 (.ofNat et))] cU/\∃eY:J,(Y m) (.fn 74) [.ptr dC.n 0,.int .i64 (.ofNat et)] (J.push dC (.cells [.bb,.a0] 92 .own 0 0))=.ret (.aQ []) eY/\0<N/\∃bN:List UInt8,au eY b (off+0*1)=some (.str bN)/\∃eO:Nat,∃v2:I,∃fZ:J,(Y m) (.fn 44) [.ptr dC.n 0,.str bN] eY=.ret (.aQ [.int .i64 (.ofNat eO),v2]) fZ/\∃gf:Nat,∃iP:Nat,∃jz:Nat,∃a9:b3,di Tryz.prog fZ 63 (.slice b off N cp) (some (.int .i64 (.ofNat 1))) none none=some (.slice gf iP jz a9)/\a3 Tryz.prog Tryz.f46 (Y m) [1,1,1,1,1,1,1,1,0,1,0] (ah.mk [(1,.str [32]),(8,.ptr dC.n 0),(63,.slice gf iP jz a9),(64,.int .i64 (.ofNat jz)),(65,.int .i64 (.ofNat 0))] [] .none fZ) (λb9 cj=>∃kj:Nat,∃jO:J,∃iy:Env,b9=.exit 3/\cj=ah.mk iy [] .none jO/\b_ [(8,.ptr kj 0)] iy/\∃ch:List UInt8,∃mn:J,(Y m) (.fn 47) [.ptr kj 0] jO=.ret (.str ch) mn/\R (.ret (.str ch) mn)))))):
  R (Y (m+1) (.fn 46) [.slice b off N cp,.str [32]] h):=
 dI (intr:=b0) [(1013,.f),(1029,.f),(63,.bA .fY),(4001,.gT [0,1,5,39,40,41] [(.exit 1,[(0,.is (.slice b off N cp)),(1,.is (.str [32])),(5,.n .i64)])]),(4003,.gT [1,8,63,64,65] [(.exit 3,[(8,.p)])])] [(0,.v (.slice b off N cp)),(1,.v (.str [32]))] Tryz.func46 (by kernel_rfl) (by kernel_rfl) (by kernel_rfl) rfl (Eq.mp (by kernel_rfl) H)
theorem ZY(call:aI->List I->J->av)(b:Nat)(off:Nat)(N:Nat)(i:Nat)(n:Nat)(cp:b3)(h:J){Q:bn->ah->Prop}(H:(i<N->i<N/\∃s1:List UInt8,au h b (off+i*1)=some (.str s1)/\(n<=9223372036854775807/\9223372036854775807<9223372036854775808)/\¬9223372036854775807-n<List.length s1/\n+List.length s1<9223372036854775808/\i+1<9223372036854775808/\Q .nrm (ah.mk [(0,.slice b off N cp),(1,.str [32]),(5,.int .i64 (.ofNat (n+List.length s1))),(39,.slice b off N cp),(40,.int .i64 (.ofNat N)),(41,.int .i64 (.ofNat (i+1)))] [] .none h))/\(¬i<N->Q (.exit 1) (ah.mk [(0,.slice b off N cp),(1,.str [32]),(5,.int .i64 (.ofNat n)),(39,.slice b off N cp),(40,.int .i64 (.ofNat N)),(41,.int .i64 (.ofNat i))] [] .none h))):
  a3 Tryz.prog Tryz.f46 call [1,1,1,1,0,1,0,0] ⟨[(0,.slice b off N cp),(1,.str [32]),(5,.int .i64 (.ofNat n)),(39,.slice b off N cp),(40,.int .i64 (.ofNat N)),(41,.int .i64 (.ofNat i))],[],.none,h⟩ Q:=
 dB [(1049,.f)] [0,1,5,39,40,41] [(0,.v (.slice b off N cp)),(1,.v (.str [32])),(5,.v (.int .i64 (.ofNat n))),(39,.v (.slice b off N cp)),(40,.v (.int .i64 (.ofNat N))),(41,.v (.int .i64 (.ofNat i)))] rfl (Eq.mp (by kernel_rfl) H)
theorem ZZ(call:aI->List I->J->av)(w:Nat)(b:Nat)(off:Nat)(N:Nat)(i:Nat)(cp:b3)(h:J){Q:bn->ah->Prop}(H:(i<N->i<N/\∃s1:List UInt8,au h b (off+i*1)=some (.str s1)/\∃aD:Nat,∃v1:I,∃ai:J,call (.fn 44) [.ptr w 0,.str [32]] h=.ret (.aQ [.int .i64 (.ofNat aD),v1]) ai/\∃bj:Nat,∃v2:I,∃ax:J,call (.fn 44) [.ptr w 0,.str s1] ai=.ret (.aQ [.int .i64 (.ofNat bj),v2]) ax/\i+1<9223372036854775808/\Q .nrm (ah.mk [(1,.str [32]),(8,.ptr w 0),(63,.slice b off N cp),(64,.int .i64 (.ofNat N)),(65,.int .i64 (.ofNat (i+1)))] [] .none ax))/\(¬i<N->Q (.exit 3) (ah.mk [(1,.str [32]),(8,.ptr w 0),(63,.slice b off N cp),(64,.int .i64 (.ofNat N)),(65,.int .i64 (.ofNat i))] [] .none h))):
  a3 Tryz.prog Tryz.f46 call [1,1,1,1,1,1,1,1,0,1,0,0] ⟨[(1,.str [32]),(8,.ptr w 0),(63,.slice b off N cp),(64,.int .i64 (.ofNat N)),(65,.int .i64 (.ofNat i))],[],.none,h⟩ Q:=
 dB [] [1,8,63,64,65] [(1,.v (.str [32])),(8,.v (.ptr w 0)),(63,.v (.slice b off N cp)),(64,.v (.int .i64 (.ofNat N))),(65,.v (.int .i64 (.ofNat i)))] rfl (Eq.mp (by kernel_rfl) H)
theorem Z0(m:Nat)(b:Nat)(n:Nat)(h:J){R:av->Prop}(H:∃ai:J,(Y m) (.fn 73) [.ptr b 0] h=.ret (.aQ []) ai/\¬n<0/\∃v1:I,au (ai.room 13) b (0+1)=some v1/\∃aD:Nat,uR Tryz.prog 27 v1=some (.int .i64 (.ofNat aD))/\∃v2:I,au (ai.room 13) b (0+1)=some v2/\∃bj:Nat,cc Tryz.prog (ai.room 13) 27 v2=some (.int .i64 (.ofNat bj))/\(bj<=aD/\aD<9223372036854775808)/\I.sound v1=true/\I.sound v2=true/\aD-bj<n/\∃ax:J,(Y m) (.fn 102) [.ptr b 0,.int .i64 (.ofNat n)] (ai.room 13)=.ret (.aQ []) ax/\R (.ret (.aQ []) ax)):
  R (Y (m+1) (.fn 74) [.ptr b 0,.int .i64 (.ofNat n)] h):=
 dI (intr:=b0) [(1007,.f),(1021,.t)] [(0,.v (.ptr b 0)),(1,.v (.int .i64 (.ofNat n)))] Tryz.func74 (by kernel_rfl) (by kernel_rfl) (by kernel_rfl) rfl (Eq.mp (by kernel_rfl) H)
theorem Z1(m:Nat)(b:Nat)(n:Nat)(h:J){R:av->Prop}(H:∃v1:I,au (h.room 16) b (0+1)=some v1/\∃aD:Nat,uR Tryz.prog 27 v1=some (.int .i64 (.ofNat aD))/\2*aD<9223372036854775808/\2*aD+n<9223372036854775808/\∃bj:Nat,∃bD:Nat,∃bT:Nat,∃aH:b3,∃ai:J,(Y m) (.fn 112) [.int .i64 (.ofNat (2*aD+n))] (h.room 16)=.ret (.slice bj bD bT aH) ai/\∃v2:I,au ai b (0+1)=some v2/\∃b5:Nat,cc Tryz.prog ai 27 v2=some (.int .i64 (.ofNat b5))/\∃dc:I,di Tryz.prog ai 27 (.slice bj bD bT aH) none (some (.int .i64 (.ofNat b5))) none=some dc/\I.sound v1=true/\I.sound v2=true/\au (h.room 16) b (0+1)=some v2/\I.sound dc=true/\I.sound dc=true/\∃v4:I,au ai b (0+1)=some v4/\∃cx:Nat,∃ax:J,uS Tryz.prog ai 27 dc v4=some (.int .i64 (.ofNat cx),ax)/\I.cT dc=true/\∃aB:J,aP.storeCells ax b (0+1) [dc]=some aB/\R (.ret (.aQ []) aB)):
  R (Y (m+1) (.fn 102) [.ptr b 0,.int .i64 (.ofNat n)] h):=
 dI (intr:=b0) [(13,.bA .fY)] [(0,.v (.ptr b 0)),(1,.v (.int .i64 (.ofNat n)))] Tryz.func102 (by kernel_rfl) (by kernel_rfl) (by kernel_rfl) rfl (Eq.mp (by kernel_rfl) H)
theorem Z2(m:Nat)(id:Nat)(h:J){R:av->Prop}(H:∃v1:I,∃ai:J,A0 Tryz.prog h 27 (.int .i64 (.ofNat 8)) (.int .i64 (.ofNat 8))=some (v1,ai)/\∃aD:Nat,cc Tryz.prog ai 27 v1=some (.int .i64 (.ofNat aD))/\a3 Tryz.prog Tryz.f45 (Y m) [1,1,0,1,0] (ah.mk [(0,.int .u64 (.ofNat id)),(3,v1),(7,.int .i64 (.ofNat aD)),(8,.int .i64 (.ofNat 0))] [] .none ai) (λb9 cj=>∃bj:Nat,∃bD:Nat,∃bT:Nat,∃aH:b3,∃ax:J,∃bz:Env,b9=.exit 0/\cj=ah.mk bz [] .none ax/\b_ [(3,.slice bj bD bT aH)] bz/\∃s1:List UInt8,iR Tryz.prog 27 9 (.slice bj bD bT aH) ax=jg.val (.str s1) ax/\R (.ret (.str s1) ax))):
  R (Y (m+1) (.fn 45) [.int .u64 (.ofNat id)] h):=
 dI (intr:=b0) [(4000,.gT [0,3,7,8] [(.exit 0,[(3,.fY)])])] [(0,.v (.int .u64 (.ofNat id)))] Tryz.func45 (by kernel_rfl) (by kernel_rfl) (by kernel_rfl) rfl (Eq.mp (by kernel_rfl) H)
theorem Z3(call:aI->List I->J->av)(id:Nat)(b:Nat)(i:Nat)(cp:b3)(h:J){Q:bn->ah->Prop}(H:(i<8->8*i<9223372036854775808/\∃aD:Nat,ra .shr .u64 (.ofNat id) (.ofNat (8*i))=some (.int .u64 (.ofNat aD))/\∃bj:Nat,iR Tryz.prog 32 5 (.int .u64 (.ofNat aD)) h=jg.val (.int .u8 (.ofNat bj)) h/\i<8/\∃ai:J,aP.storeCells h b (0+i*1) [.int .u8 (.ofNat bj)]=some ai/\i+1<9223372036854775808/\Q .nrm (ah.mk [(0,.int .u64 (.ofNat id)),(3,.slice b 0 8 cp),(7,.int .i64 (.ofNat 8)),(8,.int .i64 (.ofNat (i+1)))] [] .none ai))/\(¬i<8->Q (.exit 0) (ah.mk [(0,.int .u64 (.ofNat id)),(3,.slice b 0 8 cp),(7,.int .i64 (.ofNat 8)),(8,.int .i64 (.ofNat i))] [] .none h))):
  a3 Tryz.prog Tryz.f45 call [1,1,0,1,0,0] ⟨[(0,.int .u64 (.ofNat id)),(3,.slice b 0 8 cp),(7,.int .i64 (.ofNat 8)),(8,.int .i64 (.ofNat i))],[],.none,h⟩ Q:=
 dB [(16,.bA (.n .u64)),(17,.bA (.n .u8))] [0,3,7,8] [(0,.v (.int .u64 (.ofNat id))),(3,.v (.slice b 0 8 cp)),(7,.v (.int .i64 (.ofNat 8))),(8,.v (.int .i64 (.ofNat i)))] rfl (Eq.mp (by kernel_rfl) H)
theorem Z4(m:Nat)(p:Nat)(e:Nat)(z:Int)(h:J){R:av->Prop}(H:∃aD:Nat,au (h.room 13) e (0+0+4)=some (.int .u64 (.ofNat aD))/\∃v1:I,au (J.set (h.room 13) (h.n+5) (some (.cells [.int .u64 (.ofNat aD)] 32 .own 0 0))) e (0+6)=some v1/\∃bj:Nat,∃bD:Nat,∃bT:Nat,∃aH:b3,∃ai:J,dt Tryz.prog (J.set (h.room 13) (h.n+5) (some (.cells [.int .u64 (.ofNat aD)] 32 .own 0 0))) 44 (some 44) (.slice (h.n+5) 0 1 (.exact 1)) v1=some (.slice bj bD bT aH,ai)/\au (J.set (h.room 13) (h.n+5) (some (.cells [.int .u64 (.ofNat aD)] 32 .own 0 0))) e (0+0+4)=some (.int .u64 (.ofNat aD))/\I.sound v1=true/\a3 Tryz.prog Tryz.f41 (Y m) [1,0] (ah.mk [(0,.ptr p 0),(2,.int .i64 z),(19,.slice bj bD bT aH),(20,.int .i64 (.ofNat bT)),(21,.int .i64 (.ofNat 0))] [] .none ai) (λb9 cj=>∃ax:J,∃bz:Env,b9=.exit 0/\cj=ah.mk bz [] .none ax/\b_ [] bz/\R (.ret (.aQ []) ax))):
  R (Y (m+1) (.fn 41) [.ptr p 0,.ptr e 0,.int .i64 z] h):=
 dI (intr:=b0) [(19,.bA .fY),(4000,.gT [0,2,19,20,21] [(.exit 0,[])])] [(0,.v (.ptr p 0)),(1,.v (.ptr e 0)),(2,.v (.int .i64 z))] Tryz.func41 (by kernel_rfl) (by kernel_rfl) (by kernel_rfl) rfl (Eq.mp (by kernel_rfl) H)
theorem NZ(call:aI->List I->J->av)(p:Nat)(b:Nat)(N:Nat)(i:Nat)(m:Nat)(cp:b3)(z:Int)(h:J){Q:bn->ah->Prop}(H:(i<N->i<N/\∃aD:Nat,au h b (0+i*1)=some (.int .u64 (.ofNat aD))/\au h p (0+3)=some (.map m)/\∃bj:Nat,hy Tryz.prog h 55 (.map m) (.int .u64 (.ofNat aD)) false=some (.ptr bj 0)/\∃ep:Int,au h bj (0+8)=some (.int .i64 ep)/\∃gk:Int,arith .add .i64 ep z=some (.int .i64 gk)/\I.cT (.int .i64 gk)=true/\∃ai:J,aP.storeCells h bj (0+8) [.int .i64 gk]=some ai/\i+1<9223372036854775808/\Q .nrm (ah.mk [(0,.ptr p 0),(2,.int .i64 z),(19,.slice b 0 N cp),(20,.int .i64 (.ofNat N)),(21,.int .i64 (.ofNat (i+1)))] [] .none ai))/\(¬i<N->Q (.exit 0) (ah.mk [(0,.ptr p 0),(2,.int .i64 z),(19,.slice b 0 N cp),(20,.int .i64 (.ofNat N)),(21,.int .i64 (.ofNat i))] [] .none h))):
  a3 Tryz.prog Tryz.f41 call [1,0,0] ⟨[(0,.ptr p 0),(2,.int .i64 z),(19,.slice b 0 N cp),(20,.int .i64 (.ofNat N)),(21,.int .i64 (.ofNat i))],[],.none,h⟩ Q:=
 dB [(28,.bA (.is (.map m))),(30,.bA .p),(36,.bA (.z .i64)),(38,.bA (.z .i64))] [0,2,19,20,21] [(0,.v (.ptr p 0)),(2,.v (.int .i64 z)),(19,.v (.slice b 0 N cp)),(20,.v (.int .i64 (.ofNat N))),(21,.v (.int .i64 (.ofNat i)))] rfl (Eq.mp (by kernel_rfl) H)
theorem Z5(call:aI->List I->J->av)(p:Nat)(b:Nat)(N:Nat)(i:Nat)(m:Nat)(cp:b3)(z:Int)(h:J){Q:bn->ah->Prop}(H:(i<N->i<N/\∃aD:Nat,au h b (0+i*1)=some (.int .u64 (.ofNat aD))/\au h p (0+3)=some (.map m)/\hy Tryz.prog h 55 (.map m) (.int .u64 (.ofNat aD)) false=some .bb/\i+1<9223372036854775808/\Q .nrm (ah.mk [(0,.ptr p 0),(2,.int .i64 z),(19,.slice b 0 N cp),(20,.int .i64 (.ofNat N)),(21,.int .i64 (.ofNat (i+1)))] [] .none h))/\(¬i<N->Q (.exit 0) (ah.mk [(0,.ptr p 0),(2,.int .i64 z),(19,.slice b 0 N cp),(20,.int .i64 (.ofNat N)),(21,.int .i64 (.ofNat i))] [] .none h))):
  a3 Tryz.prog Tryz.f41 call [1,0,0] ⟨[(0,.ptr p 0),(2,.int .i64 z),(19,.slice b 0 N cp),(20,.int .i64 (.ofNat N)),(21,.int .i64 (.ofNat i))],[],.none,h⟩ Q:=
 dB [(28,.bA (.is (.map m))),(30,.bA (.is .bb))] [0,2,19,20,21] [(0,.v (.ptr p 0)),(2,.v (.int .i64 z)),(19,.v (.slice b 0 N cp)),(20,.v (.int .i64 (.ofNat N))),(21,.v (.int .i64 (.ofNat i)))] rfl (Eq.mp (by kernel_rfl) H)
def o0(id i:Nat):List UInt8:=(List.range 8).map λk=>if k<i then UInt8.ofNat (id/2^(8*k)) else 0
theorem Z6(id:Nat):o0 id 8=iD id:=by
 unfold o0 iD
 refine List.map_congr_left λk aq=>?_
 rw[if_pos (List.mem_range.1 aq)]
theorem Z7{l:List UInt8}{i:Nat}{c:UInt8}:(dd l).set i (.int .u8 (Int.ofNat c.toNat))=dd (l.set i c):=by
 induction l generalizing i with
 |nil=>rfl
 |cons x l a7=>
  cases i with
  |zero=>rfl
  |succ i=>simp only[dd,List.set_cons_succ,a7]
theorem Z8{id i:Nat}(af:i<8):(o0 id i).set i (UInt8.ofNat (id/2^(8*i)))=o0 id (i+1):=by
 apply List.ext_getElem (by simp[o0])
 intro k ab ad
 simp only[o0,List.getElem_set,List.getElem_map,List.getElem_range]
 by_cases h:i=k
 · subst h;simp
 · rw[if_neg h]
   by_cases aq:k<i
   · rw[if_pos aq,if_pos (by omega)]
   · rw[if_neg aq,if_neg (by omega)]
theorem GW(l:List UInt8):(dd l).length=l.length:=by
 induction l with
 |nil=>rfl
 |cons x l a7=>simp[dd,a7]
theorem Z9(m id:Nat)(h:J)(iJ:id<18446744073709551616):∃g,Y (m+1) (.fn 45) [.int .u64 (Int.ofNat id)] h=.ret (.str (iD id)) g/\Ext h.n h g:=by
 obtain⟨H,cl⟩:∃H,H=h.push (.cells (dd (o0 id 0)) 5 .own 0 0):=⟨_,rfl⟩
 have dE:Ext h.n h H:=by rw[cl];exact Ext.push (Nat.le_refl _) _
 have aA:A0 Tryz.prog h 27 (.int .i64 (Int.ofNat 8)) (.int .i64 (Int.ofNat 8))=some (.slice h.n 0 8 (.exact 8),H):=by rw[cl];kernel_rfl
 refine Z2 m id h (R:=λx=>∃g,x=.ret (.str (iD id)) g/\Ext h.n h g) ⟨_,H,aA,8,rfl,?_⟩
 refine a3.loop (by kernel_rfl) (λk st=>∃i y Γ,st=⟨Γ,[],.none,y⟩/\b_ [(0,.int .u64 (Int.ofNat id)),(3,.slice h.n 0 8 (.exact 8)),(7,.int .i64 (Int.ofNat 8)),(8,.int .i64 (Int.ofNat i))] Γ/\8-i=k/\i<=8/\Ext h.n h y/\y.get h.n=some (.cells (dd (o0 id i)) 5 .own 0 0)) ?_ 8 _ (by omega) ⟨0,H,_,rfl,⟨rfl,rfl,rfl,rfl,trivial⟩,by omega,by omega,dE,by rw[cl];exact fo rfl⟩
 rintro k st ⟨i,y,Γ,rfl,cQ,aq,af,aS,al⟩
 have pZ:(o0 id i).length=8:=by simp[o0]
 refine a3.pre (Z3 (Y m) id h.n i (.exact 8) y ⟨λi1=>?_,λi1=>?_⟩) cQ rfl rfl rfl
 · have bA:ra .shr .u64 (Int.ofNat id) (Int.ofNat (8*i))=some (.int .u64 (Int.ofNat (id/2^(8*i)))):=by
     have ab:¬(Int.ofNat (8*i)<0):=Int.not_lt.2 (Int.natCast_nonneg _)
     have ad:min (Int.ofNat (8*i)).toNat (IntKind.bits .u64)=8*i:=by
      show min (8*i) 64=8*i
      omega
     simp only[ra,if_neg ab,ad]
     have ar:((2:Int)^(8*i))=Int.ofNat (2^(8*i)):=by simp
     rw[ar]
     exact congrArg (λz=>some (I.int .u64 z)) (Int.ofNat_fdiv _ _).symm
   have qw:iR Tryz.prog 32 5 (.int .u64 (Int.ofNat (id/2^(8*i)))) y=.val (.int .u8 (Int.ofNat (UInt8.ofNat (id/2^(8*i))).toNat)) y:=by
    have e:(UInt8.ofNat (id/2^(8*i))).toNat=id/2^(8*i) %256:=by simp
    rw[e]
    exact Ko (ka:=.u64) (by kernel_rfl) (by kernel_rfl) (wrap_u8 _)
   obtain⟨g,GX⟩:∃g,g=y.set h.n (some (.cells (dd (o0 id (i+1))) 5 .own 0 0)):=⟨_,rfl⟩
   have st:aP.storeCells y h.n (0+i*1) [.int .u8 (Int.ofNat (UInt8.ofNat (id/2^(8*i))).toNat)]=some g:=by
    rw[GX,<-Z8 i1,<-Z7]
    exact gS al rfl (by rw[show 0+i*1=i by omega];exact FP _ rfl _ i (by rw[GW,pZ];exact i1))
   refine⟨by omega,_,bA,_,qw,i1,g,st,by omega,_,(by show _<k;omega),i+1,g,_,rfl,⟨rfl,rfl,rfl,rfl,trivial⟩,rfl,by omega,?_,by rw[GX];exact gR rfl⟩
   rw[GX];exact Ext.iX (Nat.le_refl _) aS
 · obtain rfl:i=8:=by omega
   rw[Z6] at al
   have qw:iR Tryz.prog 27 9 (.slice h.n 0 8 (.exact 8)) y=.val (.str (iD id)) y:=by
    have jn:Tryz.prog.underlying 27=some (.slice 5):=by kernel_rfl
    have oi:Tryz.prog.underlying 9=some .string:=by kernel_rfl
    have kN:Tryz.prog.underlying 5=some (.int .u8):=by kernel_rfl
    have nZ:aP.loadCells y h.n 0 8=some (dd (iD id)):=by
     refine pF al ?_
     have:=Km (dd (iD id)) [] 8 (by rw[GW,uG])
     rw[List.append_nil] at this
     exact this
    simp only[iR,jn,oi,kN,nZ,EF]
   exact⟨h.n,0,8,.exact 8,y,_,rfl,rfl,⟨rfl,trivial⟩,iD id,qw,y,rfl,aS⟩
theorem Z_(n b B:Nat)(h:J)(v:I)(w s:List UInt8)(al:h.get b=some (.cells [.ptr b 0,v] 92 .own 0 0))(BX:pE B 5 h v w)(kP:b<B)(Yf:B<=h.n)(cS:w++s≠[])(aw:w.length+s.length<=1000000000):∃an,Y (n+3) (.fn 44) [.ptr b 0,.str s] h=.ret (.aQ [.int .i64 (Int.ofNat s.length),.e1]) an/\jP B b an (w++s)/\k6 b B h an:=by
 obtain⟨ab,aH,ai,aD,dz⟩:=F1 n b h v (by omega) (.inr al)
 have bo:pE B 5 ab v w:=BX.ext (by omega) λc ag _=>dz c (by omega)
 obtain⟨i,uw,BY,yc⟩:=My
 obtain⟨v',ad,cr,cZ,dp⟩:=Ki (P:=Tryz.prog) (B:=B) (sT:=27) (xT:=some 9) (e:=5) (z:=.int .u8 (Int.ofNat 0)) (by omega) (by kernel_rfl) (by kernel_rfl) uw BY (by kernel_rfl) rfl (Mz yc aw) bo
 have ax:=(dp.get b kP).trans ai
 have aN:=dp.n
 refine⟨ad.set b (some (.cells [.ptr b 0,v'] 92 .own 0 0)),?_,⟨.ptr b 0,v',gR rfl,.inr rfl,cZ.ext (by simp) λc ag _=>dM (by omega) rfl,kP,by simp;omega,λe=>absurd e cS⟩,⟨by simp;omega,λc ag lT=>dM lT ((dp.get c ag).trans (dz c lT))⟩⟩
 rcases cZ with⟨rfl,_⟩|⟨c,r,rfl,_⟩
 · exact eR (intr:=b0) (n:=n+2) (args:=[.ptr b 0,.str s]) Tryz.func44 (by kernel_rfl) rfl (by kernel_rfl) (Mt (Y (n+2)) b s v h ad ab _ aH (aV ai rfl) cr (gS ax rfl rfl)) (.inl rfl) (by kernel_rfl)
 · exact eR (intr:=b0) (n:=n+2) (args:=[.ptr b 0,.str s]) Tryz.func44 (by kernel_rfl) rfl (by kernel_rfl) (bws (Y (n+2)) b c _ s v h ad ab _ aH (aV ai rfl) cr (gS ax rfl rfl)) (.inl rfl) (by kernel_rfl)
theorem aaa(n m:Nat)(h:J)(hm:m<=1000000000):Y (n+1) (.fn 112) [.int .i64 (Int.ofNat m)] h=.ret (.slice h.n 0 m (.a1 1)) (h.push (.cells (List.replicate m .bad) 5 .a1 0 0)):=by
 have hle:Nat.ble m 1099511627776=true:=by simp;omega
 have aA:(Tryz.f112).resultTypes[0]? =some 27:=by kernel_rfl
 have ay:Tryz.prog.underlying 27=some (.slice 5):=by kernel_rfl
 have bw:(Tryz.f112).body=none:=by kernel_rfl
 have eh:(Tryz.f112).name= "internal/bytealg.MakeNoZero" :=by kernel_rfl
 have fH:b0 112 [.int .i64 (Int.ofNat m)] h=none:=rfl
 have fu:rh Tryz.prog Tryz.f112 "internal/bytealg.MakeNoZero" [.int .i64 (Int.ofNat m)] h=some (.slice h.n 0 m (.a1 1),h.push (.cells (List.replicate m .bad) 5 .a1 0 0)):=by
  simp only[rh,aA,ay,hle];rfl
 show fa Tryz.prog b0 (n+1) _ _ _=_
 simp only[fa,fH,qi,Tryz.func112,bw,eh,fu]
theorem aab(n b m:Nat)(h:J)(ae:b<h.n)(al:h.get b=some (.cells [.bb,.a0] 92 .own 0 0))(h0:0<m)(hm:m<=1000000000):∃g c,Y (n+3) (.fn 74) [.ptr b 0,.int .i64 (Int.ofNat m)] h=.ret (.aQ []) g/\g.get b=some (.cells [.ptr b 0,.slice c 0 0 (.a1 1)] 92 .own 0 0)/\pE h.n 5 g (.slice c 0 0 (.a1 1)) []/\k6 b h.n h g:=by
 obtain⟨ab,aH,ai,aD,dz⟩:=F1 n b h .a0 ae (.inl al)
 obtain⟨H,cl⟩:∃H,H=(ab.room 13).room 16:=⟨_,rfl⟩
 have lg:H.n=ab.n+29:=by rw[cl];simp
 have sw:H.get b=some (.cells [.ptr b 0,.a0] 92 .own 0 0):=by rw[cl];exact ai
 obtain⟨aR,zC⟩:∃aR,aR=H.push (.cells (List.replicate m .bad) 5 .a1 0 0):=⟨_,rfl⟩
 have GY:aR.get b=some (.cells [.ptr b 0,.a0] 92 .own 0 0):=by rw[zC];exact l7 (by omega) sw
 have N0:=aaa n (0+m) H (by omega)
 obtain⟨br,zD⟩:∃br,br=aR.set b (some (.cells [.ptr b 0,.slice H.n 0 0 (.a1 1)] 92 .own 0 0)):=⟨_,rfl⟩
 have jm:di Tryz.prog aR 27 (.slice H.n 0 (0+m) (.a1 1)) none (some (.int .i64 (Int.ofNat 0))) none=some (.slice H.n 0 0 (.a1 1)):=BU (E:=5) (by kernel_rfl) (by kernel_rfl) (Nat.zero_le _)
 have GN:uS Tryz.prog aR 27 (.slice H.n 0 0 (.a1 1)) .a0=some (.int .i64 (Int.ofNat 0),aR):=by kernel_rfl
 have aac:Y (n+2) (.fn 102) [.ptr b 0,.int .i64 (Int.ofNat m)] (ab.room 13)=.ret (.aQ []) br:=by
  rw[Nat.zero_add] at N0 jm
  refine Z1 (n+1) b m (ab.room 13) (R:=λx=>x=.ret (.aQ []) br) ?_
  rw[<-cl]
  refine⟨.a0,aV sw rfl,0,rfl,by omega,by omega,H.n,0,m,.a1 1,aR,?_,.a0,aV GY rfl,0,rfl,_,jm,rfl,rfl,aV sw rfl,rfl,rfl,.a0,aV GY rfl,0,aR,GN,rfl,br,by rw[zD];exact gS GY rfl rfl,rfl⟩
  rw[show 2*0+m=m by omega,zC];exact N0
 have bD:br.n=H.n+1:=by rw[zD,zC];rfl
 refine⟨br,H.n,Z0 (n+2) b m h (R:=λx=>x=.ret (.aQ []) br) ⟨ab,aH,by omega,.a0,aV (h:=ab.room 13) ai rfl,0,rfl,.a0,aV (h:=ab.room 13) ai rfl,0,rfl,by omega,rfl,rfl,by omega,br,aac,rfl⟩,by rw[zD];exact gR rfl,.inr ⟨H.n,List.replicate m .bad,rfl,?_,by omega,by omega⟩,⟨by omega,λc ag lT=>?_⟩⟩
 · rw[zD]
   refine dM (by omega) ?_
   rw[zC];exact fo rfl
 · rw[zD]
   refine dM lT ?_
   rw[zC]
   refine l7 (by omega) ?_
   rw[cl];exact dz c lT
end Go.Proofs.dj
namespace Go.Proofs.dj
open Go aP Go.Proofs c8 Go.Proofs.cG
set_option maxRecDepth 100000
set_option maxHeartbeats 1000000
theorem GZ(c:Nat):∀a b:List a5,fE c (a++b)=fE c a+fE c b
 |[],b=>by rw[fE,List.nil_append];omega
 |x::a,b=>by rw[List.cons_append,fE,GZ c a b,fE];omega
theorem G0(c:Nat)(l:List a5)(i:Nat):fE c (l.take i)<=fE c l:=by
 have:=GZ c (l.take i) (l.drop i)
 rw[List.take_append_drop] at this
 omega
theorem Cm(l:List a5)(i:Nat):(d_ [32] (l.take i)).length<=fE 1 l:=Nat.le_trans (BE [32] _) (G0 1 l i)
theorem aad(m:Nat){F:Nat->Prop}{h:J}{v:I}{ns:List a5}(aC:km F h v (ns.map .str))(fP:∀b,F b->b<h.n)(aN:∀s∈ns,s≠[])(aw:ns.length<=1000)(ba:fE 1 ns<=1000000):∃g,Y (m+4) (.fn 46) [v,.str [32]] h=.ret (.str (gm ns)) g/\Ext h.n h g:=by
 rcases aC with⟨rfl,e⟩|⟨b,off,cp,rfl,ae,ar,aG,bJ,cu⟩
 · obtain rfl:ns=[]:=by simpa using e
   exact⟨h,ZW (m+3) .a0 h (R:=λx=>x=.ret (.str (gm [])) h) ⟨0,rfl,rfl,rfl⟩,Ext.refl _ _⟩
 have ae:=fP b ae
 rw[List.length_map] at aG cu⊢
 have fp:∀{x},Ext h.n h x->∀i (af:i<ns.length),au x b (off+i*1)=some (.str ns[i]):=λe i af=>by
  rw[iZ e ae (ar i (by rw[List.length_map];exact af))];simp
 refine ZX (m+3) b off ns.length cp h (R:=λx=>∃g,x=.ret (.str (gm ns)) g/\Ext h.n h g) ⟨by omega,λaD=>?_,λaD=>⟨λ_=>?_,λh=>absurd (by omega) h⟩⟩
 · refine⟨aG,_,fp (Ext.refl _ _) 0 aG,h,?_,Ext.refl _ _⟩
   cases ns with
   |nil=>cases aD
   |cons x l=>
    obtain rfl:l=[]:=by simpa using aD
    show _=av.ret (.str (x++[])) h
    rw[List.append_nil];rfl
 have aM:∃q,arith .quo .i64 (Int.ofNat 9223372036854775807) (Int.ofNat (ns.length-1))=some (.int .i64 (Int.ofNat q))/\¬q<=1:=by
  refine⟨9223372036854775807/(ns.length-1),?_,?_⟩
  · have ab:¬Int.ofNat (ns.length-1)=0:=λh=>by have ad:((ns.length-1:Nat):Int)=0:=h;omega
    have ad:9223372036854775807/(ns.length-1)<9223372036854775808:=Nat.lt_of_le_of_lt (Nat.div_le_self _ _) (by omega)
    simp only[arith]
    rw[if_neg ab]
    have ar:(Int.ofNat 9223372036854775807).tdiv (Int.ofNat (ns.length-1))=((9223372036854775807/(ns.length-1):Nat):Int):=rfl
    rw[ar,rv _ ad]
    rfl
  · have:2<=9223372036854775807/(ns.length-1):=(Nat.le_div_iff_mul_le (by omega)).2 (by omega)
    omega
 obtain⟨q,a8,a6⟩:=aM
 refine⟨⟨by omega,by omega⟩,q,a8,a6,⟨by omega,by omega⟩,by omega,by omega,?_⟩
 refine a3.loop (by kernel_rfl) (λk st=>∃i n Γ,st=⟨Γ,[],.none,h⟩/\b_ [(0,.slice b off ns.length cp),(1,.str [32]),(5,.int .i64 (Int.ofNat n)),(39,.slice b off ns.length cp),(40,.int .i64 (Int.ofNat ns.length)),(41,.int .i64 (Int.ofNat i))] Γ/\ns.length-i=k/\i<=ns.length/\0<n/\n<=1000+fE 1 (ns.take i)) ?_ ns.length _ (by omega) ⟨0,_,_,rfl,⟨rfl,rfl,rfl,rfl,rfl,rfl,trivial⟩,by omega,by omega,by omega,by omega⟩
 rintro k st ⟨i,n,Γ,rfl,cQ,aq,af,xy,C9⟩
 have vr:=G0 1 ns i
 refine a3.pre (ZY (Y (m+3)) b off _ i n cp h ⟨λi1=>?_,λi1=>?_⟩) cQ rfl rfl rfl
 · have e:fE 1 (ns.take (i+1))=fE 1 (ns.take i)+(ns[i].length+1):=by
     rw[List.take_succ_eq_append_getElem i1,GZ,fE,fE]
   have adT:=G0 1 ns (i+1)
   exact⟨i1,_,fp (Ext.refl _ _) i i1,⟨by omega,by omega⟩,by omega,by omega,by omega,_,(by show _<k;omega),i+1,_,_,rfl,⟨rfl,rfl,rfl,rfl,rfl,rfl,trivial⟩,rfl,by omega,by omega,by omega⟩
 · obtain⟨H,cl⟩:∃H,H=h.push (.cells [.bb,.a0] 92 .own 0 0):=⟨_,rfl⟩
   have lg:H.n=h.n+1:=by rw[cl];rfl
   have dE:Ext h.n h H:=by rw[cl];exact Ext.push (Nat.le_refl _) _
   obtain⟨g,c,aH,An,aae,oN⟩:=aab m h.n n H (by omega) (by rw[cl];exact fo rfl) xy (by omega)
   have NL:=oN.n
   have Cn:∀{x},k6 h.n H.n H x->Ext h.n h x:=λe=>⟨by have:=e.n;omega,λd ao=>(e.get d (by omega) (by omega)).trans (dE.get d ao)⟩
   have aaf:ns[0]≠[]:=aN _ (List.getElem_mem aG)
   have cE:(d_ [32] (ns.take 1)).length<=fE 1 ns:=Cm ns 1
   have c9:d_ [32] (ns.take 1)=ns[0]:=by
    have:=uk [32] ns (i:=0) aG
    simpa using this
   rw[c9] at cE
   obtain⟨aB,du,N1,dU⟩:=Z_ m h.n H.n g (.slice c 0 0 (.a1 1)) [] ns[0] An aae (by omega) NL (by simpa using aaf) (by simp;omega)
   rw[List.nil_append] at N1
   have aag:k6 h.n H.n H aB:=oN.trans (Nat.le_refl _) dU
   obtain⟨n4,kS,d1,d2,d3⟩:=Gp (P:=Tryz.prog) (h:=aB) (T:=63) (E:=9) (b:=b) (off:=off) (by kernel_rfl) (by kernel_rfl) aG cu
   obtain⟨rfl,_⟩:=d3 (by omega)
   subst cl
   refine⟨n,h,_,rfl,rfl,⟨rfl,rfl,rfl,trivial⟩,g,aH,aG,ns[0],fp (Cn oN) 0 aG,_,_,aB,du,b,_,ns.length-1,kS,d1,?_⟩
   refine a3.loop (by kernel_rfl) (λk st=>∃i y Γ,st=⟨Γ,[],.none,y⟩/\b_ [(1,.str [32]),(8,.ptr h.n 0),(63,.slice b (off+1*1) (ns.length-1) kS),(64,.int .i64 (Int.ofNat (ns.length-1))),(65,.int .i64 (Int.ofNat i))] Γ/\ns.length-1-i=k/\i<=ns.length-1/\jP (h.n+1) h.n y (d_ [32] (ns.take (i+1)))/\k6 h.n (h.n+1) (h.push (.cells [.bb,.a0] 92 .own 0 0)) y) ?_ (ns.length-1) _ (by omega) ⟨0,aB,_,rfl,⟨rfl,rfl,rfl,rfl,rfl,trivial⟩,by omega,by omega,by rw[c9];exact N1,aag⟩
   rintro ej st ⟨j,y,cq,rfl,oQ,e3,aJ,ss,aS⟩
   refine a3.pre (ZZ (Y (m+3)) h.n b _ _ j kS y ⟨λs7=>?_,λs7=>?_⟩) oQ rfl rfl rfl
   · have bz:=Cm ns (j+1)
     have bR:=Cm ns (j+1+1)
     have ay:=uk [32] ns (i:=j+1) (by omega)
     rw[if_pos (by omega)] at ay
     rw[ay] at bR
     simp only[List.length_append,List.length_cons,List.length_nil] at bR
     obtain⟨ju,cN,aah,bH⟩:=BW m h.n (h.n+1) y _ [32] ss (by simp;omega)
     obtain⟨eN,cK,aai,bY⟩:=BW m h.n (h.n+1) ju _ ns[j+1] aah (by simp;omega)
     refine⟨s7,ns[j+1],?_,_,_,ju,cN,_,_,eN,cK,by omega,_,(by show _<ej;omega),j+1,eN,_,rfl,⟨rfl,rfl,rfl,rfl,rfl,trivial⟩,rfl,by omega,?_,(aS.trans (Nat.le_refl _) bH.x).trans (Nat.le_refl _) bY.x⟩
     · rw[show off+1*1+j*1=off+(j+1)*1 by omega]
       exact fp (Cn aS) (j+1) (by omega)
     · rw[ay];exact aai
   · obtain rfl:j=ns.length-1:=by omega
     have bz:=Cm ns (ns.length-1+1)
     obtain⟨bS,wR,pN⟩:=MA (m+2) h.n (h.n+1) y _ ss (by omega)
     rw[List.take_of_length_le (by omega)] at wR
     exact⟨h.n,y,_,rfl,rfl,⟨rfl,trivial⟩,gm ns,bS,wR,bS,rfl,⟨by have:=pN.n;have:=(Cn aS).n;omega,λd ao=>(pN.get d (by omega)).trans ((Cn aS).get d ao)⟩⟩
end Go.Proofs.dj
namespace Go.Proofs.dj
open Go aP Go.Proofs c8 Go.Proofs.cG
set_option maxRecDepth 100000
set_option maxHeartbeats 1000000
abbrev o1(d:Nat):I:=.int .u64 (Int.ofNat d)
abbrev mv(B:Nat)(h:J)(v:I)(l:List Nat):Prop:=cC (λd=>[o1 d]) 1 32 B h v l
theorem wS:k7 Tryz.prog (λd=>[o1 d]) 1 32 44 where
 hu:=by kernel_rfl
 fD:=by kernel_rfl
 info:=by
  obtain⟨i,af⟩:=Option.isSome_iff_exists.1 (show(Tryz.prog.info? 32).isSome=true by kernel_rfl)
  refine⟨i,af,?_,?_⟩
  · have:(Tryz.prog.info? 32).map (·.size)=some 1:=by kernel_rfl
    rw[af] at this;simpa using this
  · have:(Tryz.prog.info? 32).map (λi=>Nat.ble i.bytes 1000)=some true:=by kernel_rfl
    rw[af] at this
    exact Nat.le_of_ble_eq_true (by simpa using this)
 zero:=⟨.int .u64 0,by kernel_rfl,rfl⟩
 size:=by kernel_rfl
 len:=λ_=>rfl
 cell:=λ_=>rfl
 pos:=by decide
abbrev wT(cap given clock aZ bQ:Nat):df:=.cells [.int .i64 (Int.ofNat cap),.int .u64 (Int.ofNat given),.int .u64 (Int.ofNat clock),.map aZ,.map bQ] 58 .own 0 0
abbrev Co(e:ca)(ao:Int)(bL bg:I):df:=.cells (ZN e ao bL bg) 65 .own 0 0
structure gj(F:Nat->Prop)(h:J)(p aZ bQ aH a9 cap given clock:Nat)(M:List Mem):Prop where
 st:h.get p=some (wT cap given clock aZ bQ)
 aA:h.get aZ=some (.map (M.map hM) aH)
 ay:h.get bQ=some (.map (M.map jf) a9)
 eu:∀x∈M,h.get x.b=some (Co x.e x.ao x.bL x.bg)
 ns:∀x∈M,p8 0 h x.bL x.e.ns
 az:∀x∈M,mv 0 h x.bg x.e.args
 bs:M.Pairwise λa b=>a.b≠b.b
 dz:M.Pairwise λa b=>a.dz≠b.dz
 fG:∀x∈M,x.dz<aH/\x.dG<a9
 up:wQ M
 uH:∀x∈M,0<x.e.id
 jR:aZ≠bQ
 aO:p<h.n/\aZ<h.n/\bQ<h.n/\∀x∈M,x.b<h.n
 lF:¬F p/\¬F aZ/\¬F bQ
 ne:∀x∈M,¬F x.b
 wU:∀x∈M,∀d n cp,x.bL=.slice d 0 n cp->¬F d
 wV:∀x∈M,∀d n cp,x.bg=.slice d 0 n cp->¬F d
theorem zE{cs:List I}{el:Nat}{e:Nat}:jx e (some (.cells cs el .own 0 0)):=λ_ _ _ h=>by cases h
theorem N2{es:List dN}{c e:Nat}:jx e (some (.map es c)):=λ_ _ _ h=>by cases h
theorem uI{cs:List I}{el e:Nat}{k:gM}{aO up:Nat}(cS:el≠e):jx e (some (.cells cs el k aO up)):=λ_ _ _ h=>by cases h;exact cS rfl
theorem N3{D:Type}{enc:D->List I}{w el:Nat}{F:Nat->Prop}{h g:J}{v:I}{ds:List D}(cS:el≠5)(a4:cC enc w el 0 h v ds)(hf:∀d n cp,v=.slice d 0 n cp->¬F d)(aN:h.n<=g.n)(aq:∀d,d<h.n->¬F d->jx 5 (h.get d)->g.get d=h.get d):cC enc w el 0 g v ds:=by
 rcases a4 with a4|⟨q,rfl,ad,ar,aG,bJ⟩
 · exact .inl a4
 · exact .inr ⟨q,rfl,ad,(aq q bJ (hf q _ _ rfl) (by rw[ar];exact uI cS)).trans ar,aG,by omega⟩
theorem N4{D:Type}{enc:D->List I}{w el:Nat}{F G:Nat->Prop}{h:J}{v:I}{ds:List D}(cS:el≠5)(a4:cC enc w el 0 h v ds)(hf:∀d n cp,v=.slice d 0 n cp->¬F d)(iL:∀d,d<h.n->G d->F d\/¬jx 5 (h.get d)):∀d n cp,v=.slice d 0 n cp->¬G d:=by
 rintro d n cp e al
 rcases a4 with⟨rfl,_⟩|⟨q,rfl,ad,ar,aG,bJ⟩
 · cases e
 · cases e
   rcases iL _ bJ al with h|h
   · exact hf _ _ _ rfl h
   · exact h (by rw[ar];exact uI cS)
theorem gj.move{F G:Nat->Prop}{h g:J}{p aZ bQ aH a9 cap given clock:Nat}{M:List Mem}(w:gj F h p aZ bQ aH a9 cap given clock M)(aN:h.n<=g.n)(aq:∀d,d<h.n->¬F d->jx 5 (h.get d)->g.get d=h.get d)(iL:∀d,d<h.n->G d->F d\/¬jx 5 (h.get d)):gj G g p aZ bQ aH a9 cap given clock M:=by
 obtain⟨bz,bR,cU,iy⟩:=w.aO
 obtain⟨f1,f2,f3⟩:=w.lF
 have wO:∀d,d<h.n->¬F d->jx 5 (h.get d)->¬G d:=λd ao hf aj al=>(iL d ao al).elim hf λk=>k aj
 have r1:jx 5 (h.get p):=by rw[w.st];exact zE
 have r2:jx 5 (h.get aZ):=by rw[w.aA];exact N2
 have ec:jx 5 (h.get bQ):=by rw[w.ay];exact N2
 have fb:∀x∈M,jx 5 (h.get x.b):=λx aa=>by rw[w.eu x aa];exact zE
 have ch:9≠5:=by decide
 have c3:32≠5:=by decide
 exact⟨(aq p bz f1 r1).trans w.st,(aq aZ bR f2 r2).trans w.aA,(aq bQ cU f3 ec).trans w.ay,λx aa=>(aq x.b (iy x aa) (w.ne x aa) (fb x aa)).trans (w.eu x aa),λx aa=>N3 ch (w.ns x aa) (w.wU x aa) aN aq,λx aa=>N3 c3 (w.az x aa) (w.wV x aa) aN aq,w.bs,w.dz,w.fG,w.up,w.uH,w.jR,⟨by omega,by omega,by omega,λx aa=>by have:=iy x aa;omega⟩,⟨wO p bz f1 r1,wO aZ bR f2 r2,wO bQ cU f3 ec⟩,λx aa=>wO x.b (iy x aa) (w.ne x aa) (fb x aa),λx aa=>N4 ch (w.ns x aa) (w.wU x aa) iL,λx aa=>N4 c3 (w.az x aa) (w.wV x aa) iL⟩
theorem gj.ext{F:Nat->Prop}{h g:J}{p aZ bQ aH a9 cap given clock:Nat}{M:List Mem}(w:gj F h p aZ bQ aH a9 cap given clock M)(e:Ext h.n h g):gj F g p aZ bQ aH a9 cap given clock M:=w.move e.n (λd ao _ _=>e.get d ao) λd _ h=>.inl h
structure wW(f:Mem->Mem):Prop where
 b:∀x,(f x).b=x.b
 dz:∀x,(f x).dz=x.dz
 dG:∀x,(f x).dG=x.dG
 bL:∀x,(f x).bL=x.bL
 bg:∀x,(f x).bg=x.bg
 id:∀x,(f x).e.id=x.e.id
 bA:∀x,Cf (f x).e=Cf x.e
 ns:∀x,(f x).e.ns=x.e.ns
 args:∀x,(f x).e.args=x.e.args
def mw(id:Nat)(f:Mem->Mem)(M:List Mem):List Mem:=M.map λy=>if y.e.id=id then f y else y
theorem wW.ite{f:Mem->Mem}(hf:wW f)(id:Nat):wW λy=>if y.e.id=id then f y else y:=by
 constructor<;>intro x<;>split<;>first|rfl|exact hf.b x|exact hf.dz x|exact hf.dG x|exact hf.bL x|exact hf.bg x|exact hf.id x|exact hf.bA x|exact hf.ns x|exact hf.args x
theorem aaj{M:List Mem}(h:wQ M){a b:Mem}(aT:a∈M)(ae:b∈M)(e:a.e.id=b.e.id):a=b:=by
 induction M with
 |nil=>cases aT
 |cons x l a7=>
  rw[wQ,List.pairwise_cons] at h
  rcases List.mem_cons.1 aT with ab|ab
  · rcases List.mem_cons.1 ae with ad|ad
    · rw[ab,ad]
    · have:=h.1 b ad;rw[ab] at e;omega
  · rcases List.mem_cons.1 ae with ad|ad
    · have:=h.1 a ab;rw[ad] at e;omega
    · exact a7 h.2 ab ad
theorem aak{M:List Mem}(h:M.Pairwise λa b=>a.b≠b.b){a b:Mem}(aT:a∈M)(ae:b∈M)(e:a.b=b.b):a=b:=by
 induction M with
 |nil=>cases aT
 |cons x l a7=>
  rw[List.pairwise_cons] at h
  rcases List.mem_cons.1 aT with ab|ab
  · rcases List.mem_cons.1 ae with ad|ad
    · rw[ab,ad]
    · rw[ab] at e;exact absurd e (h.1 b ad)
  · rcases List.mem_cons.1 ae with ad|ad
    · rw[ad] at e;exact absurd e.symm (h.1 a ab)
    · exact a7 h.2 ab ad
theorem gj.fr{F:Nat->Prop}{h:J}{p aZ bQ aH a9 cap given clock:Nat}{M:List Mem}(w:gj F h p aZ bQ aH a9 cap given clock M){x:Mem}(aa:x∈M){f:Mem->Mem}(hf:wW f):gj F (h.set x.b (some (Co (f x).e (f x).ao (f x).bL (f x).bg))) p aZ bQ aH a9 cap given clock (mw x.e.id f M):=by
 have K:=hf.ite x.e.id
 have n6:=w.eu x aa
 have aK:p≠x.b:=λe=>by rw[<-e,w.st] at n6;cases n6
 have ab:aZ≠x.b:=λe=>by rw[<-e,w.aA] at n6;cases n6
 have ad:bQ≠x.b:=λe=>by rw[<-e,w.ay] at n6;cases n6
 have mem:∀y∈mw x.e.id f M,∃z∈M,y=if z.e.id=x.e.id then f z else z:=λy aS=>by
  obtain⟨z,a2,e⟩:=List.mem_map.1 aS;exact⟨z,a2,e.symm⟩
 have aal:(mw x.e.id f M).map hM=M.map hM:=by
  rw[mw,List.map_map]
  refine List.map_congr_left λz _=>?_
  show hM (if z.e.id=x.e.id then f z else z)=hM z
  unfold hM
  rw[K.id z,K.b z,K.dz z]
 have aam:(mw x.e.id f M).map jf=M.map jf:=by
  rw[mw,List.map_map]
  refine List.map_congr_left λz _=>?_
  show jf (if z.e.id=x.e.id then f z else z)=jf z
  unfold jf
  rw[K.id z,K.bA z,K.dG z]
 have uJ:∀{R S:Mem->Mem->Prop},M.Pairwise R->(∀a b,R a b->S (if a.e.id=x.e.id then f a else a) (if b.e.id=x.e.id then f b else b))->(mw x.e.id f M).Pairwise S:=λh k=>by
  rw[mw,List.pairwise_map];exact h.imp λ{a b} fc=>k a b fc
 refine⟨dM aK w.st,by rw[aal];exact dM ab w.aA,by rw[aam];exact dM ad w.ay,λy aS=>?_,λy aS=>?_,λy aS=>?_,uJ w.bs λa b fc=>by rw[K.b a,K.b b];exact fc,uJ w.dz λa b fc=>by rw[K.dz a,K.dz b];exact fc,λy aS=>?_,uJ w.up λa b fc=>by rw[K.id a,K.id b];exact fc,λy aS=>?_,w.jR,⟨w.aO.1,w.aO.2.1,w.aO.2.2.1,λy aS=>?_⟩,w.lF,λy aS=>?_,λy aS=>?_,λy aS=>?_⟩
 all_goals obtain⟨z,a2,rfl⟩:=mem y aS
 · rw[K.b z]
   by_cases e:z.e.id=x.e.id
   · obtain rfl:=aaj w.up a2 aa e
     rw[if_pos rfl]
     exact gR rfl
   · rw[if_neg e]
     exact dM (λcF=>e (by rw[aak w.bs a2 aa cF])) (w.eu z a2)
 · rw[K.bL z,K.ns z];exact cC.r3 (w.ns z a2) n6
 · rw[K.bg z,K.args z];exact cC.r3 (w.az z a2) n6
 · rw[K.dz z,K.dG z];exact w.fG z a2
 · rw[K.id z];exact w.uH z a2
 · rw[K.b z];exact w.aO.2.2.2 z a2
 · rw[K.b z];exact w.ne z a2
 · rw[K.bL z];exact w.wU z a2
 · rw[K.bg z];exact w.wV z a2
theorem gj.head{F:Nat->Prop}{h:J}{p aZ bQ aH a9 cap given clock:Nat}{M:List Mem}(w:gj F h p aZ bQ aH a9 cap given clock M)(N5 N6:Nat):gj F (h.set p (some (wT cap N5 N6 aZ bQ))) p aZ bQ aH a9 cap N5 N6 M:=by
 have aK:=w.st
 have ab:aZ≠p:=λe=>by rw[<-e,w.aA] at aK;cases aK
 have ad:bQ≠p:=λe=>by rw[<-e,w.ay] at aK;cases aK
 have ar:∀x∈M,x.b≠p:=λx aa e=>by
  rw[<-e,w.eu x aa] at aK
  injection aK with aK;injection aK with _ aK
  exact absurd aK (by decide)
 exact⟨gR rfl,dM ab w.aA,dM ad w.ay,λx aa=>dM (ar x aa) (w.eu x aa),λx aa=>cC.r3 (w.ns x aa) aK,λx aa=>cC.r3 (w.az x aa) aK,w.bs,w.dz,w.fG,w.up,w.uH,w.jR,w.aO,w.lF,w.ne,w.wU,w.wV⟩
structure bW(F:Nat->Prop)(h g:J):Prop where
 n:h.n<=g.n
 get:∀d,d<h.n->F d->g.get d=h.get d
theorem bW.refl(F:Nat->Prop)(h:J):bW F h h:=⟨Nat.le_refl _,λ_ _ _=>rfl⟩
theorem bW.trans{F:Nat->Prop}{h g k:J}(a:bW F h g)(b:bW F g k):bW F h k:=⟨Nat.le_trans a.n b.n,λd ao hf=>(b.get d (Nat.lt_of_lt_of_le ao a.n) hf).trans (a.get d ao hf)⟩
theorem bW.ext{F:Nat->Prop}{h g:J}(e:Ext h.n h g):bW F h g:=⟨e.n,λd ao _=>e.get d ao⟩
theorem bW.set{F:Nat->Prop}{h:J}{b:Nat}{o:Option df}(ae:¬F b):bW F h (h.set b o):=⟨Nat.le_refl _,λd _ hf=>dM (λe=>ae (e▸hf)) rfl⟩
theorem aan{D:Type}{P:Program}{e:D->I}{el sT:TypeId}(T:k7 P (λd=>[e d]) 1 el sT){h:J}{src:I}{q tc:Nat}{d:D}{es:List D}(aM:q<h.n)(al:h.get q=some (.cells [e d] tc .own 0 0))(hs:fV h 1 src=some (es.length,dR (λd=>[e d]) es))(aw:es.length<=100000):
  ∃b cp g,dt P h sT (some sT) (.slice q 0 1 (.exact 1)) src=some (.slice b 0 (d::es).length cp,g)/\Ext h.n h g/\(∀i (af:i<(d::es).length),au g b (0+i*1)=some (e (d::es)[i]))/\(b=q\/h.n<=b)/\b<g.n:=by
 obtain⟨i,af,bx,nF⟩:=T.info
 obtain⟨z,a2,ik⟩:=T.zero
 by_cases h0:es.length=0
 · have c9:es=[]:=List.eq_nil_of_length_eq_zero h0
   subst c9
   refine⟨q,.exact 1,h,?_,Ext.refl _ _,λi af=>?_,.inl rfl,aM⟩
   · have ae:Nat.ble (1+0) 1=true:=rfl
     have dv:fV h 1 src=some (0,[]):=hs
     simp only[dt,T.hu,T.fD,af,a2,bx,dv,ae];rfl
   · have:i=0:=by simp at af;omega
     subst this
     exact aV al rfl
 · obtain⟨k,aq⟩:∃k,es.length=k+1:=⟨es.length-1,by omega⟩
   have hi:kW (1+(k+1)) i.bytes=true:=by
    unfold kW
    have ab:(4*(1+(k+1))+2048)*(i.bytes+1)<=5000000*1001:=Nat.mul_le_mul (by omega) (by omega)
    simp;omega
   have ag:(e d).cT=true:=by have:=T.cell d;simpa using this
   have iY:ku h el i.bytes 1 (1+(k+1)) z ([e d]++dR (λd=>[e d]) es) 0=some (.slice h.n 0 (1+(k+1)) (.a1 1),h.push (.cells ([e d]++dR (λd=>[e d]) es) el .a1 0 0)):=
    vE hi (by rw[ik];simp) (by rw[List.all_append,yq T.cell];simp[ag])
   have oD:Nat.ble (1+(k+1)) 1=false:=by
    cases aa:Nat.ble (1+(k+1)) 1 with
    |false=>rfl
    |true=>have:=Nat.le_of_ble_eq_true aa;omega
   have fp:aP.loadCells h q 0 (1*1)=some [e d]:=pF al rfl
   refine⟨h.n,.a1 1,h.push (.cells ([e d]++dR (λd=>[e d]) es) el .a1 0 0),?_,Ext.push (Nat.le_refl _) _,λi af=>?_,.inr (Nat.le_refl _),by simp⟩
   · rw[aq] at hs
     have el:(d::es).length=1+(k+1):=by rw[List.length_cons,aq];omega
     rw[el]
     simp only[dt,T.hu,T.fD,af,a2,bx,hs,oD,fp,iY]
   · refine l8 (fo rfl) ?_
     rw[kn,Nat.zero_add,Nat.mul_one]
     have:[e d]++es.map e=(d::es).map e:=rfl
     rw[this,List.getElem?_map,List.getElem?_eq_getElem af];rfl
def bump(z:Int)(l:List Nat)(y:Mem):Mem:={y with ao:=y.ao+z*(l.count y.e.id:Nat)}
theorem aao(z:Int)(ab:-1000000000<=z)(ad:z<=1000000000):IntKind.wrap .i64 z=z:=by
 have ay:(2:Int)^64=18446744073709551616:=by rfl
 have bw:(2:Int)^63=9223372036854775808:=by rfl
 by_cases h0:0<=z
 · have e:z %18446744073709551616=z:=by omega
   simp only[IntKind.wrap,IntKind.bits,IntKind.signed,ay,bw,e,Bool.true_and,decide_eq_true_eq,Nat.add_one_sub_one]
   rw[if_neg (by show¬((2:Int)^63<=z);rw[bw];omega)]
 · have e:z %18446744073709551616=z+18446744073709551616:=by omega
   simp only[IntKind.wrap,IntKind.bits,IntKind.signed,ay,bw,e,Bool.true_and,decide_eq_true_eq,Nat.add_one_sub_one]
   rw[if_pos (by show(2:Int)^63<=z+18446744073709551616;rw[bw];omega)]
   omega
theorem aap{a b:Int}(ab:-1000000000<=a+b)(ad:a+b<=1000000000):arith .add .i64 a b=some (.int .i64 (a+b)):=by
 simp only[arith,aao _ ab ad]
theorem N7(m:Nat){F:Nat->Prop}{h:J}{p aZ bQ aH a9 cap given clock:Nat}{M:List Mem}{e:ca}{nR:Nat}{ao z:Int}{bL bg:I}(a2:z=1\/z=-1)(w:gj F h p aZ bQ aH a9 cap given clock M)(he:h.get nR=some (Co e ao bL bg))(u9:mv 0 h bg e.args)(fk:∀x∈M,-1000000<=x.ao/\x.ao<=1000000)(hlen:e.args.length<=1000)(aaq:nR<h.n):∃g,Y (m+1) (.fn 41) [.ptr p 0,.ptr nR 0,.int .i64 z] h=.ret (.aQ []) g/\gj F g p aZ bQ aH a9 cap given clock (M.map (bump z e.parts))/\bW F h g:=by
 obtain⟨H,cl⟩:∃H,H=(h.room 13).set (h.n+5) (some (.cells [o1 e.ret] 32 .own 0 0)):=⟨_,rfl⟩
 have lg:H.n=h.n+13:=by rw[cl];simp
 have dE:Ext h.n h H:=by rw[cl];exact Ext.iX (by omega) (Ext.room _ _ _)
 have q2:mv 0 H bg e.args:=u9.mono dE (Nat.le_refl _)
 have N8:=(dE.get _ aaq).trans he
 obtain⟨b,cp,ai,cr,bC,bz,bo,bG⟩:=aan wS (h:=H) (src:=bg) (q:=h.n+5) (tc:=32) (d:=e.ret) (es:=e.args) (by omega) (by rw[cl];exact gR rfl) (cC.src wS q2) (by omega)
 have uE:Ext h.n h ai:=dE.trans dE.n bC
 have xz:h.n<=b:=by omega
 have hC:(e.ret::e.args).length=e.args.length+1:=rfl
 refine Z4 m p nR z h (R:=λx=>∃g,x=.ret (.aQ []) g/\gj F g p aZ bQ aH a9 cap given clock (M.map (bump z e.parts))/\bW F h g) ⟨e.ret,aV (h:=h.room 13) he rfl,bg,?_,b,0,(e.ret::e.args).length,cp,ai,?_,?_,cC.sound u9,?_⟩
 · rw[<-cl];exact aV N8 rfl
 · rw[<-cl];exact cr
 · rw[<-cl];exact aV N8 rfl
 refine a3.loop (by kernel_rfl) (λk st=>∃i y Γ,st=⟨Γ,[],.none,y⟩/\b_ [(0,.ptr p 0),(2,.int .i64 z),(19,.slice b 0 (e.ret::e.args).length cp),(20,.int .i64 (Int.ofNat (e.ret::e.args).length)),(21,.int .i64 (Int.ofNat i))] Γ/\(e.ret::e.args).length-i=k/\i<=(e.ret::e.args).length/\gj F y p aZ bQ aH a9 cap given clock (M.map (bump z ((e.ret::e.args).take i)))/\bW F h y/\y.get b=ai.get b/\ai.n<=y.n) ?_ (e.ret::e.args).length _ (by omega) ⟨0,ai,_,rfl,⟨rfl,rfl,rfl,rfl,rfl,trivial⟩,by omega,by omega,?_,bW.ext uE,rfl,Nat.le_refl _⟩
 rotate_left
 · have c9:M.map (bump z ((e.ret::e.args).take 0))=M:=by
     have:∀y∈M,bump z ((e.ret::e.args).take 0) y=y:=λy _=>by
      unfold bump
      simp
     rw[List.map_congr_left this,List.map_id']
   rw[c9];exact w.ext uE
 rintro k st ⟨i,y,Γ,rfl,cQ,aq,af,hw,G1,xL,nd⟩
 have fin:¬i<(e.ret::e.args).length->dV (λs=>∃j,j<k/\∃i y Γ,s=⟨Γ,[],.none,y⟩/\b_ [(0,.ptr p 0),(2,.int .i64 z),(19,.slice b 0 (e.ret::e.args).length cp),(20,.int .i64 (Int.ofNat (e.ret::e.args).length)),(21,.int .i64 (Int.ofNat i))] Γ/\(e.ret::e.args).length-i=j/\i<=(e.ret::e.args).length/\gj F y p aZ bQ aH a9 cap given clock (M.map (bump z ((e.ret::e.args).take i)))/\bW F h y/\y.get b=ai.get b/\ai.n<=y.n) (λb9 cj=>∃ax bz,b9=.exit 0/\cj=⟨bz,[],.none,ax⟩/\b_ [] bz/\∃g,av.ret (.aQ []) ax=.ret (.aQ []) g/\gj F g p aZ bQ aH a9 cap given clock (M.map (bump z e.parts))/\bW F h g) (.exit 0) ⟨[(0,.ptr p 0),(2,.int .i64 z),(19,.slice b 0 (e.ret::e.args).length cp),(20,.int .i64 (Int.ofNat (e.ret::e.args).length)),(21,.int .i64 (Int.ofNat i))],[],.none,y⟩:=λi1=>by
  obtain rfl:i=(e.ret::e.args).length:=by omega
  rw[List.take_length] at hw
  exact⟨y,_,rfl,rfl,trivial,y,rfl,hw,G1⟩
 by_cases i1:i<(e.ret::e.args).length
 rotate_left
 · exact a3.pre (NZ (Y m) p b _ i aZ cp z y ⟨λh=>absurd h i1,fin⟩) cQ rfl rfl rfl
 have N9:au y b (0+i*1)=some (o1 (e.ret::e.args)[i]):=by
  rw[<-bz i i1]
  unfold au;rw[xL]
 have snoc:∀q:Nat,((e.ret::e.args).take (i+1)).count q=((e.ret::e.args).take i).count q+(if(e.ret::e.args)[i]=q then 1 else 0):=λq=>by
  rw[List.take_succ_eq_append_getElem i1,List.count_append,List.count_singleton]
  congr 1
  simp[beq_iff_eq]
 by_cases hex:∃x∈M,x.e.id=(e.ret::e.args)[i]
 · obtain⟨x,aa,o2⟩:=hex
   have j2:bump z ((e.ret::e.args).take i) x∈M.map (bump z ((e.ret::e.args).take i)):=List.mem_map.2 ⟨x,aa,rfl⟩
   have ee:=uF hw.aA hw.up j2 false
   have pw:=hw.eu _ j2
   obtain⟨iW,fB⟩:=fk x aa
   have ag:((e.ret::e.args).take i).count x.e.id<=1001:=by
    have ab:=List.count_le_length (a:=x.e.id) (l:=(e.ret::e.args).take i)
    rw[List.length_take] at ab
    omega
   obtain⟨c,xO⟩:∃c,c=((e.ret::e.args).take i).count x.e.id:=⟨_,rfl⟩
   rw[<-xO] at ag
   have aC:(bump z ((e.ret::e.args).take i) x).ao=x.ao+z*(c:Nat):=by rw[xO];rfl
   have hs:=hw.fr j2 (f:=λy=>{y with ao:=y.ao+z}) ⟨λ_=>rfl,λ_=>rfl,λ_=>rfl,λ_=>rfl,λ_=>rfl,λ_=>rfl,λ_=>rfl,λ_=>rfl,λ_=>rfl⟩
   have g1:mw (bump z ((e.ret::e.args).take i) x).e.id (λy=>{y with ao:=y.ao+z}) (M.map (bump z ((e.ret::e.args).take i)))=M.map (bump z ((e.ret::e.args).take (i+1))):=by
    unfold mw
    rw[List.map_map]
    refine List.map_congr_left λy _=>?_
    show(if y.e.id=x.e.id then{bump z ((e.ret::e.args).take i) y with ao:=(bump z ((e.ret::e.args).take i) y).ao+z} else bump z ((e.ret::e.args).take i) y)=bump z ((e.ret::e.args).take (i+1)) y
    unfold bump
    rw[snoc y.e.id]
    by_cases aS:y.e.id=x.e.id
    · rw[if_pos aS,if_pos (by rw[aS,o2])]
      simp only[Mem.mk.injEq,true_and,and_true]
      rw[Int.natCast_add,Int.mul_add]
      simp;omega
    · rw[if_neg aS,if_neg (by rw[<-o2];exactλe=>aS e.symm)]
      simp
   rw[g1] at hs
   have Dp:(bump z ((e.ret::e.args).take i) x).b=x.b:=rfl
   have adU:x.b<h.n:=w.aO.2.2.2 x aa
   have l0:-1000000000<=(bump z ((e.ret::e.args).take i) x).ao+z/\(bump z ((e.ret::e.args).take i) x).ao+z<=1000000000:=by
    rw[aC]
    rcases a2 with rfl|rfl<;>omega
   refine a3.pre (NZ (Y m) p b _ i aZ cp z y ⟨λ_=>⟨i1,_,N9,aV hw.st rfl,x.b,?_,_,aV pw rfl,_,aap l0.1 l0.2,rfl,_,gS pw rfl rfl,by omega,_,(by show _<k;omega),i+1,_,_,rfl,⟨rfl,rfl,rfl,rfl,rfl,trivial⟩,rfl,by omega,hs,G1.trans (bW.set (b:=x.b) (w.ne x aa)),?_,by simpa using nd⟩,λh=>absurd i1 h⟩) cQ rfl rfl rfl
   · rw[<-o2];exact ee
   · exact(dM (by omega) rfl).trans xL
 · have ox:∀x∈M.map (bump z ((e.ret::e.args).take i)),x.e.id≠(e.ret::e.args)[i]:=λx aa e=>by
     obtain⟨y,aS,rfl⟩:=List.mem_map.1 aa
     exact hex ⟨y,aS,e⟩
   have g1:M.map (bump z ((e.ret::e.args).take (i+1)))=M.map (bump z ((e.ret::e.args).take i)):=by
    refine List.map_congr_left λy aS=>?_
    unfold bump
    rw[snoc y.e.id,if_neg λe=>hex ⟨y,aS,e.symm⟩]
    simp
   refine a3.pre (Z5 (Y m) p b _ i aZ cp z y ⟨λ_=>⟨i1,_,N9,aV hw.st rfl,GV hw.aA ox false,by omega,_,(by show _<k;omega),i+1,_,_,rfl,⟨rfl,rfl,rfl,rfl,rfl,trivial⟩,rfl,by omega,by rw[g1];exact hw,G1,xL,nd⟩,λh=>absurd i1 h⟩) cQ rfl rfl rfl
end Go.Proofs.dj
