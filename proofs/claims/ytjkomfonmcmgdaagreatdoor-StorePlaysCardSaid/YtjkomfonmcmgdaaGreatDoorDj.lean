/-
  PROVED HERE: contracts of functions (Dj). No condition beside each statement's own.
-/
import Derived.Test.YtjkomfonmcmgdaaGreatDoorDh
import Derived.Test.YtjkomfonmcmgdaaGreatDoorSxa
import Derived.Test.YtjkomfonmcmgdaaGreatDoorProg
import Derived.Test.YtjkomfonmcmgdaaGreatDoorDi
set_option linter.unusedVariables false
set_option linter.unusedSimpArgs false
set_option maxRecDepth 100000
set_option maxHeartbeats 1000000
namespace Go.Proofs.kU
open Go bg Go.Proofs ir Go.Proofs.kh
variable {Q:bW->bL->Prop} {R:bE->Prop} (call:aW)
def vn{α:Type}(q:α->Bool):List α->Nat->Option (Nat×α)
 |[],_=>none
 |x::l,j=>if q x=true then some (j,x) else vn q l (j+1)
theorem Ck{α:Type}{q:α->Bool}:∀{l:List α} {j:Nat},(∀x∈l,q x=false)->vn q l j=none
 |[],_,_=>rfl
 |x::l,j,h=>by
  rw[vn,if_neg (by rw[h x (List.mem_cons_self ..)];simp)]
  exact Ck λy aZ=>h y (List.mem_cons_of_mem _ aZ)
theorem Cl{α:Type}{q:α->Bool}{x:α}:∀{l:List α} {j:Nat},x∈l->q x=true->l.Pairwise (λa b=>¬(q a=true/\q b=true))->∃i,vn q l j=some (j+i,x)/\∀(f:α->eH),z0 i (l.map f)=(l.filter λy=>!q y).map f
 |[],_,h,_,_=>by cases h
 |y::l,j,h,aK,a0=>by
  rw[List.pairwise_cons] at a0
  by_cases aZ:q y=true
  · have aa:x=y:=by
      rcases List.mem_cons.1 h with h|h
      · exact h
      · exact absurd ⟨aZ,aK⟩ (a0.1 x h)
    subst aa
    refine⟨0,by rw[vn,if_pos aZ];rfl,λf=>?_⟩
    have e:(x::l).filter (λy=>!q y)=l:=by
     rw[List.filter_cons,aZ]
     have:l.filter (λy=>!q y)=l:=List.filter_eq_self.2 λz a7=>by
      cases zs:q z with
      |true=>exact absurd ⟨aZ,zs⟩ (a0.1 z a7)
      |false=>rfl
     simpa using this
    rw[e];rfl
  · have aa:x∈l:=by
      rcases List.mem_cons.1 h with h|h
      · rw[h] at aK;exact absurd aK aZ
      · exact h
    obtain⟨i,I,ae⟩:=Cl (j:=j+1) aa aK a0.2
    refine⟨i+1,by rw[vn,if_neg aZ,I];congr 2;omega,λf=>?_⟩
    have Cm:q y=false:=by simpa using aZ
    rw[List.map_cons,z0,ae f,List.filter_cons,Cm];rfl
theorem ts{α:Type}{P:Program}{h:ab}{kt:TypeId}{k:ad}{q:α->Bool}{f:α->eH}:∀(l:List α) (j:Nat),(∀x∈l,rk P h kt k (f x).key=some (q x))->k4 P h kt k (l.map f) j=some ((vn q l j).map λr=>(r.1,(f r.2).val))
 |[],_,_=>rfl
 |x::l,j,al=>by
  rw[List.map_cons,k4,al x (List.mem_cons_self ..),vn]
  cases aK:q x with
  |true=>simp
  |false=>
   simp only[Bool.false_eq_true,if_false]
   exact ts l (j+1) λy aZ=>al y (List.mem_cons_of_mem _ aZ)
theorem RQ(a b:Nat):fc (Int.ofNat a) (Int.ofNat b)=decide (a=b):=by
 by_cases h:a=b
 · rw[o2 h,decide_eq_true h]
 · rw[kS h,decide_eq_false h]
def j1(id:Nat):bb:=(List.range 8).map λi=>UInt8.ofNat (id/2^(8*i))
def fs(l:List Nat):bb:=l.flatMap j1
def hl(ns:List bb):bb:=eR [32] ns
structure Mem where
 e:b3
 b:Nat
 dy:Nat
 ed:Nat
 ai:Int
 bA:ad
 aU:ad
abbrev Fw(e:b3):List ad:=[J e.k,.str e.nm,.str (hl e.ns),.str (fs e.args),aC e.ret]
abbrev aeF(e:b3)(ai:Int)(bA aU:ad):List ad:=[J e.k,.str e.nm,.str (hl e.ns),.str (fs e.args),aC e.ret,bA,aU,J e.pins,.int .i64 ai,aC e.used]
def iY(x:Mem):eH:=⟨aC x.e.id,.ptr x.b 0,x.dy⟩
def kG(x:Mem):eH:=⟨.agg (Fw x.e),aC x.e.id,x.ed⟩
def l6(id:Nat)(x:Mem):Bool:=decide (x.e.id=id)
def iK(k:Nat)(nm f p:bb)(r:Nat)(x:Mem):Bool:=decide (k=x.e.k)&&(decide (nm=x.e.nm)&&(decide (f=hl x.e.ns)&&(decide (p=fs x.e.args)&&decide (r=x.e.ret))))
theorem RR(a b c d e:ad):kp an 3 [a,b,c,d,e] 0=some a/\kp an 9 [a,b,c,d,e] 1=some b/\kp an 9 [a,b,c,d,e] 2=some c/\kp an 9 [a,b,c,d,e] 3=some d/\kp an 32 [a,b,c,d,e] 4=some e:=⟨by kernel_rfl,by kernel_rfl,by kernel_rfl,by kernel_rfl,by kernel_rfl⟩
def Cn:List Field->List (TypeId×Nat)
 |[]=>[]
 |f::l=>(f.type,f.offset)::Cn l
theorem RS{P:Program}{E:TypeId->ad->ad->Option Bool}{xs ys:List ad}:∀(b6:List Field) (l:List (TypeId×Nat×ad×ad×Bool)),(b6.all λf=>!decide (f.name= "_"))=true->Cn b6=l.map (λx=>(x.1,x.2.1))->(∀x∈l,kp P x.1 xs x.2.1=some x.2.2.1/\kp P x.1 ys x.2.1=some x.2.2.2.1/\E x.1 x.2.2.1 x.2.2.2.1=some x.2.2.2.2)->eqFields P E xs ys b6=some (l.all λx=>x.2.2.2.2)
 |[],l,_,h,_=>by
  have:l=[]:=by simpa[Cn] using h.symm
  subst this;rfl
 |f::b6,[],_,h,_=>by cases h
 |f::b6,⟨bF,cJ,dh,e1,m1⟩::l,aH,h,aa=>by
  rw[List.all_cons,Bool.and_eq_true] at aH
  obtain⟨I,ae,ax⟩:=aa _ (List.mem_cons_self ..)
  simp only[Cn,List.map_cons,List.cons.injEq,Prod.mk.injEq] at h
  have bl:=RS b6 l aH.2 h.2 λy aZ=>aa y (List.mem_cons_of_mem _ aZ)
  have ai:decide (f.name= "_")=false:=by simpa using aH.1
  rw[eqFields,ai,h.1.1,h.1.2]
  simp only at I ae ax
  simp only[I,ae,ax]
  cases m1 with
  |true=>simp only[bl,List.all_cons,Bool.true_and]
  |false=>rfl
theorem aeG(h:ab)(d a b:Nat):gZ an h (d+1) 3 (J a) (J b)=some (fc (Int.ofNat a) (Int.ofNat b)):=by
 have hu:an.underlying 3=some (.int .i64):=by kernel_rfl
 simp only[gZ,hu,if_true]
theorem aeH(h:ab)(d a b:Nat):gZ an h (d+1) 32 (aC a) (aC b)=some (fc (Int.ofNat a) (Int.ofNat b)):=by
 have hu:an.underlying 32=some (.int .u64):=by kernel_rfl
 simp only[gZ,hu,if_true]
theorem Km(h:ab)(d:Nat)(a b:bb):gZ an h (d+1) 9 (.str a) (.str b)=some (c1 a b):=by
 have hu:an.underlying 9=some .string:=by kernel_rfl
 simp only[gZ,hu]
theorem aeI(h:ab)(k cO r r':Nat)(a b c cW hP c':bb):gZ an h 8 62 (.agg [J k,.str a,.str b,.str c,aC r]) (.agg [J cO,.str cW,.str hP,.str c',aC r'])=some (decide (k=cO)&&(decide (a=cW)&&(decide (b=hP)&&(decide (c=c')&&decide (r=r'))))):=by
 have DQ:(match an.underlying 62 with|some (.struct _)=>true|_=>false)=true:=by kernel_rfl
 obtain⟨b6,nT⟩:∃b6,an.underlying 62=some (.struct b6):=by
  split at DQ
  · rename_i b6 nT;exact⟨b6,nT⟩
  · cases DQ
 have cL:an.stoodInHeld 62=false:=by kernel_rfl
 have iN:(match an.underlying 62 with|some (.struct b6)=>b6.toList.all λf=>!decide (f.name= "_")|_=>false)=true:=by kernel_rfl
 have RT:(match an.underlying 62 with|some (.struct b6)=>Cn b6.toList|_=>[])=[(3,0),(9,1),(9,2),(9,3),(32,4)]:=by kernel_rfl
 rw[nT] at iN RT
 obtain⟨IL,cT,dv,eY,gq⟩:=RR (J k) (.str a) (.str b) (.str c) (aC r)
 obtain⟨qO,a8,a2,bX,eG⟩:=RR (J cO) (.str cW) (.str hP) (.str c') (aC r')
 have e:=RS (P:=an) (E:=gZ an h 7) (xs:=[J k,.str a,.str b,.str c,aC r]) (ys:=[J cO,.str cW,.str hP,.str c',aC r']) b6.toList
  [(3,0,J k,J cO,fc (Int.ofNat k) (Int.ofNat cO)),(9,1,.str a,.str cW,c1 a cW),(9,2,.str b,.str hP,c1 b hP),(9,3,.str c,.str c',c1 c c'),(32,4,aC r,aC r',fc (Int.ofNat r) (Int.ofNat r'))] iN RT (by
    simp only[List.mem_cons,List.not_mem_nil,or_false]
    rintro x (rfl|rfl|rfl|rfl|rfl)
    · exact⟨IL,qO,aeG _ _ _ _⟩
    · exact⟨cT,a8,Km _ _ _ _⟩
    · exact⟨dv,a2,Km _ _ _ _⟩
    · exact⟨eY,bX,Km _ _ _ _⟩
    · exact⟨gq,eG,aeH _ _ _ _⟩)
 have ag:∀x y:bb,c1 x y=decide (x=y):=λx y=>by
  apply Bool.eq_iff_iff.2
  rw[nP];simp
 simp only[List.all_cons,List.all_nil,RQ,ag,Bool.and_true] at e
 rw[<-e]
 have key:∀xs ys:List ad,gZ an h (7+1) 62 (.agg xs) (.agg ys)=eqFields an (gZ an h 7) xs ys b6.toList:=λxs ys=>by
  simp only[gZ,nT,cL]
 exact key _ _
theorem zu:an.underlying 55=some (.map 32 59):=by kernel_rfl
theorem Fx:an.underlying 56=some (.map 62 32):=by kernel_rfl
theorem Fy(id:Nat):nL an 32 (aC id)=true:=by kernel_rfl
theorem Fz(k r:Nat)(a b c:bb):nL an 62 (.agg [J k,.str a,.str b,.str c,aC r])=true:=by kernel_rfl
theorem FA(h:ab)(id:Nat)(x:Mem):rk an h 32 (aC id) (iY x).key=some (l6 id x):=by
 show some (fc (Int.ofNat id) (Int.ofNat x.e.id))=some (decide (x.e.id=id))
 rw[RQ];congr 1;exact decide_eq_decide.2 eq_comm
theorem FB(h:ab)(k r:Nat)(a b c:bb)(x:Mem):rk an h 62 (.agg [J k,.str a,.str b,.str c,aC r]) (kG x).key=some (iK k a b c r x):=by
 unfold rk kG Fw
 simp only
 rw[aeI];rfl
abbrev zv(M:List Mem):Prop:=M.Pairwise λa b=>a.e.id<b.e.id
theorem RU{M:List Mem}(a0:zv M)(id:Nat):M.Pairwise (λa b=>¬(l6 id a=true/\l6 id b=true)):=a0.imp λ{a b} fC ⟨I,ae⟩=>by
 have I:=of_decide_eq_true I
 have ae:=of_decide_eq_true ae
 omega
theorem tt{h:ab}{m c:Nat}{M:List Mem}(hm:h.get m=some (.map (M.map iY) c))(a0:zv M){x:Mem}(aa:x∈M)(ok:Bool):ho an h 55 (.map m) (aC x.e.id) ok=some (if ok=true then .aR [.ptr x.b 0,.bool true] else .ptr x.b 0):=by
 obtain⟨i,I,_⟩:=Cl (j:=0) (q:=l6 x.e.id) aa (decide_eq_true rfl) (RU a0 _)
 simp only[ho,zu,Fy,hm,ts M 0 λy _=>FA h x.e.id y,I,Option.map,rl]
 rfl
theorem Co{h:ab}{m c:Nat}{M:List Mem}(hm:h.get m=some (.map (M.map iY) c)){id:Nat}(aH:∀x∈M,x.e.id≠id)(ok:Bool):ho an h 55 (.map m) (aC id) ok=some (if ok=true then .aR [.aX,.bool false] else .aX):=by
 have I:=Ck (q:=l6 id) (l:=M) (j:=0) λx aa=>decide_eq_false (aH x aa)
 have a7:eT an 59=some .aX:=by kernel_rfl
 simp only[ho,zu,Fy,hm,ts M 0 λy _=>FA h id y,I,Option.map,rl,a7]
theorem aeJ{h:ab}{m c:Nat}{M:List Mem}(hm:h.get m=some (.map (M.map iY) c))(a0:zv M){x:Mem}(aa:x∈M):rp an h 55 (.map m) (aC x.e.id)=some (.aR [],h.set m (some (.map ((M.filter λy=>!l6 x.e.id y).map iY) c))):=by
 obtain⟨i,I,ae⟩:=Cl (j:=0) (q:=l6 x.e.id) aa (decide_eq_true rfl) (RU a0 _)
 simp only[rp,zu,Fy,hm,ts M 0 λy _=>FA h x.e.id y,I,Option.map,Nat.zero_add,ae]
def k2(ns:List bb):Prop:=∀s∈ns,s≠[]/\∀c∈s,c≠32
theorem RV:∀{a b x y:bb},(∀c∈a,c≠32)->(∀c∈b,c≠32)->a++32::x=b++32::y->a=b/\x=y
 |[],[],x,y,_,_,h=>⟨rfl,by simpa using h⟩
 |[],c::b,x,y,_,ag,h=>by
  have:c=32:=by simp at h;exact h.1.symm
  exact absurd this (ag c (by simp))
 |c::a,[],x,y,aV,_,h=>by
  have:c=32:=by simp at h;exact h.1
  exact absurd this (aV c (by simp))
 |c::a,d::b,x,y,aV,ag,h=>by
  have I:c=d/\a++32::x=b++32::y:=by simpa using h
  obtain⟨ae,ax⟩:=RV (λz a7=>aV z (by simp[a7])) (λz a7=>ag z (by simp[a7])) I.2
  exact⟨by rw[I.1,ae],ax⟩
theorem RW{a y:bb}(aV:∀c∈a,c≠32){b:bb}:a=b++32::y->False:=λh=>aV 32 (by rw[h];simp) rfl
theorem FC(l:List bb)(x:bb):(x::l).flatMap (λy=>[32]++y)=32::(x++l.flatMap λy=>[32]++y):=by simp
theorem RX:∀{a b:List bb},k2 a->k2 b->hl a=hl b->a=b
 |[],[],_,_,_=>rfl
 |[],y::b,_,ag,h=>by
  have I:[]=y++b.flatMap (λy=>[32]++y):=h
  have:=(ag y (by simp)).1
  cases y with
  |nil=>exact absurd rfl this
  |cons c y=>cases I
 |x::a,[],aV,_,h=>by
  have I:x++a.flatMap (λy=>[32]++y)=[]:=h
  have:=(aV x (by simp)).1
  cases x with
  |nil=>exact absurd rfl this
  |cons c y=>cases I
 |[x],[y],_,_,h=>by
  have I:x++[]=y++[]:=h
  rw[List.append_nil,List.append_nil] at I
  rw[I]
 |[x],y::z::b,aV,ag,h=>by
  have I:x++[]=y++(z::b).flatMap (λy=>[32]++y):=h
  rw[FC,List.append_nil] at I
  exact(RW (aV x (by simp)).2 I).elim
 |x::z::a,[y],aV,ag,h=>by
  have I:x++(z::a).flatMap (λy=>[32]++y)=y++[]:=h
  rw[FC,List.append_nil] at I
  exact(RW (ag y (by simp)).2 I.symm).elim
 |x::z::a,y::w::b,aV,ag,h=>by
  have I:x++(z::a).flatMap (λy=>[32]++y)=y++(w::b).flatMap (λy=>[32]++y):=h
  rw[FC,FC] at I
  obtain⟨ae,ax⟩:=RV (aV x (by simp)).2 (ag y (by simp)).2 I
  have aN:=RX (a:=z::a) (b:=w::b) (λs al=>aV s (List.mem_cons_of_mem _ al)) (λs al=>ag s (List.mem_cons_of_mem _ al)) ax
  rw[ae,aN]
theorem xk(i:Nat):(j1 i).length=8:=by simp[j1]
theorem aeK{i j:Nat}(hi:i<18446744073709551616)(aO:j<18446744073709551616)(h:j1 i=j1 j):i=j:=by
 have key:∀k,k<8->i/2^(8*k) %256=j/2^(8*k) %256:=λk ay=>by
  have I:(j1 i)[k]? =(j1 j)[k]? :=by rw[h]
  unfold j1 at I
  rw[List.getElem?_map,List.getElem?_map,List.getElem?_range ay] at I
  simp only[Option.map_some,Option.some.injEq] at I
  have:=congrArg UInt8.toNat I
  simpa using this
 have jy:=key 0 (by omega)
 have bG:=key 1 (by omega)
 have b0:=key 2 (by omega)
 have dF:=key 3 (by omega)
 have gA:=key 4 (by omega)
 have hg:=key 5 (by omega)
 have jM:=key 6 (by omega)
 have AP:=key 7 (by omega)
 simp only[Nat.reduceMul,Nat.reducePow] at jy bG b0 dF gA hg jM AP
 omega
theorem RY:∀{a b:List Nat},(∀i∈a,i<18446744073709551616)->(∀i∈b,i<18446744073709551616)->fs a=fs b->a=b
 |[],[],_,_,_=>rfl
 |[],j::b,_,_,h=>by
  have:=congrArg List.length h
  simp[fs,xk] at this
  omega
 |i::a,[],_,_,h=>by
  have:=congrArg List.length h
  simp[fs,xk] at this
 |i::a,j::b,aV,ag,h=>by
  have I:j1 i++fs a=j1 j++fs b:=h
  obtain⟨ae,ax⟩:=List.append_inj I (by rw[xk,xk])
  rw[aeK (aV i (by simp)) (ag j (by simp)) ae,RY (λx aa=>aV x (by simp[aa])) (λx aa=>ag x (by simp[aa])) ax]
theorem RZ{x:Mem}{k:Nat}{nm:bb}{ns:List bb}{az:List Nat}{r:Nat}(aa:k2 x.e.ns)(aH:k2 ns)(I:∀i∈x.e.args,i<18446744073709551616)(ae:∀i∈az,i<18446744073709551616):iK k nm (hl ns) (fs az) r x=x.e.is k nm ns az r:=by
 apply Bool.eq_iff_iff.2
 rw[sa]
 unfold iK
 simp only[Bool.and_eq_true,decide_eq_true_eq]
 constructor
 · rintro⟨cu,cU,dm,e0,ey⟩
   exact⟨cu.symm,cU.symm,(RX aH aa dm).symm,(RY ae I e0).symm,ey.symm⟩
 · rintro⟨cu,cU,dm,e0,ey⟩
   exact⟨cu.symm,cU.symm,by rw[dm],by rw[e0],ey.symm⟩
theorem aeL{h:ab}{m c:Nat}{M:List Mem}(hm:h.get m=some (.map (M.map kG) c)){k r:Nat}{nm f p:bb}(a0:M.Pairwise λa b=>¬(iK k nm f p r a=true/\iK k nm f p r b=true)){x:Mem}(aa:x∈M)(aK:iK k nm f p r x=true):ho an h 56 (.map m) (.agg [J k,.str nm,.str f,.str p,aC r]) true=some (.aR [aC x.e.id,.bool true]):=by
 obtain⟨i,I,_⟩:=Cl (j:=0) (q:=iK k nm f p r) aa aK a0
 simp only[ho,Fx,Fz,hm,ts M 0 λy _=>FB h k r nm f p y,I,Option.map,rl]
 rfl
theorem aeM{h:ab}{m c:Nat}{M:List Mem}(hm:h.get m=some (.map (M.map kG) c)){k r:Nat}{nm f p:bb}(aH:∀x∈M,iK k nm f p r x=false):ho an h 56 (.map m) (.agg [J k,.str nm,.str f,.str p,aC r]) true=some (.aR [aC 0,.bool false]):=by
 have I:=Ck (q:=iK k nm f p r) (l:=M) (j:=0) aH
 have a7:eT an 32=some (aC 0):=by kernel_rfl
 simp only[ho,Fx,Fz,hm,ts M 0 λy _=>FB h k r nm f p y,I,Option.map,rl,a7]
 rfl
theorem aeN{h:ab}{m c:Nat}{M:List Mem}(hm:h.get m=some (.map (M.map kG) c)){k r:Nat}{nm f p:bb}(a0:M.Pairwise λa b=>¬(iK k nm f p r a=true/\iK k nm f p r b=true)){x:Mem}(aa:x∈M)(aK:iK k nm f p r x=true):rp an h 56 (.map m) (.agg [J k,.str nm,.str f,.str p,aC r])=some (.aR [],h.set m (some (.map ((M.filter λy=>!iK k nm f p r y).map kG) c))):=by
 obtain⟨i,I,ae⟩:=Cl (j:=0) (q:=iK k nm f p r) aa aK a0
 simp only[rp,Fx,Fz,hm,ts M 0 λy _=>FB h k r nm f p y,I,Option.map,Nat.zero_add,ae]
theorem aeO(m:Nat)(v:ad)(h:ab)(H:∃aB,bV an h 63 v=some (J aB)/\aB=0/\R (.ret (.str []) h)):
  R (Y (m+1) (.fn 46) [v,.str [32]] h):=
 dB [(1013,.t)] [0] Tryz.func46 H
theorem aeP(m b off N:Nat)(cp:ct)(h:ab)(H:¬N=0/\(N=1->0<N/\∃s1,aq h b (off+0*1)=some (.str s1)/\R (.ret (.str s1) h))/\(¬N=1->(0<1->(1<=N/\N<9223372036854775808)/\∃aB,arith .quo .i64 (.ofNat 9223372036854775807) (.ofNat (N-1))=some (J aB)/\¬aB<=1/\(1<=N/\N<9223372036854775808)/\1*(N-1)<9223372036854775808/\0+1*(N-1)<9223372036854775808/\bp an Tryz.f46 (Y m) [1,1,1,1,0,1,0] (aj [(0,.slice b off N cp),(1,.str [32]),(5,J (0+1*(N-1))),(39,.slice b off N cp),(40,J N),(41,J 0)] h) (λb2 cc=>∃aY ak bt,b2=.exit 1/\cc=aj bt ak/\bY [(0,.slice b off N cp),(1,.str [32]),(5,J aY)] bt/\∃av,Y m (.fn 74) [af ak.n,J aY] (ab.push ak (aQ [.aX,.aP] 92))=.ret (.aR []) av/\0<N/\∃s2,aq av b (off+0*1)=some (.str s2)/\∃bd v1 aD,Y m (.fn 44) [af ak.n,.str s2] av=.ret (.aR [J bd,v1]) aD/\∃bj bC bP,∃aM:ct,dC an aD 63 (.slice b off N cp) (some (J 1)) none none=some (.slice bj bC bP aM)/\bp an Tryz.f46 (Y m) [1,1,1,1,1,1,1,1,0,1,0] (aj [(1,.str [32]),(8,af ak.n),(63,.slice bj bC bP aM),(64,J bP),(65,J 0)] aD) (λb2 cc=>∃cd a4 bw,b2=.exit 3/\cc=aj bw a4/\bY [(8,af cd)] bw/\∃b1 bk,Y m (.fn 47) [af cd] a4=.ret (.str b1) bk/\R (.ret (.str b1) bk))))/\(¬0<1->bp an Tryz.f46 (Y m) [1,1,1,1,0,1,0] (aj [(0,.slice b off N cp),(1,.str [32]),(5,J 0),(39,.slice b off N cp),(40,J N),(41,J 0)] h) (λb2 cc=>∃cR cQ dL,b2=.exit 1/\cc=aj dL cQ/\bY [(0,.slice b off N cp),(1,.str [32]),(5,J cR)] dL/\∃dO,Y m (.fn 74) [af cQ.n,J cR] (ab.push cQ (aQ [.aX,.aP] 92))=.ret (.aR []) dO/\0<N/\∃b_,aq dO b (off+0*1)=some (.str b_)/\∃dD v2 dW,Y m (.fn 44) [af cQ.n,.str b_] dO=.ret (.aR [J dD,v2]) dW/\∃dX eE e9,∃bf:ct,dC an dW 63 (.slice b off N cp) (some (J 1)) none none=some (.slice dX eE e9 bf)/\bp an Tryz.f46 (Y m) [1,1,1,1,1,1,1,1,0,1,0] (aj [(1,.str [32]),(8,af cQ.n),(63,.slice dX eE e9 bf),(64,J e9),(65,J 0)] dW) (λb2 cc=>∃fw gJ h8,b2=.exit 3/\cc=aj h8 gJ/\bY [(8,af fw)] h8/\∃cI iH,Y m (.fn 47) [af fw] gJ=.ret (.str cI) iH/\R (.ret (.str cI) iH)))))):
  R (Y (m+1) (.fn 46) [.slice b off N cp,.str [32]] h):=
 dB [(1013,.f),(1029,.f),(63,.a1 .gN),(4001,.fj [0,1,5,39,40,41] [(.exit 1,[(0,.is (.slice b off N cp)),(1,.is (.str [32])),(5,.n .i64)])]),(4003,.fj [1,8,63,64,65] [(.exit 3,[(8,.p)])])] [] Tryz.func46 H
theorem aeQ(b off N i n:Nat)(cp:ct)(h:ab)(H:(i<N->i<N/\∃s1,aq h b (off+i*1)=some (.str s1)/\(n<=9223372036854775807/\9223372036854775807<9223372036854775808)/\¬9223372036854775807-n<List.length s1/\n+List.length s1<9223372036854775808/\i+1<9223372036854775808/\Q .nrm (aj [(0,.slice b off N cp),(1,.str [32]),(5,J (n+List.length s1)),(39,.slice b off N cp),(40,J N),(41,J (i+1))] h))/\(¬i<N->Q (.exit 1) (aj [(0,.slice b off N cp),(1,.str [32]),(5,J n),(39,.slice b off N cp),(40,J N),(41,J i)] h))):
  bp an Tryz.f46 call [1,1,1,1,0,1,0,0] (aj [(0,.slice b off N cp),(1,.str [32]),(5,J n),(39,.slice b off N cp),(40,J N),(41,J i)] h) Q:=
 c3 [(1049,.f)] [0,1,5,39,40,41] [] H
theorem aeR(w b off N i:Nat)(cp:ct)(h:ab)(H:(i<N->i<N/\∃s1,aq h b (off+i*1)=some (.str s1)/\∃aB v1 ak,call (.fn 44) [af w,.str [32]] h=.ret (.aR [J aB,v1]) ak/\∃aY v2 av,call (.fn 44) [af w,.str s1] ak=.ret (.aR [J aY,v2]) av/\i+1<9223372036854775808/\Q .nrm (aj [(1,.str [32]),(8,af w),(63,.slice b off N cp),(64,J N),(65,J (i+1))] av))/\(¬i<N->Q (.exit 3) (aj [(1,.str [32]),(8,af w),(63,.slice b off N cp),(64,J N),(65,J i)] h))):
  bp an Tryz.f46 call [1,1,1,1,1,1,1,1,0,1,0,0] (aj [(1,.str [32]),(8,af w),(63,.slice b off N cp),(64,J N),(65,J i)] h) Q:=
 c3 [] [1,8,63,64,65] [] H
theorem aeS(m b n:Nat)(h:ab)(H:∃ak,Y m (.fn 73) [af b] h=.ret (.aR []) ak/\¬n<0/\∃v1,aq (ak.room 13) b 1=some v1/\∃aB,xL an 27 v1=some (J aB)/\∃v2,aq (ak.room 13) b 1=some v2/\∃aY,bV an (ak.room 13) 27 v2=some (J aY)/\(aY<=aB/\aB<9223372036854775808)/\cr v1/\cr v2/\aB-aY<n/\∃av,Y m (.fn 102) [af b,J n] (ak.room 13)=.ret (.aR []) av/\R (.ret (.aR []) av)):
  R (Y (m+1) (.fn 74) [af b,J n] h):=
 dB [(1007,.f),(1021,.t)] [] Tryz.func74 H
theorem aeT(m b n:Nat)(h:ab)(H:∃v1,aq (h.room 16) b 1=some v1/\∃aB,xL an 27 v1=some (J aB)/\2*aB<9223372036854775808/\2*aB+n<9223372036854775808/\∃aY bd bj,∃aM:ct,∃ak,Y m (.fn 112) [J (2*aB+n)] (h.room 16)=.ret (.slice aY bd bj aM) ak/\∃v2,aq ak b 1=some v2/\∃bC,bV an ak 27 v2=some (J bC)/\∃b8,dC an ak 27 (.slice aY bd bj aM) none (some (J bC)) none=some b8/\cr v1/\cr v2/\aq (h.room 16) b 1=some v2/\cr b8/\cr b8/\∃v4,aq ak b 1=some v4/\∃bP av,xM an ak 27 b8 v4=some (J bP,av)/\g4 b8/\∃aD,bg.storeCells av b 1 [b8]=some aD/\R (.ret (.aR []) aD)):
  R (Y (m+1) (.fn 102) [af b,J n] h):=
 dB [(13,.a1 .gN)] [] Tryz.func102 H
theorem aeU(m id:Nat)(h:ab)(H:∃v1 ak,D7 an h 27 (J 8) (J 8)=some (v1,ak)/\∃aB,bV an ak 27 v1=some (J aB)/\bp an Tryz.f45 (Y m) [1,1,0,1,0] (aj [(0,aC id),(3,v1),(7,J aB),(8,J 0)] ak) (λb2 cc=>∃aY bd bj,∃aM:ct,∃av bt,b2=.exit 0/\cc=aj bt av/\bY [(3,.slice aY bd bj aM)] bt/\∃s1,hp an 27 9 (.slice aY bd bj aM) av=ia.val (.str s1) av/\R (.ret (.str s1) av))):
  R (Y (m+1) (.fn 45) [aC id] h):=
 dB [(4000,.fj [0,3,7,8] [(.exit 0,[(3,.gN)])])] [] Tryz.func45 H
theorem aeV(id b i:Nat)(cp:ct)(h:ab)(H:(i<8->8*i<9223372036854775808/\∃aB,tL .shr .u64 (.ofNat id) (.ofNat (8*i))=some (aC aB)/\∃aY,hp an 32 5 (aC aB) h=ia.val (b4 aY) h/\i<8/\∃ak,bg.storeCells h b (0+i*1) [b4 aY]=some ak/\i+1<9223372036854775808/\Q .nrm (aj [(0,aC id),(3,.slice b 0 8 cp),(7,J 8),(8,J (i+1))] ak))/\(¬i<8->Q (.exit 0) (aj [(0,aC id),(3,.slice b 0 8 cp),(7,J 8),(8,J i)] h))):
  bp an Tryz.f45 call [1,1,0,1,0,0] (aj [(0,aC id),(3,.slice b 0 8 cp),(7,J 8),(8,J i)] h) Q:=
 c3 [(16,.a1 (.n .u64)),(17,.a1 (.n .u8))] [0,3,7,8] [] H
theorem aeW(m p e:Nat)(z:Int)(h:ab)(H:∃aB,aq (h.room 13) e 4=some (aC aB)/\∃v1,aq (ab.set (h.room 13) (h.n+5) (some (aQ [aC aB] 32))) e 6=some v1/\∃aY bd bj,∃aM:ct,∃ak,dJ an (ab.set (h.room 13) (h.n+5) (some (aQ [aC aB] 32))) 44 (some 44) (.slice (h.n+5) 0 1 (.exact 1)) v1=some (.slice aY bd bj aM,ak)/\aq (ab.set (h.room 13) (h.n+5) (some (aQ [aC aB] 32))) e 4=some (aC aB)/\cr v1/\bp an Tryz.f41 (Y m) [1,0] (aj [(0,af p),(2,.int .i64 z),(19,.slice aY bd bj aM),(20,J bj),(21,J 0)] ak) (λb2 cc=>∃av bt,b2=.exit 0/\cc=aj bt av/\bY [] bt/\R (.ret (.aR []) av))):
  R (Y (m+1) (.fn 41) [af p,af e,.int .i64 z] h):=
 dB [(19,.a1 .gN),(4000,.fj [0,2,19,20,21] [(.exit 0,[])])] [] Tryz.func41 H
theorem R0(p b N i m:Nat)(cp:ct)(z:Int)(h:ab)(H:(i<N->i<N/\∃aB,aq h b (0+i*1)=some (aC aB)/\aq h p 3=some (.map m)/\∃aY,ho an h 55 (.map m) (aC aB) false=some (af aY)/\∃dS:Int,aq h aY 8=some (.int .i64 dS)/\∃gb:Int,arith .add .i64 dS z=some (.int .i64 gb)/\ad.de (.int .i64 gb)=true/\∃ak,bg.storeCells h aY 8 [.int .i64 gb]=some ak/\i+1<9223372036854775808/\Q .nrm (aj [(0,af p),(2,.int .i64 z),(19,.slice b 0 N cp),(20,J N),(21,J (i+1))] ak))/\(¬i<N->Q (.exit 0) (aj [(0,af p),(2,.int .i64 z),(19,.slice b 0 N cp),(20,J N),(21,J i)] h))):
  bp an Tryz.f41 call [1,0,0] (aj [(0,af p),(2,.int .i64 z),(19,.slice b 0 N cp),(20,J N),(21,J i)] h) Q:=
 c3 [(28,.a1 (.is (.map m))),(30,.a1 .p),(36,.a1 (.z .i64)),(38,.a1 (.z .i64))] [0,2,19,20,21] [] H
theorem aeX(p b N i m:Nat)(cp:ct)(z:Int)(h:ab)(H:(i<N->i<N/\∃aB,aq h b (0+i*1)=some (aC aB)/\aq h p 3=some (.map m)/\ho an h 55 (.map m) (aC aB) false=some .aX/\i+1<9223372036854775808/\Q .nrm (aj [(0,af p),(2,.int .i64 z),(19,.slice b 0 N cp),(20,J N),(21,J (i+1))] h))/\(¬i<N->Q (.exit 0) (aj [(0,af p),(2,.int .i64 z),(19,.slice b 0 N cp),(20,J N),(21,J i)] h))):
  bp an Tryz.f41 call [1,0,0] (aj [(0,af p),(2,.int .i64 z),(19,.slice b 0 N cp),(20,J N),(21,J i)] h) Q:=
 c3 [(28,.a1 (.is (.map m))),(30,.a1 (.is .aX))] [0,2,19,20,21] [] H
def q5(id i:Nat):List UInt8:=(List.range 8).map λk=>if k<i then UInt8.ofNat (id/2^(8*k)) else 0
theorem aeY(id:Nat):q5 id 8=j1 id:=by
 unfold q5 j1
 refine List.map_congr_left λk ay=>?_
 rw[if_pos (List.mem_range.1 ay)]
theorem aeZ{l:List UInt8}{i:Nat}{c:UInt8}:(dR l).set i (b4 c.toNat)=dR (l.set i c):=by
 induction l generalizing i with
 |nil=>rfl
 |cons x l bl=>
  cases i with
  |zero=>rfl
  |succ i=>simp only[dR,List.set_cons_succ,bl]
theorem ae0{id i:Nat}(hi:i<8):(q5 id i).set i (UInt8.ofNat (id/2^(8*i)))=q5 id (i+1):=by
 apply List.ext_getElem (by simp[q5])
 intro k I ae
 simp only[q5,List.getElem_set,List.getElem_map,List.getElem_range]
 by_cases h:i=k
 · subst h;simp
 · rw[if_neg h]
   by_cases ay:k<i
   · rw[if_pos ay,if_pos (by omega)]
   · rw[if_neg ay,if_neg (by omega)]
theorem Kn(l:List UInt8):(dR l).length=l.length:=by
 induction l with
 |nil=>rfl
 |cons x l bl=>simp[dR,bl]
theorem ae1(m id:Nat)(h:ab)(jf:id<18446744073709551616):∃g,Y (m+1) (.fn 45) [aC id] h=.ret (.str (j1 id)) g/\Ext h.n h g:=by
 obtain⟨H,cy⟩:∃H,H=h.push (aQ (dR (q5 id 0)) 5):=⟨_,rfl⟩
 have dY:Ext h.n h H:=by rw[cy];exact Ext.push (Nat.le_refl _) _
 have aG:D7 an h 27 (J 8) (J 8)=some (.slice h.n 0 8 (.exact 8),H):=by rw[cy];kernel_rfl
 refine aeU m id h (R:=λx=>∃g,x=.ret (.str (j1 id)) g/\Ext h.n h g) ⟨_,H,aG,8,rfl,?_⟩
 refine e8 (λk st=>∃i y Γ,st=aks Γ y/\bY [(0,aC id),(3,.slice h.n 0 8 (.exact 8)),(7,J 8),(8,J i)] Γ/\8-i=k/\i<=8/\Ext h.n h y/\y.get h.n=some (aQ (dR (q5 id i)) 5)) ?_ 8 _ (by omega) ⟨0,H,_,rfl,⟨rfl,rfl,rfl,rfl,trivial⟩,by omega,by omega,dY,by rw[cy];exact e7 rfl⟩
 rintro k st ⟨i,y,Γ,rfl,cn,ay,hi,aZ,ar⟩
 have xb:(q5 id i).length=8:=by simp[q5]
 refine ei (aeV (Y m) id h.n i (.exact 8) y ⟨λi1=>?_,λi1=>?_⟩) cn
 · have a1:tL .shr .u64 (Int.ofNat id) (Int.ofNat (8*i))=some (aC (id/2^(8*i))):=by
     have I:¬(Int.ofNat (8*i)<0):=Int.not_lt.2 (Int.natCast_nonneg _)
     have ae:min (Int.ofNat (8*i)).toNat (IntKind.bits .u64)=8*i:=by
      show min (8*i) 64=8*i
      omega
     simp only[tL,if_neg I,ae]
     have ax:((2:Int)^(8*i))=Int.ofNat (2^(8*i)):=by simp
     rw[ax]
     exact congrArg (λz=>some (ad.int .u64 z)) (Int.ofNat_fdiv _ _).symm
   have sF:hp an 32 5 (aC (id/2^(8*i))) y=.val (b4 (UInt8.ofNat (id/2^(8*i))).toNat) y:=by
    have e:(UInt8.ofNat (id/2^(8*i))).toNat=id/2^(8*i) %256:=by simp
    rw[e]
    exact Ev (ka:=.u64) (by kernel_rfl) (by kernel_rfl) (wrap_u8 _)
   obtain⟨g,m5⟩:∃g,g=y.set h.n (some (aQ (dR (q5 id (i+1))) 5)):=⟨_,rfl⟩
   have st:bg.storeCells y h.n (0+i*1) [b4 (UInt8.ofNat (id/2^(8*i))).toNat]=some g:=by
    rw[m5,<-ae0 i1,<-aeZ]
    exact eV ar rfl (by rw[show 0+i*1=i by omega];exact pe _ rfl _ i (by rw[Kn,xb];exact i1))
   refine⟨by omega,_,a1,_,sF,i1,g,st,by omega,_,(by show _<k;omega),i+1,g,_,rfl,⟨rfl,rfl,rfl,rfl,trivial⟩,rfl,by omega,?_,by rw[m5];exact eK rfl⟩
   rw[m5];exact Ext.hQ (Nat.le_refl _) aZ
 · obtain rfl:i=8:=by omega
   rw[aeY] at ar
   have sF:hp an 27 9 (.slice h.n 0 8 (.exact 8)) y=.val (.str (j1 id)) y:=by
    have gO:an.underlying 27=some (.slice 5):=by kernel_rfl
    have j9:an.underlying 9=some .string:=by kernel_rfl
    have lH:an.underlying 5=some (.int .u8):=by kernel_rfl
    have pf:bg.loadCells y h.n 0 8=some (dR (j1 id)):=by
     refine lU ar ?_
     have:=H5 (dR (j1 id)) [] 8 (by rw[Kn,xk])
     rw[List.append_nil] at this
     exact this
    simp only[hp,gO,j9,lH,pf,H3]
   exact⟨h.n,0,8,.exact 8,y,_,rfl,rfl,⟨rfl,trivial⟩,j1 id,sF,y,rfl,aZ⟩
theorem ae2(n b B:Nat)(h:ab)(v:ad)(w s:List UInt8)(ar:h.get b=some (aQ [.ptr b 0,v] 92))(Fc:rP B 5 h v w)(mz:b<B)(ac8:B<=h.n)(dr:w++s≠[])(aA:w.length+s.length<=1000000000):∃aw,Y (n+3) (.fn 44) [.ptr b 0,.str s] h=.ret (.aR [J s.length,.fU]) aw/\lk B b aw (w++s)/\mV b B h aw:=by
 obtain⟨I,aM,ak,aB,dy⟩:=Jz n b h v (by omega) (.inr ar)
 have bn:rP B 5 I v w:=Fc.ext (by omega) λc ah _=>dy c (by omega)
 obtain⟨i,xd,Fe,kO⟩:=QP
 obtain⟨v',ae,cu,cU,dm⟩:=Ox (P:=an) (B:=B) (sT:=27) (xT:=some 9) (e:=5) (z:=b4 0) (by omega) (by kernel_rfl) (by kernel_rfl) xd Fe (by kernel_rfl) rfl (QQ kO aA) bn
 have av:=(dm.get b mz).trans ak
 have aH:=dm.n
 refine⟨ae.set b (some (aQ [.ptr b 0,v'] 92)),?_,⟨.ptr b 0,v',eK rfl,.inr rfl,cU.ext (by simp) λc ah _=>cX (by omega) rfl,mz,by simp;omega,λe=>absurd e dr⟩,⟨by simp;omega,λc ah mK=>cX mK ((dm.get c ah).trans (dy c mK))⟩⟩
 rcases cU with⟨rfl,_⟩|⟨c,r,rfl,_⟩
 · exact gR (intr:=ea) (n:=n+2) (args:=[.ptr b 0,.str s]) Tryz.func44 (QL (Y (n+2)) b s v h ae I _ aM (aF ak rfl) cu (eV av rfl rfl)) (.inl rfl) (by kernel_rfl)
 · exact gR (intr:=ea) (n:=n+2) (args:=[.ptr b 0,.str s]) Tryz.func44 (bws (Y (n+2)) b c _ s v h ae I _ aM (aF ak rfl) cu (eV av rfl rfl)) (.inl rfl) (by kernel_rfl)
theorem ae3(n m:Nat)(h:ab)(hm:m<=1000000000):Y (n+1) (.fn 112) [J m] h=.ret (.slice h.n 0 m (.aL 1)) (h.push (.cells (List.replicate m .bad) 5 .aL 0 0)):=by
 have hle:Nat.ble m 1099511627776=true:=by simp;omega
 have aG:(Tryz.f112).resultTypes[0]? =some 27:=by kernel_rfl
 have aE:an.underlying 27=some (.slice 5):=by kernel_rfl
 have bH:(Tryz.f112).body=none:=by kernel_rfl
 have eu:(Tryz.f112).name= "internal/bytealg.MakeNoZero" :=by kernel_rfl
 have eZ:ea 112 [J m] h=none:=rfl
 have e4:tP an Tryz.f112 "internal/bytealg.MakeNoZero" [J m] h=some (.slice h.n 0 m (.aL 1),h.push (.cells (List.replicate m .bad) 5 .aL 0 0)):=by
  simp only[tP,aG,aE,hle];rfl
 show fF an ea (n+1) _ _ _=_
 simp only[fF,eZ,su,Tryz.func112,bH,eu,e4]
theorem ae4(n b m:Nat)(h:ab)(ag:b<h.n)(ar:h.get b=some (aQ [.aX,.aP] 92))(h0:0<m)(hm:m<=1000000000):∃g c,Y (n+3) (.fn 74) [.ptr b 0,J m] h=.ret (.aR []) g/\g.get b=some (aQ [.ptr b 0,.slice c 0 0 (.aL 1)] 92)/\rP h.n 5 g (.slice c 0 0 (.aL 1)) []/\mV b h.n h g:=by
 obtain⟨I,aM,ak,aB,dy⟩:=Jz n b h .aP ag (.inl ar)
 obtain⟨H,cy⟩:∃H,H=(I.room 13).room 16:=⟨_,rfl⟩
 have lj:H.n=I.n+29:=by rw[cy];simp
 have u_:H.get b=some (aQ [.ptr b 0,.aP] 92):=by rw[cy];exact ak
 obtain⟨bh,Cp⟩:∃bh,bh=H.push (.cells (List.replicate m .bad) 5 .aL 0 0):=⟨_,rfl⟩
 have Ko:bh.get b=some (aQ [.ptr b 0,.aP] 92):=by rw[Cp];exact nn (by omega) u_
 have R2:=ae3 n (0+m) H (by omega)
 obtain⟨bD,Cq⟩:∃bD,bD=bh.set b (some (aQ [.ptr b 0,.slice H.n 0 0 (.aL 1)] 92)):=⟨_,rfl⟩
 have ks:dC an bh 27 (.slice H.n 0 (0+m) (.aL 1)) none (some (J 0)) none=some (.slice H.n 0 0 (.aL 1)):=E9 (E:=5) (by kernel_rfl) (by kernel_rfl) (Nat.zero_le _)
 have Kg:xM an bh 27 (.slice H.n 0 0 (.aL 1)) .aP=some (J 0,bh):=by kernel_rfl
 have ae5:Y (n+2) (.fn 102) [.ptr b 0,J m] (I.room 13)=.ret (.aR []) bD:=by
  rw[Nat.zero_add] at R2 ks
  refine aeT (n+1) b m (I.room 13) (R:=λx=>x=.ret (.aR []) bD) ?_
  rw[<-cy]
  refine⟨.aP,aF u_ rfl,0,rfl,by omega,by omega,H.n,0,m,.aL 1,bh,?_,.aP,aF Ko rfl,0,rfl,_,ks,rfl,rfl,aF u_ rfl,rfl,rfl,.aP,aF Ko rfl,0,bh,Kg,rfl,bD,by rw[Cq];exact eV Ko rfl rfl,rfl⟩
  rw[show 2*0+m=m by omega,Cp];exact R2
 have bd:bD.n=H.n+1:=by rw[Cq,Cp];rfl
 refine⟨bD,H.n,aeS (n+2) b m h (R:=λx=>x=.ret (.aR []) bD) ⟨I,aM,by omega,.aP,aF (h:=I.room 13) ak rfl,0,rfl,.aP,aF (h:=I.room 13) ak rfl,0,rfl,by omega,rfl,rfl,by omega,bD,ae5,rfl⟩,by rw[Cq];exact eK rfl,.inr ⟨H.n,List.replicate m .bad,rfl,?_,by omega,by omega⟩,⟨by omega,λc ah mK=>?_⟩⟩
 · rw[Cq]
   refine cX (by omega) ?_
   rw[Cp];exact e7 rfl
 · rw[Cq]
   refine cX mK ?_
   rw[Cp]
   refine nn (by omega) ?_
   rw[cy];exact dy c mK
theorem Kp(c:Nat):∀a b:List bb,gI c (a++b)=gI c a+gI c b
 |[],b=>by rw[gI,List.nil_append];omega
 |x::a,b=>by rw[List.cons_append,gI,Kp c a b,gI];omega
theorem Kq(c:Nat)(l:List bb)(i:Nat):gI c (l.take i)<=gI c l:=by
 have:=Kp c (l.take i) (l.drop i)
 rw[List.take_append_drop] at this
 omega
theorem FD(l:List bb)(i:Nat):(eR [32] (l.take i)).length<=gI 1 l:=Nat.le_trans (ET [32] _) (Kq 1 l i)
theorem ae6(m:Nat){F:Nat->Prop}{h:ab}{v:ad}{ns:List bb}(aI:ll F h v (ns.map .str))(gU:∀b,F b->b<h.n)(aH:∀s∈ns,s≠[])(aA:ns.length<=1000)(bm:gI 1 ns<=1000000):∃g,Y (m+4) (.fn 46) [v,.str [32]] h=.ret (.str (hl ns)) g/\Ext h.n h g:=by
 rcases aI with⟨rfl,e⟩|⟨b,off,cp,rfl,ag,ax,aN,bS,cz⟩
 · obtain rfl:ns=[]:=by simpa using e
   exact⟨h,aeO (m+3) .aP h (R:=λx=>x=.ret (.str (hl [])) h) ⟨0,rfl,rfl,rfl⟩,Ext.refl _ _⟩
 have ag:=gU b ag
 rw[List.length_map] at aN cz⊢
 have gf:∀{x},Ext h.n h x->∀i (hi:i<ns.length),aq x b (off+i*1)=some (.str ns[i]):=λe i hi=>by
  rw[iD e ag (ax i (by rw[List.length_map];exact hi))];simp
 refine aeP (m+3) b off ns.length cp h (R:=λx=>∃g,x=.ret (.str (hl ns)) g/\Ext h.n h g) ⟨by omega,λaB=>?_,λaB=>⟨λ_=>?_,λh=>absurd (by omega) h⟩⟩
 · refine⟨aN,_,gf (Ext.refl _ _) 0 aN,h,?_,Ext.refl _ _⟩
   cases ns with
   |nil=>cases aB
   |cons x l=>
    obtain rfl:l=[]:=by simpa using aB
    show _=bE.ret (.str (x++[])) h
    rw[List.append_nil];rfl
 have aK:∃q,arith .quo .i64 (Int.ofNat 9223372036854775807) (Int.ofNat (ns.length-1))=some (J q)/\¬q<=1:=by
  refine⟨9223372036854775807/(ns.length-1),?_,?_⟩
  · have I:¬Int.ofNat (ns.length-1)=0:=λh=>by have ae:((ns.length-1:Nat):Int)=0:=h;omega
    have ae:9223372036854775807/(ns.length-1)<9223372036854775808:=Nat.lt_of_le_of_lt (Nat.div_le_self _ _) (by omega)
    simp only[arith]
    rw[if_neg I]
    have ax:(Int.ofNat 9223372036854775807).tdiv (Int.ofNat (ns.length-1))=((9223372036854775807/(ns.length-1):Nat):Int):=rfl
    rw[ax,tZ _ ae]
    rfl
  · have:2<=9223372036854775807/(ns.length-1):=(Nat.le_div_iff_mul_le (by omega)).2 (by omega)
    omega
 obtain⟨q,a8,a2⟩:=aK
 refine⟨⟨by omega,by omega⟩,q,a8,a2,⟨by omega,by omega⟩,by omega,by omega,?_⟩
 refine e8 (λk st=>∃i n Γ,st=aks Γ h/\bY [(0,.slice b off ns.length cp),(1,.str [32]),(5,J n),(39,.slice b off ns.length cp),(40,J ns.length),(41,J i)] Γ/\ns.length-i=k/\i<=ns.length/\0<n/\n<=1000+gI 1 (ns.take i)) ?_ ns.length _ (by omega) ⟨0,_,_,rfl,⟨rfl,rfl,rfl,rfl,rfl,rfl,trivial⟩,by omega,by omega,by omega,by omega⟩
 rintro k st ⟨i,n,Γ,rfl,cn,ay,hi,Ao,sB⟩
 have yi:=Kq 1 ns i
 refine ei (aeQ (Y (m+3)) b off _ i n cp h ⟨λi1=>?_,λi1=>?_⟩) cn
 · have e:gI 1 (ns.take (i+1))=gI 1 (ns.take i)+(ns[i].length+1):=by
     rw[List.take_succ_eq_append_getElem i1,Kp,gI,gI]
   have aj2:=Kq 1 ns (i+1)
   exact⟨i1,_,gf (Ext.refl _ _) i i1,⟨by omega,by omega⟩,by omega,by omega,by omega,_,(by show _<k;omega),i+1,_,_,rfl,⟨rfl,rfl,rfl,rfl,rfl,rfl,trivial⟩,rfl,by omega,by omega,by omega⟩
 · obtain⟨H,cy⟩:∃H,H=h.push (aQ [.aX,.aP] 92):=⟨_,rfl⟩
   have lj:H.n=h.n+1:=by rw[cy];rfl
   have dY:Ext h.n h H:=by rw[cy];exact Ext.push (Nat.le_refl _) _
   obtain⟨g,c,aM,Dv,ae7,jX⟩:=ae4 m h.n n H (by omega) (by rw[cy];exact e7 rfl) Ao (by omega)
   have Ki:=jX.n
   have FE:∀{x},mV h.n H.n H x->Ext h.n h x:=λe=>⟨by have:=e.n;omega,λd ai=>(e.get d (by omega) (by omega)).trans (dY.get d ai)⟩
   have ae8:ns[0]≠[]:=aH _ (List.getElem_mem aN)
   have c2:(eR [32] (ns.take 1)).length<=gI 1 ns:=FD ns 1
   have c6:eR [32] (ns.take 1)=ns[0]:=by
    have:=w2 [32] ns (i:=0) aN
    simpa using this
   rw[c6] at c2
   obtain⟨aD,ee,R3,dh⟩:=ae2 m h.n H.n g (.slice c 0 0 (.aL 1)) [] ns[0] Dv ae7 (by omega) Ki (by simpa using ae8) (by simp;omega)
   rw[List.nil_append] at R3
   have ae9:mV h.n H.n H aD:=jX.trans (Nat.le_refl _) dh
   obtain⟨p_,jE,d1,d2,d3⟩:=JV (P:=an) (h:=aD) (T:=63) (E:=9) (b:=b) (off:=off) (by kernel_rfl) (by kernel_rfl) aN cz
   obtain⟨rfl,_⟩:=d3 (by omega)
   subst cy
   refine⟨n,h,_,rfl,rfl,⟨rfl,rfl,rfl,trivial⟩,g,aM,aN,ns[0],gf (FE jX) 0 aN,_,_,aD,ee,b,_,ns.length-1,jE,d1,?_⟩
   refine e8 (λk st=>∃i y Γ,st=aks Γ y/\bY [(1,.str [32]),(8,.ptr h.n 0),(63,.slice b (off+1*1) (ns.length-1) jE),(64,J (ns.length-1)),(65,J i)] Γ/\ns.length-1-i=k/\i<=ns.length-1/\lk (h.n+1) h.n y (eR [32] (ns.take (i+1)))/\mV h.n (h.n+1) (h.push (aQ [.aX,.aP] 92)) y) ?_ (ns.length-1) _ (by omega) ⟨0,aD,_,rfl,⟨rfl,rfl,rfl,rfl,rfl,trivial⟩,by omega,by omega,by rw[c6];exact R3,ae9⟩
   rintro cO st ⟨j,y,cD,rfl,jY,fl,aO,u6,aZ⟩
   refine ei (aeR (Y (m+3)) h.n b _ _ j jE y ⟨λfW=>?_,λfW=>?_⟩) jY
   · have bt:=FD ns (j+1)
     have bw:=FD ns (j+1+1)
     have aE:=w2 [32] ns (i:=j+1) (by omega)
     rw[if_pos (by omega)] at aE
     rw[aE] at bw
     simp only[List.length_append,List.length_cons,List.length_nil] at bw
     obtain⟨jP,df,ae_,bG⟩:=Fb m h.n (h.n+1) y _ [32] u6 (by simp;omega)
     obtain⟨jQ,db,afa,b0⟩:=Fb m h.n (h.n+1) jP _ ns[j+1] ae_ (by simp;omega)
     refine⟨fW,ns[j+1],?_,_,_,jP,df,_,_,jQ,db,by omega,_,(by show _<cO;omega),j+1,jQ,_,rfl,⟨rfl,rfl,rfl,rfl,rfl,trivial⟩,rfl,by omega,?_,(aZ.trans (Nat.le_refl _) bG.x).trans (Nat.le_refl _) b0.x⟩
     · rw[show off+1*1+j*1=off+(j+1)*1 by omega]
       exact gf (FE aZ) (j+1) (by omega)
     · rw[aE];exact afa
   · obtain rfl:j=ns.length-1:=by omega
     have bt:=FD ns (ns.length-1+1)
     obtain⟨bk,zw,m1⟩:=QR (m+2) h.n (h.n+1) y _ u6 (by omega)
     rw[List.take_of_length_le (by omega)] at zw
     exact⟨h.n,y,_,rfl,rfl,⟨rfl,trivial⟩,hl ns,bk,zw,bk,rfl,⟨by have:=m1.n;have:=(FE aZ).n;omega,λd ai=>(m1.get d (by omega)).trans ((FE aZ).get d ai)⟩⟩
abbrev jF(d:Nat):ad:=aC d
abbrev tu(B:Nat)(h:ab)(v:ad)(l:List Nat):Prop:=bT (λd=>[jF d]) 1 32 B h v l
theorem Cr:lW an (λd=>[jF d]) 1 32 44 where
 hu:=by kernel_rfl
 fG:=by kernel_rfl
 info:=by
  obtain⟨i,hi⟩:=Option.isSome_iff_exists.1 (show(an.info? 32).isSome=true by kernel_rfl)
  refine⟨i,hi,?_,?_⟩
  · have:(an.info? 32).map (·.size)=some 1:=by kernel_rfl
    rw[hi] at this;simpa using this
  · have:(an.info? 32).map (λi=>Nat.ble i.bytes 1000)=some true:=by kernel_rfl
    rw[hi] at this
    exact Nat.le_of_ble_eq_true (by simpa using this)
 zero:=⟨.int .u64 0,by kernel_rfl,rfl⟩
 size:=by kernel_rfl
 len:=λ_=>rfl
 cell:=λ_=>rfl
 pos:=by decide
abbrev zx(cap given clock a3 b7:Nat):dQ:=aQ [J cap,aC given,aC clock,.map a3,.map b7] 58
abbrev zy(e:b3)(ai:Int)(bA aU:ad):dQ:=aQ (aeF e ai bA aU) 65
structure ha(F:Nat->Prop)(h:ab)(p a3 b7 aM bf cap given clock:Nat)(M:List Mem):Prop where
 st:h.get p=some (zx cap given clock a3 b7)
 aG:h.get a3=some (.map (M.map iY) aM)
 aE:h.get b7=some (.map (M.map kG) bf)
 ev:∀x∈M,h.get x.b=some (zy x.e x.ai x.bA x.aU)
 ns:∀x∈M,k0 0 h x.bA x.e.ns
 az:∀x∈M,tu 0 h x.aU x.e.args
 bs:M.Pairwise λa b=>a.b≠b.b
 dy:M.Pairwise λa b=>a.dy≠b.dy
 hc:∀x∈M,x.dy<aM/\x.ed<bf
 up:zv M
 xl:∀x∈M,0<x.e.id
 ln:a3≠b7
 lo:p<h.n/\a3<h.n/\b7<h.n/\∀x∈M,x.b<h.n
 nA:¬F p/\¬F a3/\¬F b7
 ne:∀x∈M,¬F x.b
 zz:∀x∈M,∀d n cp,x.bA=.slice d 0 n cp->¬F d
 zA:∀x∈M,∀d n cp,x.aU=.slice d 0 n cp->¬F d
theorem Cs{cs:List ad}{el:Nat}{e:Nat}:kT e (some (aQ cs el)):=λ_ _ _ h=>by cases h
theorem R4{es:List eH}{c e:Nat}:kT e (some (.map es c)):=λ_ _ _ h=>by cases h
theorem xm{cs:List ad}{el e:Nat}{k:hb}{lo up:Nat}(dr:el≠e):kT e (some (.cells cs el k lo up)):=λ_ _ _ h=>by cases h;exact dr rfl
theorem R5{D:Type}{enc:D->List ad}{w el:Nat}{F:Nat->Prop}{h g:ab}{v:ad}{ds:List D}(dr:el≠5)(bc:bT enc w el 0 h v ds)(hf:∀d n cp,v=.slice d 0 n cp->¬F d)(aH:h.n<=g.n)(ay:∀d,d<h.n->¬F d->kT 5 (h.get d)->g.get d=h.get d):bT enc w el 0 g v ds:=by
 rcases bc with bc|⟨q,rfl,ae,ax,aN,bS⟩
 · exact .inl bc
 · exact .inr ⟨q,rfl,ae,(ay q bS (hf q _ _ rfl) (by rw[ax];exact xm dr)).trans ax,aN,by omega⟩
theorem R6{D:Type}{enc:D->List ad}{w el:Nat}{F G:Nat->Prop}{h:ab}{v:ad}{ds:List D}(dr:el≠5)(bc:bT enc w el 0 h v ds)(hf:∀d n cp,v=.slice d 0 n cp->¬F d)(fR:∀d,d<h.n->G d->F d\/¬kT 5 (h.get d)):∀d n cp,v=.slice d 0 n cp->¬G d:=by
 rintro d n cp e ar
 rcases bc with⟨rfl,_⟩|⟨q,rfl,ae,ax,aN,bS⟩
 · cases e
 · cases e
   rcases fR _ bS ar with h|h
   · exact hf _ _ _ rfl h
   · exact h (by rw[ax];exact xm dr)
theorem ha.move{F G:Nat->Prop}{h g:ab}{p a3 b7 aM bf cap given clock:Nat}{M:List Mem}(w:ha F h p a3 b7 aM bf cap given clock M)(aH:h.n<=g.n)(ay:∀d,d<h.n->¬F d->kT 5 (h.get d)->g.get d=h.get d)(fR:∀d,d<h.n->G d->F d\/¬kT 5 (h.get d)):ha G g p a3 b7 aM bf cap given clock M:=by
 obtain⟨bt,bw,dL,h8⟩:=w.lo
 obtain⟨f1,f2,f3⟩:=w.nA
 have zt:∀d,d<h.n->¬F d->kT 5 (h.get d)->¬G d:=λd ai hf ao ar=>(fR d ai ar).elim hf λk=>k ao
 have r1:kT 5 (h.get p):=by rw[w.st];exact Cs
 have r2:kT 5 (h.get a3):=by rw[w.aG];exact R4
 have e5:kT 5 (h.get b7):=by rw[w.aE];exact R4
 have gh:∀x∈M,kT 5 (h.get x.b):=λx aa=>by rw[w.ev x aa];exact Cs
 have cI:9≠5:=by decide
 have dz:32≠5:=by decide
 exact⟨(ay p bt f1 r1).trans w.st,(ay a3 bw f2 r2).trans w.aG,(ay b7 dL f3 e5).trans w.aE,λx aa=>(ay x.b (h8 x aa) (w.ne x aa) (gh x aa)).trans (w.ev x aa),λx aa=>R5 cI (w.ns x aa) (w.zz x aa) aH ay,λx aa=>R5 dz (w.az x aa) (w.zA x aa) aH ay,w.bs,w.dy,w.hc,w.up,w.xl,w.ln,⟨by omega,by omega,by omega,λx aa=>by have:=h8 x aa;omega⟩,⟨zt p bt f1 r1,zt a3 bw f2 r2,zt b7 dL f3 e5⟩,λx aa=>zt x.b (h8 x aa) (w.ne x aa) (gh x aa),λx aa=>R6 cI (w.ns x aa) (w.zz x aa) fR,λx aa=>R6 dz (w.az x aa) (w.zA x aa) fR⟩
theorem ha.ext{F:Nat->Prop}{h g:ab}{p a3 b7 aM bf cap given clock:Nat}{M:List Mem}(w:ha F h p a3 b7 aM bf cap given clock M)(e:Ext h.n h g):ha F g p a3 b7 aM bf cap given clock M:=w.move e.n (λd ai _ _=>e.get d ai) λd _ h=>.inl h
structure zB(f:Mem->Mem):Prop where
 b:∀x,(f x).b=x.b
 dy:∀x,(f x).dy=x.dy
 ed:∀x,(f x).ed=x.ed
 bA:∀x,(f x).bA=x.bA
 aU:∀x,(f x).aU=x.aU
 id:∀x,(f x).e.id=x.e.id
 a1:∀x,Fw (f x).e=Fw x.e
 ns:∀x,(f x).e.ns=x.e.ns
 args:∀x,(f x).e.args=x.e.args
def oC(id:Nat)(f:Mem->Mem)(M:List Mem):List Mem:=M.map λy=>if y.e.id=id then f y else y
theorem zB.ite{f:Mem->Mem}(hf:zB f)(id:Nat):zB λy=>if y.e.id=id then f y else y:=by
 constructor<;>intro x<;>split<;>first|rfl|exact hf.b x|exact hf.dy x|exact hf.ed x|exact hf.bA x|exact hf.aU x|exact hf.id x|exact hf.a1 x|exact hf.ns x|exact hf.args x
theorem afb{M:List Mem}(h:zv M){a b:Mem}(aV:a∈M)(ag:b∈M)(e:a.e.id=b.e.id):a=b:=by
 induction M with
 |nil=>cases aV
 |cons x l bl=>
  rw[zv,List.pairwise_cons] at h
  rcases List.mem_cons.1 aV with I|I
  · rcases List.mem_cons.1 ag with ae|ae
    · rw[I,ae]
    · have:=h.1 b ae;rw[I] at e;omega
  · rcases List.mem_cons.1 ag with ae|ae
    · have:=h.1 a I;rw[ae] at e;omega
    · exact bl h.2 I ae
theorem afc{M:List Mem}(h:M.Pairwise λa b=>a.b≠b.b){a b:Mem}(aV:a∈M)(ag:b∈M)(e:a.b=b.b):a=b:=by
 induction M with
 |nil=>cases aV
 |cons x l bl=>
  rw[List.pairwise_cons] at h
  rcases List.mem_cons.1 aV with I|I
  · rcases List.mem_cons.1 ag with ae|ae
    · rw[I,ae]
    · rw[I] at e;exact absurd e (h.1 b ae)
  · rcases List.mem_cons.1 ag with ae|ae
    · rw[ae] at e;exact absurd e.symm (h.1 a I)
    · exact bl h.2 I ae
theorem ha.gx{F:Nat->Prop}{h:ab}{p a3 b7 aM bf cap given clock:Nat}{M:List Mem}(w:ha F h p a3 b7 aM bf cap given clock M){x:Mem}(aa:x∈M){f:Mem->Mem}(hf:zB f):ha F (h.set x.b (some (zy (f x).e (f x).ai (f x).bA (f x).aU))) p a3 b7 aM bf cap given clock (oC x.e.id f M):=by
 have K:=hf.ite x.e.id
 have lp:=w.ev x aa
 have a0:p≠x.b:=λe=>by rw[<-e,w.st] at lp;cases lp
 have I:a3≠x.b:=λe=>by rw[<-e,w.aG] at lp;cases lp
 have ae:b7≠x.b:=λe=>by rw[<-e,w.aE] at lp;cases lp
 have mem:∀y∈oC x.e.id f M,∃z∈M,y=if z.e.id=x.e.id then f z else z:=λy aZ=>by
  obtain⟨z,a7,e⟩:=List.mem_map.1 aZ;exact⟨z,a7,e.symm⟩
 have afd:(oC x.e.id f M).map iY=M.map iY:=by
  rw[oC,List.map_map]
  refine List.map_congr_left λz _=>?_
  show iY (if z.e.id=x.e.id then f z else z)=iY z
  unfold iY
  rw[K.id z,K.b z,K.dy z]
 have afe:(oC x.e.id f M).map kG=M.map kG:=by
  rw[oC,List.map_map]
  refine List.map_congr_left λz _=>?_
  show kG (if z.e.id=x.e.id then f z else z)=kG z
  unfold kG
  rw[K.id z,K.a1 z,K.ed z]
 have xn:∀{R S:Mem->Mem->Prop},M.Pairwise R->(∀a b,R a b->S (if a.e.id=x.e.id then f a else a) (if b.e.id=x.e.id then f b else b))->(oC x.e.id f M).Pairwise S:=λh k=>by
  rw[oC,List.pairwise_map];exact h.imp λ{a b} fC=>k a b fC
 refine⟨cX a0 w.st,by rw[afd];exact cX I w.aG,by rw[afe];exact cX ae w.aE,λy aZ=>?_,λy aZ=>?_,λy aZ=>?_,xn w.bs λa b fC=>by rw[K.b a,K.b b];exact fC,xn w.dy λa b fC=>by rw[K.dy a,K.dy b];exact fC,λy aZ=>?_,xn w.up λa b fC=>by rw[K.id a,K.id b];exact fC,λy aZ=>?_,w.ln,⟨w.lo.1,w.lo.2.1,w.lo.2.2.1,λy aZ=>?_⟩,w.nA,λy aZ=>?_,λy aZ=>?_,λy aZ=>?_⟩
 all_goals obtain⟨z,a7,rfl⟩:=mem y aZ
 · rw[K.b z]
   by_cases e:z.e.id=x.e.id
   · obtain rfl:=afb w.up a7 aa e
     rw[if_pos rfl]
     exact eK rfl
   · rw[if_neg e]
     exact cX (λdc=>e (by rw[afc w.bs a7 aa dc])) (w.ev z a7)
 · rw[K.bA z,K.ns z];exact bT.uH (w.ns z a7) lp
 · rw[K.aU z,K.args z];exact bT.uH (w.az z a7) lp
 · rw[K.dy z,K.ed z];exact w.hc z a7
 · rw[K.id z];exact w.xl z a7
 · rw[K.b z];exact w.lo.2.2.2 z a7
 · rw[K.b z];exact w.ne z a7
 · rw[K.bA z];exact w.zz z a7
 · rw[K.aU z];exact w.zA z a7
theorem ha.head{F:Nat->Prop}{h:ab}{p a3 b7 aM bf cap given clock:Nat}{M:List Mem}(w:ha F h p a3 b7 aM bf cap given clock M)(R7 R8:Nat):ha F (h.set p (some (zx cap R7 R8 a3 b7))) p a3 b7 aM bf cap R7 R8 M:=by
 have a0:=w.st
 have I:a3≠p:=λe=>by rw[<-e,w.aG] at a0;cases a0
 have ae:b7≠p:=λe=>by rw[<-e,w.aE] at a0;cases a0
 have ax:∀x∈M,x.b≠p:=λx aa e=>by
  rw[<-e,w.ev x aa] at a0
  injection a0 with a0;injection a0 with _ a0
  exact absurd a0 (by decide)
 exact⟨eK rfl,cX I w.aG,cX ae w.aE,λx aa=>cX (ax x aa) (w.ev x aa),λx aa=>bT.uH (w.ns x aa) a0,λx aa=>bT.uH (w.az x aa) a0,w.bs,w.dy,w.hc,w.up,w.xl,w.ln,w.lo,w.nA,w.ne,w.zz,w.zA⟩
structure cj(F:Nat->Prop)(h g:ab):Prop where
 n:h.n<=g.n
 get:∀d,d<h.n->F d->g.get d=h.get d
theorem cj.refl(F:Nat->Prop)(h:ab):cj F h h:=⟨Nat.le_refl _,λ_ _ _=>rfl⟩
theorem cj.trans{F:Nat->Prop}{h g k:ab}(a:cj F h g)(b:cj F g k):cj F h k:=⟨Nat.le_trans a.n b.n,λd ai hf=>(b.get d (Nat.lt_of_lt_of_le ai a.n) hf).trans (a.get d ai hf)⟩
theorem cj.ext{F:Nat->Prop}{h g:ab}(e:Ext h.n h g):cj F h g:=⟨e.n,λd ai _=>e.get d ai⟩
theorem cj.set{F:Nat->Prop}{h:ab}{b:Nat}{o:Option dQ}(ag:¬F b):cj F h (h.set b o):=⟨Nat.le_refl _,λd _ hf=>cX (λe=>ag (e▸hf)) rfl⟩
theorem aff{D:Type}{P:Program}{e:D->ad}{el sT:TypeId}(T:lW P (λd=>[e d]) 1 el sT){h:ab}{src:ad}{q tc:Nat}{d:D}{es:List D}(aK:q<h.n)(ar:h.get q=some (aQ [e d] tc))(al:fu h 1 src=some (es.length,dp (λd=>[e d]) es))(aA:es.length<=100000):
  ∃b cp g,dJ P h sT (some sT) (.slice q 0 1 (.exact 1)) src=some (.slice b 0 (d::es).length cp,g)/\Ext h.n h g/\(∀i (hi:i<(d::es).length),aq g b (0+i*1)=some (e (d::es)[i]))/\(b=q\/h.n<=b)/\b<g.n:=by
 obtain⟨i,hi,bJ,n0⟩:=T.info
 obtain⟨z,a7,jc⟩:=T.zero
 by_cases h0:es.length=0
 · have c6:es=[]:=List.eq_nil_of_length_eq_zero h0
   subst c6
   refine⟨q,.exact 1,h,?_,Ext.refl _ _,λi hi=>?_,.inl rfl,aK⟩
   · have ag:Nat.ble (1+0) 1=true:=rfl
     have en:fu h 1 src=some (0,[]):=al
     simp only[dJ,T.hu,T.fG,hi,a7,bJ,en,ag];rfl
   · have:i=0:=by simp at hi;omega
     subst this
     exact aF ar rfl
 · obtain⟨k,ay⟩:∃k,es.length=k+1:=⟨es.length-1,by omega⟩
   have gn:mG (1+(k+1)) i.bytes=true:=by
    unfold mG
    have I:(4*(1+(k+1))+2048)*(i.bytes+1)<=5000000*1001:=Nat.mul_le_mul (by omega) (by omega)
    simp;omega
   have ah:(e d).de=true:=by have:=T.cell d;simpa using this
   have ky:l_ h el i.bytes 1 (1+(k+1)) z ([e d]++dp (λd=>[e d]) es) 0=some (.slice h.n 0 (1+(k+1)) (.aL 1),h.push (.cells ([e d]++dp (λd=>[e d]) es) el .aL 0 0)):=
    yu gn (by rw[jc];simp) (by rw[List.all_append,Bd T.cell];simp[ah])
   have qJ:Nat.ble (1+(k+1)) 1=false:=by
    cases aa:Nat.ble (1+(k+1)) 1 with
    |false=>rfl
    |true=>have:=Nat.le_of_ble_eq_true aa;omega
   have gf:bg.loadCells h q 0 (1*1)=some [e d]:=lU ar rfl
   refine⟨h.n,.aL 1,h.push (.cells ([e d]++dp (λd=>[e d]) es) el .aL 0 0),?_,Ext.push (Nat.le_refl _) _,λi hi=>?_,.inr (Nat.le_refl _),by simp⟩
   · rw[ay] at al
     have el:(d::es).length=1+(k+1):=by rw[List.length_cons,ay];omega
     rw[el]
     simp only[dJ,T.hu,T.fG,hi,a7,bJ,al,qJ,gf,ky]
   · refine lb (e7 rfl) ?_
     rw[kn,Nat.zero_add,Nat.mul_one]
     have:[e d]++es.map e=(d::es).map e:=rfl
     rw[this,List.getElem?_map,List.getElem?_eq_getElem hi];rfl
def bump(z:Int)(l:List Nat)(y:Mem):Mem:={y with ai:=y.ai+z*(l.count y.e.id:Nat)}
theorem afg(z:Int)(I:-1000000000<=z)(ae:z<=1000000000):IntKind.wrap .i64 z=z:=by
 have aE:(2:Int)^64=18446744073709551616:=by rfl
 have bH:(2:Int)^63=9223372036854775808:=by rfl
 by_cases h0:0<=z
 · have e:z %18446744073709551616=z:=by omega
   simp only[IntKind.wrap,IntKind.bits,IntKind.signed,aE,bH,e,Bool.true_and,decide_eq_true_eq,Nat.add_one_sub_one]
   rw[if_neg (by show¬((2:Int)^63<=z);rw[bH];omega)]
 · have e:z %18446744073709551616=z+18446744073709551616:=by omega
   simp only[IntKind.wrap,IntKind.bits,IntKind.signed,aE,bH,e,Bool.true_and,decide_eq_true_eq,Nat.add_one_sub_one]
   rw[if_pos (by show(2:Int)^63<=z+18446744073709551616;rw[bH];omega)]
   omega
theorem afh{a b:Int}(I:-1000000000<=a+b)(ae:a+b<=1000000000):arith .add .i64 a b=some (.int .i64 (a+b)):=by
 simp only[arith,afg _ I ae]
theorem R9(m:Nat){F:Nat->Prop}{h:ab}{p a3 b7 aM bf cap given clock:Nat}{M:List Mem}{e:b3}{l2:Nat}{ai z:Int}{bA aU:ad}(a7:z=1\/z=-1)(w:ha F h p a3 b7 aM bf cap given clock M)(he:h.get l2=some (zy e ai bA aU))(mO:tu 0 h aU e.args)(gr:∀x∈M,-1000000<=x.ai/\x.ai<=1000000)(hlen:e.args.length<=1000)(afi:l2<h.n):∃g,Y (m+1) (.fn 41) [.ptr p 0,.ptr l2 0,.int .i64 z] h=.ret (.aR []) g/\ha F g p a3 b7 aM bf cap given clock (M.map (bump z e.parts))/\cj F h g:=by
 obtain⟨H,cy⟩:∃H,H=(h.room 13).set (h.n+5) (some (aQ [jF e.ret] 32)):=⟨_,rfl⟩
 have lj:H.n=h.n+13:=by rw[cy];simp
 have dY:Ext h.n h H:=by rw[cy];exact Ext.hQ (by omega) (Ext.room _ _ _)
 have tk:tu 0 H aU e.args:=mO.mono dY (Nat.le_refl _)
 have R_:=(dY.get _ afi).trans he
 obtain⟨b,cp,ak,cu,bF,bt,bn,bo⟩:=aff Cr (h:=H) (src:=aU) (q:=h.n+5) (tc:=32) (d:=e.ret) (es:=e.args) (by omega) (by rw[cy];exact eK rfl) (bT.src Cr tk) (by omega)
 have xj:Ext h.n h ak:=dY.trans dY.n bF
 have oM:h.n<=b:=by omega
 have hV:(e.ret::e.args).length=e.args.length+1:=rfl
 refine aeW m p l2 z h (R:=λx=>∃g,x=.ret (.aR []) g/\ha F g p a3 b7 aM bf cap given clock (M.map (bump z e.parts))/\cj F h g) ⟨e.ret,aF (h:=h.room 13) he rfl,aU,?_,b,0,(e.ret::e.args).length,cp,ak,?_,?_,bT.sound mO,?_⟩
 · rw[<-cy];exact aF R_ rfl
 · rw[<-cy];exact cu
 · rw[<-cy];exact aF R_ rfl
 refine e8 (λk st=>∃i y Γ,st=aks Γ y/\bY [(0,.ptr p 0),(2,.int .i64 z),(19,.slice b 0 (e.ret::e.args).length cp),(20,J (e.ret::e.args).length),(21,J i)] Γ/\(e.ret::e.args).length-i=k/\i<=(e.ret::e.args).length/\ha F y p a3 b7 aM bf cap given clock (M.map (bump z ((e.ret::e.args).take i)))/\cj F h y/\y.get b=ak.get b/\ak.n<=y.n) ?_ (e.ret::e.args).length _ (by omega) ⟨0,ak,_,rfl,⟨rfl,rfl,rfl,rfl,rfl,trivial⟩,by omega,by omega,?_,cj.ext xj,rfl,Nat.le_refl _⟩
 rotate_left
 · have c6:M.map (bump z ((e.ret::e.args).take 0))=M:=by
     have:∀y∈M,bump z ((e.ret::e.args).take 0) y=y:=λy _=>by
      unfold bump
      simp
     rw[List.map_congr_left this,List.map_id']
   rw[c6];exact w.ext xj
 rintro k st ⟨i,y,Γ,rfl,cn,ay,hi,hw,Kr,AA,kF⟩
 have fin:¬i<(e.ret::e.args).length->er (λs=>∃j,j<k/\∃i y Γ,s=aks Γ y/\bY [(0,.ptr p 0),(2,.int .i64 z),(19,.slice b 0 (e.ret::e.args).length cp),(20,J (e.ret::e.args).length),(21,J i)] Γ/\(e.ret::e.args).length-i=j/\i<=(e.ret::e.args).length/\ha F y p a3 b7 aM bf cap given clock (M.map (bump z ((e.ret::e.args).take i)))/\cj F h y/\y.get b=ak.get b/\ak.n<=y.n) (λb2 cc=>∃av bt,b2=.exit 0/\cc=aks bt av/\bY [] bt/\∃g,bE.ret (.aR []) av=.ret (.aR []) g/\ha F g p a3 b7 aM bf cap given clock (M.map (bump z e.parts))/\cj F h g) (.exit 0) ⟨[(0,.ptr p 0),(2,.int .i64 z),(19,.slice b 0 (e.ret::e.args).length cp),(20,J (e.ret::e.args).length),(21,J i)],[],.none,y⟩:=λi1=>by
  obtain rfl:i=(e.ret::e.args).length:=by omega
  rw[List.take_length] at hw
  exact⟨y,_,rfl,rfl,trivial,y,rfl,hw,Kr⟩
 by_cases i1:i<(e.ret::e.args).length
 rotate_left
 · exact ei (R0 (Y m) p b _ i a3 cp z y ⟨λh=>absurd h i1,fin⟩) cn
 have Sa:aq y b (0+i*1)=some (jF (e.ret::e.args)[i]):=by
  rw[<-bt i i1]
  unfold aq;rw[AA]
 have snoc:∀q:Nat,((e.ret::e.args).take (i+1)).count q=((e.ret::e.args).take i).count q+(if(e.ret::e.args)[i]=q then 1 else 0):=λq=>by
  rw[List.take_succ_eq_append_getElem i1,List.count_append,List.count_singleton]
  congr 1
  simp[beq_iff_eq]
 by_cases hex:∃x∈M,x.e.id=(e.ret::e.args)[i]
 · obtain⟨x,aa,q6⟩:=hex
   have lE:bump z ((e.ret::e.args).take i) x∈M.map (bump z ((e.ret::e.args).take i)):=List.mem_map.2 ⟨x,aa,rfl⟩
   have eo:=tt hw.aG hw.up lE false
   have rH:=hw.ev _ lE
   obtain⟨g2,fh⟩:=gr x aa
   have ah:((e.ret::e.args).take i).count x.e.id<=1001:=by
    have I:=List.count_le_length (a:=x.e.id) (l:=(e.ret::e.args).take i)
    rw[List.length_take] at I
    omega
   obtain⟨c,AE⟩:∃c,c=((e.ret::e.args).take i).count x.e.id:=⟨_,rfl⟩
   rw[<-AE] at ah
   have aI:(bump z ((e.ret::e.args).take i) x).ai=x.ai+z*(c:Nat):=by rw[AE];rfl
   have al:=hw.gx lE (f:=λy=>{y with ai:=y.ai+z}) ⟨λ_=>rfl,λ_=>rfl,λ_=>rfl,λ_=>rfl,λ_=>rfl,λ_=>rfl,λ_=>rfl,λ_=>rfl,λ_=>rfl⟩
   have gB:oC (bump z ((e.ret::e.args).take i) x).e.id (λy=>{y with ai:=y.ai+z}) (M.map (bump z ((e.ret::e.args).take i)))=M.map (bump z ((e.ret::e.args).take (i+1))):=by
    unfold oC
    rw[List.map_map]
    refine List.map_congr_left λy _=>?_
    show(if y.e.id=x.e.id then{bump z ((e.ret::e.args).take i) y with ai:=(bump z ((e.ret::e.args).take i) y).ai+z} else bump z ((e.ret::e.args).take i) y)=bump z ((e.ret::e.args).take (i+1)) y
    unfold bump
    rw[snoc y.e.id]
    by_cases aZ:y.e.id=x.e.id
    · rw[if_pos aZ,if_pos (by rw[aZ,q6])]
      simp only[Mem.mk.injEq,true_and,and_true]
      rw[Int.natCast_add,Int.mul_add]
      simp;omega
    · rw[if_neg aZ,if_neg (by rw[<-q6];exactλe=>aZ e.symm)]
      simp
   rw[gB] at al
   have sJ:(bump z ((e.ret::e.args).take i) x).b=x.b:=rfl
   have aj3:x.b<h.n:=w.lo.2.2.2 x aa
   have nZ:-1000000000<=(bump z ((e.ret::e.args).take i) x).ai+z/\(bump z ((e.ret::e.args).take i) x).ai+z<=1000000000:=by
    rw[aI]
    rcases a7 with rfl|rfl<;>omega
   refine ei (R0 (Y m) p b _ i a3 cp z y ⟨λ_=>⟨i1,_,Sa,aF hw.st rfl,x.b,?_,_,aF rH rfl,_,afh nZ.1 nZ.2,rfl,_,eV rH rfl rfl,by omega,_,(by show _<k;omega),i+1,_,_,rfl,⟨rfl,rfl,rfl,rfl,rfl,trivial⟩,rfl,by omega,al,Kr.trans (cj.set (b:=x.b) (w.ne x aa)),?_,by simpa using kF⟩,λh=>absurd i1 h⟩) cn
   · rw[<-q6];exact eo
   · exact(cX (by omega) rfl).trans AA
 · have lT:∀x∈M.map (bump z ((e.ret::e.args).take i)),x.e.id≠(e.ret::e.args)[i]:=λx aa e=>by
     obtain⟨y,aZ,rfl⟩:=List.mem_map.1 aa
     exact hex ⟨y,aZ,e⟩
   have gB:M.map (bump z ((e.ret::e.args).take (i+1)))=M.map (bump z ((e.ret::e.args).take i)):=by
    refine List.map_congr_left λy aZ=>?_
    unfold bump
    rw[snoc y.e.id,if_neg λe=>hex ⟨y,aZ,e.symm⟩]
    simp
   refine ei (aeX (Y m) p b _ i a3 cp z y ⟨λ_=>⟨i1,_,Sa,aF hw.st rfl,Co hw.aG lT false,by omega,_,(by show _<k;omega),i+1,_,_,rfl,⟨rfl,rfl,rfl,rfl,rfl,trivial⟩,rfl,by omega,by rw[gB];exact hw,Kr,AA,kF⟩,λh=>absurd i1 h⟩) cn
end Go.Proofs.kU
