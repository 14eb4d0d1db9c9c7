/-
  PROVED HERE: contracts of functions (Dn). No condition beside each statement's own.
-/
import Derived.Test.YtfooahfebojldaaGreatDoorDm
import Derived.Test.YtfooahfebojldaaGreatDoorDl
import Derived.Test.YtfooahfebojldaaGreatDoorTx
set_option linter.unusedVariables false
set_option linter.unusedSimpArgs false
namespace Go.Proofs.ew
open Go aC Go.Proofs dD Go.Proofs.cT
open Go.Proofs.df (hN db jg)
open Go.Proofs.eN (e5 cf aI ch fm)
set_option maxRecDepth 100000
set_option maxHeartbeats 1000000
def pz{σ Oa:Type}(ve:Oa->Prop)(f0 f1:σ->Option Oa):Prop:=∀s,(∀x,f1 s=some x->f0 s=some x)/\(f1 s=none->∀x,f0 s=some x->ve x)
theorem zY{σ:Type}{ok:σ->Bool}{f0 f1:σ->Option σ}{ve:σ->Prop}(ag:∀s a2,ve s->f0 s=some a2->ve a2)(bh:pz ve f0 f1):∀n,pz ve (e0 ok f0 n) (e0 ok f1 n)
 |0,s=>⟨λx e=>e,λe=>by simp[e0] at e⟩
 |n+1,s=>by
  simp only[e0]
  by_cases a7:ok s=true
  · rw[if_pos a7,if_pos a7]
    refine⟨λx e=>?_,λe x dc=>?_⟩
    · cases ab:f1 s with
      |none=>rw[ab] at e;cases e
      |some y=>
       rw[ab] at e
       rw[(bh s).1 y ab]
       exact(zY ag bh n y).1 x e
    · cases az:f0 s with
      |none=>rw[az] at dc;cases dc
      |some y=>
       rw[az] at dc
       cases ab:f1 s with
       |none=>exact rq ve ag n y x ((bh s).2 ab y az) dc
       |some z=>
        obtain rfl:y=z:=by have:=(bh s).1 z ab;rw[az] at this;exact Option.some.inj this
        rw[ab] at e
        exact(zY ag bh n y).2 e x dc
  · rw[if_neg a7,if_neg a7]
    exact⟨λx e=>(by cases e),λ_ x e=>(by cases e)⟩
theorem G9:∀l m:List a_,hk (l++m)=(hk l&&hk m)
 |[],m=>by simp[hk]
 |x::l,m=>by simp only[List.cons_append,hk];rw[G9 l m,Bool.and_assoc]
abbrev zZ(x:a_×Q):Prop:=e9 x.1=false
abbrev xg(x:Acc):Prop:=hk x.2.2=false
theorem Ob{f:Q->Option (a_×Q)}{s a2:Acc}(h:xg s)(e:fx f s=some a2):xg a2:=by
 unfold fx at e
 cases ad:f s.1 with
 |none=>rw[ad] at e;cases e
 |some x=>
  rw[ad] at e;cases e
  show hk (s.2.2++[x.1])=false
  rw[G9,show hk s.2.2=false from h];rfl
theorem aa1{f:Q->Option (a_×Q)}{s a2:Acc}(h:xg s)(e:kq f s=some a2):xg a2:=Ob (s:=(((ch s.1.1).2,s.1.2),(s.2.1++[(ch s.1.1).1],s.2.2))) h e
theorem Oc{f0 f1:Q->Option (a_×Q)}(bh:pz zZ f0 f1):pz xg (fx f0) (fx f1):=λs=>by
 unfold fx
 refine⟨λx e=>?_,λe x dc=>?_⟩
 · cases ab:f1 s.1 with
   |none=>rw[ab] at e;cases e
   |some y=>rw[ab] at e;rw[(bh _).1 y ab];exact e
 · cases az:f0 s.1 with
   |none=>rw[az] at dc;cases dc
   |some y=>
    cases ab:f1 s.1 with
    |some z=>rw[ab] at e;cases e
    |none=>
     rw[az] at dc;cases dc
     show hk (s.2.2++[y.1])=false
     rw[G9]
     simp only[hk]
     rw[show e9 y.1=false from(bh _).2 ab y az];simp
theorem aa2{f0 f1:Q->Option (a_×Q)}(bh:pz zZ f0 f1):pz xg (kq f0) (kq f1):=λs=>Oc bh (((ch s.1.1).2,s.1.2),(s.2.1++[(ch s.1.1).1],s.2.2))
theorem G_{k:Nat}{b8:bc}{ns:List bc}{xs:List a_}{rt:Option a_}(h:hk xs=false):e9 (.mk k b8 ns xs rt)=false:=by rw[wy,h];simp
theorem aa3{xs:List a_}{ns:List bc}{b8:bc}{t:a_}(h:e9 t=false):e9 (.mk 8 b8 ns xs (some t))=false:=by rw[wy];simp[gR,jZ,h]
theorem aa4{xs:List a_}{ns:List bc}{b8:bc}{rt:Option a_}:e9 (.mk 0 b8 ns xs rt)=false:=by rw[wy];simp
theorem aa5{f0 f1:Q->Option (a_×Q)}(bh:pz zZ f0 f1)(k:Nat):pz zZ (fp f0 k) (fp f1 k):=λq=>by
 unfold fp
 by_cases dL:k=6
 · rw[if_pos dL,if_pos dL];exact⟨λx e=>e,λe=>by cases e⟩
 rw[if_neg dL,if_neg dL]
 by_cases dz:k=7
 · rw[if_pos dz,if_pos dz]
   obtain⟨t1,t2⟩:=zY (ok:=g8) (λs a2=>aa1) (aa2 bh) (aI q.1).1 (gI q)
   refine⟨λx e=>?_,λe x dc=>?_⟩
   · cases ab:e0 g8 (kq f1) (aI q.1).1 (gI q) with
     |none=>rw[ab] at e;cases e
     |some y=>rw[ab] at e;rw[t1 y ab];exact e
   · cases az:e0 g8 (kq f0) (aI q.1).1 (gI q) with
     |none=>rw[az] at dc;cases dc
     |some y=>
      cases ab:e0 g8 (kq f1) (aI q.1).1 (gI q) with
      |some z=>rw[ab] at e;cases e
      |none=>rw[az] at dc;cases dc;exact G_ (t2 ab y az)
 rw[if_neg dz,if_neg dz]
 obtain⟨t1,t2⟩:=zY (ok:=g8) (λs a2=>Ob) (Oc bh) (aI q.1).1 (gI q)
 by_cases dX:k=8
 · rw[if_pos dX,if_pos dX]
   refine⟨λx e=>?_,λe x dc=>?_⟩
   · cases ab:e0 g8 (fx f1) (aI q.1).1 (gI q) with
     |none=>rw[ab] at e;cases e
     |some y=>
      rw[ab] at e;rw[t1 y ab]
      simp only[Option.bind_some] at e⊢
      cases ae:f1 y.1 with
      |none=>rw[ae] at e;cases e
      |some z=>rw[ae] at e;rw[(bh _).1 z ae];exact e
   · cases az:e0 g8 (fx f0) (aI q.1).1 (gI q) with
     |none=>rw[az] at dc;cases dc
     |some y=>
      rw[az] at dc
      simp only[Option.bind_some] at dc
      cases aB:f0 y.1 with
      |none=>rw[aB] at dc;cases dc
      |some w=>
       rw[aB] at dc;cases dc
       cases ab:e0 g8 (fx f1) (aI q.1).1 (gI q) with
       |none=>exact G_ (t2 ab y az)
       |some z=>
        obtain rfl:y=z:=by have:=t1 z ab;rw[az] at this;exact Option.some.inj this
        rw[ab] at e
        simp only[Option.bind_some] at e
        cases ae:f1 y.1 with
        |some v=>rw[ae] at e;cases e
        |none=>exact aa3 ((bh _).2 ae w aB)
 rw[if_neg dX,if_neg dX]
 by_cases fb:k=9
 · rw[if_pos fb,if_pos fb]
   refine⟨λx e=>?_,λe x dc=>?_⟩
   · cases ab:e0 g8 (fx f1) (aI q.1).1 (gI q) with
     |none=>rw[ab] at e;cases e
     |some y=>rw[ab] at e;rw[t1 y ab];exact e
   · cases az:e0 g8 (fx f0) (aI q.1).1 (gI q) with
     |none=>rw[az] at dc;cases dc
     |some y=>
      cases ab:e0 g8 (fx f1) (aI q.1).1 (gI q) with
      |some z=>rw[ab] at e;cases e
      |none=>rw[az] at dc;cases dc;exact G_ (t2 ab y az)
 rw[if_neg fb,if_neg fb]
 exact⟨λx e=>e,λe=>by cases e⟩
theorem Od:∀j,pz zZ (ct 0 j) (ct 1 j)
 |0,q=>⟨λx e=>(by simp[ct] at e),λ_ x e=>(by simp[ct] at e)⟩
 |j+1,q=>by
  simp only[ct]
  by_cases ab:(aI q.1).2.isSome=true/\1<=(aI q.1).1/\(aI q.1).1<=9/\q.2+1<=60
  · rw[if_pos ab,if_pos ⟨ab.1,by omega,ab.2.2⟩]
    exact aa5 (Od j) _ _
  · rw[if_neg ab]
    refine⟨λx e=>(by cases e),λ_ x dc=>?_⟩
    by_cases az:(aI q.1).2.isSome=true/\0<=(aI q.1).1/\(aI q.1).1<=9/\q.2+1<=60
    · rw[if_pos az] at dc
      have bj:(aI q.1).1=0:=by
       have:=az.2.2
       by_cases ah:1<=(aI q.1).1
       · exact absurd ⟨az.1,ah,this⟩ ab
       · omega
      rw[bj] at dc
      simp only[fp] at dc
      cases dc
      exact aa4
    · rw[if_neg az] at dc;cases dc
abbrev CT(x:cf×List eD):Prop:=∃e∈x.2,∃t,e.2=some t/\e9 t=false
theorem aa6(j:Nat):pz CT (kQ (ct 0 j)) (kQ (ct 1 j)):=λs=>by
 unfold kQ
 obtain⟨t1,t2⟩:=Od j ((ch s.1).2,0)
 refine⟨λx e=>?_,λe x dc=>?_⟩
 · cases ab:ct 1 j ((ch s.1).2,0) with
   |none=>rw[ab] at e;cases e
   |some y=>rw[ab] at e;rw[t1 y ab];exact e
 · cases az:ct 0 j ((ch s.1).2,0) with
   |none=>rw[az] at dc;cases dc
   |some y=>
    cases ab:ct 1 j ((ch s.1).2,0) with
    |some z=>rw[ab] at e;cases e
    |none=>
     rw[az] at dc;cases dc
     exact⟨_,List.mem_append.2 (.inr (List.mem_singleton.2 rfl)),y.1,rfl,t2 ab y az⟩
theorem aa7{f:Q->Option (a_×Q)}{s a2:cf×List eD}(h:CT s)(e:kQ f s=some a2):CT a2:=by
 unfold kQ at e
 cases ad:f ((ch s.1).2,0) with
 |none=>rw[ad] at e;cases e
 |some x=>
  rw[ad] at e;cases e
  obtain⟨a,bl,ag⟩:=h
  exact⟨a,List.mem_append.2 (.inl bl),ag⟩
theorem Oe:pz CT (g9 0) (g9 1):=λst=>zY (ok:=λs:cf×List eD=>s.1.isSome) (λs a2=>aa7) (aa6 61) (aI st).1 ((aI st).2,[])
theorem Ha:∀(l:List eD) (p:bc),(∃e∈l,∃t,e.2=some t/\e9 t=false)->j1 p l=false
 |[],p,h=>by obtain⟨e,he,_⟩:=h;cases he
 |a::l,p,h=>by
  obtain⟨e,he,t,bh,hm⟩:=h
  rw[j1]
  rcases List.mem_cons.1 he with rfl|he
  · have:¬l0 e.2=0:=by
      rw[bh];simp only[l0,hm]
      by_cases dN:60<sz t
      · rw[if_pos dN];decide
      · rw[if_neg dN];decide
    simp[this]
  · rw[Ha l a.1 ⟨e,he,t,bh,hm⟩];simp
theorem aa8{p:bc}{l k:List eD}(h:∃e∈l,∃t,e.2=some t/\e9 t=false):ik ⟨p,false,l,k⟩=false:=by
 unfold ik;simp only[Ha _ _ h];rfl
theorem aa9{p:bc}{l k:List eD}(h:∃e∈k,∃t,e.2=some t/\e9 t=false):ik ⟨p,false,l,k⟩=false:=by
 unfold ik;simp only[Ha _ _ h,Bool.false_and,Bool.and_false]
def ld(x:jh×cf):Option jh:=if jg x.2&&ik x.1 then some x.1 else none
theorem Of{x:jh×cf}(h:ik x.1=false):ld x=none:=by unfold ld;rw[h,Bool.and_false];rfl
theorem Hb{lo:Nat}{p:bc}{st:cf}(h:g9 lo st=none):m4 lo p st=none:=by unfold m4;rw[h,Option.bind_none]
theorem z0{lo:Nat}{p:bc}{st:cf}{x:cf×List eD}(h:g9 lo st=some x):m4 lo p st=(g9 lo x.1).map λa9=>(⟨p,false,x.2,a9.2⟩,a9.1):=by unfold m4;rw[h,Option.bind_some]
theorem aa_(p:bc)(st:cf):(m4 1 p st).bind ld=(m4 0 p st).bind ld:=by
 obtain⟨t1,t2⟩:=Oe st
 cases aF:g9 1 st with
 |none=>
  rw[Hb aF,Option.bind_none]
  cases dc:g9 0 st with
  |none=>rw[Hb dc,Option.bind_none]
  |some x=>
   rw[z0 dc]
   cases aG:g9 0 x.1 with
   |none=>rw[Option.map_none,Option.bind_none]
   |some y=>rw[Option.map_some,Option.bind_some];exact(Of (aa8 (t2 aF x dc))).symm
 |some x=>
  rw[z0 aF,z0 (t1 x aF)]
  obtain⟨ky,vz⟩:=Oe x.1
  cases vA:g9 1 x.1 with
  |some y=>rw[ky y vA]
  |none=>
   rw[Option.map_none,Option.bind_none]
   cases dc:g9 0 x.1 with
   |none=>rw[Option.map_none,Option.bind_none]
   |some y=>rw[Option.map_some,Option.bind_some];exact(Of (aa9 (vz vA y dc))).symm
theorem aba(s:bc):gN 1 s=gN 0 s:=by
 show(oE 1 s).bind ld=(oE 0 s).bind ld
 unfold oE
 by_cases ai:(aI (ch (some s)).2).2.isSome=true/\(aI (ch (some s)).2).1<=1
 · rw[if_pos ai,if_pos ai]
   by_cases ab:(aI (ch (some s)).2).1=1
   · rw[if_pos ab,if_pos ab]
   · rw[if_neg ab,if_neg ab]
     exact aa_ _ _
 · rw[if_neg ai,if_neg ai]
end Go.Proofs.ew
namespace Go.Proofs.ew
open Go aC Go.Proofs dD Go.Proofs.cT
open Go.Proofs.df (hN db jg)
open Go.Proofs.eN (e5 cf aI ch fm)
set_option maxRecDepth 100000
set_option maxHeartbeats 1000000
theorem s9(call:aE->List J->aa->ao)(s:List UInt8)(h:aa){Q:bA->af->Prop}(H:∃a1:Nat,av (aa.push (aa.push (aa.push h (.cells [.str [],.bool false,.aA,.aA] 24 .own 0 0)) (.cells [.str s,.bool false] 73 .own 0 0)) (.cells [.ptr (aa.n (aa.push h (.cells [.str [],.bool false,.aA,.aA] 24 .own 0 0))) 0,.int .i64 (.ofNat 0),.bool false] 75 .own 0 0)) (aa.n (aa.push (aa.push h (.cells [.str [],.bool false,.aA,.aA] 24 .own 0 0)) (.cells [.str s,.bool false] 73 .own 0 0))) (0+0)=some (.ptr a1 0)/\∃s1:List UInt8,∃aq:aa,call (.fn 30) [.ptr a1 0] (aa.push (aa.push (aa.push h (.cells [.str [],.bool false,.aA,.aA] 24 .own 0 0)) (.cells [.str s,.bool false] 73 .own 0 0)) (.cells [.ptr (aa.n (aa.push h (.cells [.str [],.bool false,.aA,.aA] 24 .own 0 0))) 0,.int .i64 (.ofNat 0),.bool false] 75 .own 0 0))=.ret (.str s1) aq/\∃ak:aa,aC.storeCells (aa.push aq (.cells [.str [],.bool false,.aA,.aA] 24 .own 0 0)) aq.n 0 [.str s1,.bool false,.aA,.aA]=some ak/\∃bL:Nat,av ak (aa.n (aa.push (aa.push h (.cells [.str [],.bool false,.aA,.aA] 24 .own 0 0)) (.cells [.str s,.bool false] 73 .own 0 0))) (0+0)=some (.ptr bL 0)/\∃cm:Nat,∃aQ:aa,call (.fn 31) [.ptr bL 0] ak=.ret (.int .u64 (.ofNat cm)) aQ/\∃a3:aa,aC.storeCells aQ aq.n (0+1) [.bool (ba (.ofNat cm) (.ofNat 1))]=some a3/\(cm=0->∃v1:J,∃bZ:aa,call (.fn 32) [.ptr (aa.n (aa.push (aa.push h (.cells [.str [],.bool false,.aA,.aA] 24 .own 0 0)) (.cells [.str s,.bool false] 73 .own 0 0))) 0] a3=.ret v1 bZ/\J.cu v1=true/\∃b2:aa,aC.storeCells bZ aq.n (0+2) [v1]=some b2/\∃v2:J,∃b5:aa,call (.fn 32) [.ptr (aa.n (aa.push (aa.push h (.cells [.str [],.bool false,.aA,.aA] 24 .own 0 0)) (.cells [.str s,.bool false] 73 .own 0 0))) 0] b2=.ret v2 b5/\J.cu v2=true/\∃b1:aa,aC.storeCells b5 aq.n (0+3) [v2]=some b1/\∃a8:Bool,av b1 (aa.n (aa.push (aa.push h (.cells [.str [],.bool false,.aA,.aA] 24 .own 0 0)) (.cells [.str s,.bool false] 73 .own 0 0))) (0+2)=some (.bool a8)/\(a8=true->∃dk:aa,aC.storeCells b1 h.n 0 [.str [],.bool false,.aA,.aA]=some dk/\Q .ret (af.mk [(2,.ptr h.n 0),(3,.int .i64 (.ofNat 4))] [] .none dk))/\(a8=false->∃cn:Nat,av b1 (aa.n (aa.push (aa.push h (.cells [.str [],.bool false,.aA,.aA] 24 .own 0 0)) (.cells [.str s,.bool false] 73 .own 0 0))) (0+0)=some (.ptr cn 0)/\∃aW:Bool,∃gg:aa,call (.fn 33) [.ptr cn 0] b1=.ret (.bool aW) gg/\(aW=true->(1<cm->∃fv:aa,aC.storeCells gg h.n 0 [.str [],.bool false,.aA,.aA]=some fv/\Q .ret (af.mk [(2,.ptr h.n 0),(3,.int .i64 (.ofNat 4))] [] .none fv))/\(¬1<cm->∃s2:List UInt8,∃ds:Bool,∃dS:J,∃v4:J,aC.loadCells gg aq.n 0 4=some [.str s2,.bool ds,dS,v4]/\∃ja:Bool,∃hK:aa,call (.fn 34) [.agg [.str s2,.bool ds,dS,v4]] gg=.ret (.bool ja) hK/\(ja=true->∃ck:List UInt8,∃ly:Bool,∃h6:J,∃v6:J,aC.loadCells hK aq.n 0 4=some [.str ck,.bool ly,h6,v6]/\J.cu h6=true/\J.cu v6=true/\∃oB:aa,aC.storeCells hK h.n 0 [.str ck,.bool ly,h6,v6]=some oB/\Q .ret (af.mk [(2,.ptr h.n 0),(3,.int .i64 (.ofNat 0))] [] .none oB))/\(ja=false->∃oC:aa,aC.storeCells hK h.n 0 [.str [],.bool false,.aA,.aA]=some oC/\Q .ret (af.mk [(2,.ptr h.n 0),(3,.int .i64 (.ofNat 4))] [] .none oC))))/\(aW=false->∃pv:aa,aC.storeCells gg h.n 0 [.str [],.bool false,.aA,.aA]=some pv/\Q .ret (af.mk [(2,.ptr h.n 0),(3,.int .i64 (.ofNat 4))] [] .none pv))))/\(¬cm=0->∃jx:Bool,av a3 (aa.n (aa.push (aa.push h (.cells [.str [],.bool false,.aA,.aA] 24 .own 0 0)) (.cells [.str s,.bool false] 73 .own 0 0))) (0+2)=some (.bool jx)/\(jx=true->∃l3:aa,aC.storeCells a3 h.n 0 [.str [],.bool false,.aA,.aA]=some l3/\Q .ret (af.mk [(2,.ptr h.n 0),(3,.int .i64 (.ofNat 4))] [] .none l3))/\(jx=false->∃cz:Nat,av a3 (aa.n (aa.push (aa.push h (.cells [.str [],.bool false,.aA,.aA] 24 .own 0 0)) (.cells [.str s,.bool false] 73 .own 0 0))) (0+0)=some (.ptr cz 0)/\∃qo:Bool,∃m2:aa,call (.fn 33) [.ptr cz 0] a3=.ret (.bool qo) m2/\(qo=true->(1<cm->∃sZ:aa,aC.storeCells m2 h.n 0 [.str [],.bool false,.aA,.aA]=some sZ/\Q .ret (af.mk [(2,.ptr h.n 0),(3,.int .i64 (.ofNat 4))] [] .none sZ))/\(¬1<cm->∃b6:List UInt8,∃om:Bool,∃oj:J,∃qn:J,aC.loadCells m2 aq.n 0 4=some [.str b6,.bool om,oj,qn]/\∃w_:Bool,∃pw:aa,call (.fn 34) [.agg [.str b6,.bool om,oj,qn]] m2=.ret (.bool w_) pw/\(w_=true->∃cW:List UInt8,∃ry:Bool,∃qp:J,∃v10:J,aC.loadCells pw aq.n 0 4=some [.str cW,.bool ry,qp,v10]/\J.cu qp=true/\J.cu v10=true/\∃oD:aa,aC.storeCells pw h.n 0 [.str cW,.bool ry,qp,v10]=some oD/\Q .ret (af.mk [(2,.ptr h.n 0),(3,.int .i64 (.ofNat 0))] [] .none oD))/\(w_=false->∃qC:aa,aC.storeCells pw h.n 0 [.str [],.bool false,.aA,.aA]=some qC/\Q .ret (af.mk [(2,.ptr h.n 0),(3,.int .i64 (.ofNat 4))] [] .none qC))))/\(qo=false->∃px:aa,aC.storeCells m2 h.n 0 [.str [],.bool false,.aA,.aA]=some px/\Q .ret (af.mk [(2,.ptr h.n 0),(3,.int .i64 (.ofNat 4))] [] .none px))))):
  bz Tryz.prog Tryz.f10 call [] ⟨[(0,.str s)],[],.none,h⟩ Q:=
 hz [] [2,3] [(0,.v (.str s))] rfl (Eq.mp (by kernel_rfl) H)
theorem abb(M:Nat)(g6:280<=M){p q:Nat}{h:aa}(hx:p<q)(aS:q<h.n)(hf:xf p q h h):vd p q h none (Y (M+1) (.fn 32) [.ptr q 0] h):=by
 obtain⟨⟨st,n,bad,al,j3,ag⟩,_⟩:=hf
 cases bad with
 |false=>
  rcases ag with ag|⟨rfl,fQ⟩
  · cases ag
  have e:=G8 M g6 hx aS al j3 fQ (by simp[dg])
  have aF:g9 1 none=some (none,[]):=rfl
  rw[aF] at e
  obtain⟨v,g,F,bx,bI,cP,⟨dK,iw,kA⟩,jV,k5⟩:=e
  exact⟨v,g,bx,jV.cell,⟨⟨none,dK,false,cP,iw,.inr ⟨rfl,kA⟩⟩,bI⟩⟩
 |true=>
  obtain⟨aq,ey,bw,bq⟩:=df.wY (M-3) p st h al
  rw[show M-3+3=M by omega] at ey
  have aY:=(bw.get q aS (by omega)).trans j3
  obtain⟨N,fU⟩:∃N,N=(aI st).1:=⟨_,rfl⟩
  rw[<-fU] at ey
  refine N6 M q h (R:=vd p q h none) ⟨p,ar j3 rfl,N,aq,ey,?_⟩
  have fin:∀Γ,cN [(3,J.aA)] Γ->∃(v:J) (g:aa) (s8:Env),bA.exit 0=(.exit 0)/\(⟨Γ,[],.none,aq⟩:af)=⟨s8,[],.none,g⟩/\cN [(3,v)] s8/\vd p q h none (.ret v g):=λΓ hs=>⟨.aA,aq,Γ,rfl,rfl,hs,.aA,aq,rfl,rfl,⟨⟨_,n,true,bq,aY,.inl rfl⟩,Fr.CC bw⟩⟩
  refine bz.loop (by kernel_rfl) (λbN z=>∃Γ,z=⟨Γ,[],.none,aq⟩/\cN [(0,.ptr q 0),(3,.aA),(4,.int .u64 (Int.ofNat N)),(5,.int .u64 (Int.ofNat 0))] Γ) ?_ 0 _ (by omega) ⟨_,rfl,⟨rfl,rfl,rfl,rfl,trivial⟩⟩
  rintro bN z ⟨Γ,rfl,cS⟩
  by_cases eV:0<N
  · exact bz.pre (rD (Y M) q N 0 .aA aq ⟨λ_=>⟨true,ar aY rfl,λ_=>fin _ ⟨rfl,trivial⟩,nofun⟩,λah=>absurd eV ah⟩) cS rfl rfl rfl
  · exact bz.pre (rD (Y M) q N 0 .aA aq ⟨λah=>absurd ah eV,λ_=>fin _ ⟨rfl,trivial⟩⟩) cS rfl rfl rfl
theorem abc{Γ:Env}{y:aa}{a:Nat}{cs:List J}{w:J}(G0:aC.loadCells y a 0 4=some cs)(ae:fV 2 Γ=some (.ptr a 0):=by kernel_rfl)(aB:fV 3 Γ=some w:=by kernel_rfl):kE Tryz.prog (dt Tryz.f10) Tryz.f10 Γ y=some (.aL [.agg cs,w]):=by
 have e:(Tryz.f10).results.toList=[.cell 2 24,.tmp 3]:=by kernel_rfl
 have aW:Nat.testBit (dt Tryz.f10) 2=true:=by kernel_rfl
 have ds:Nat.testBit (dt Tryz.f10) 3=true:=by kernel_rfl
 have ak:m7 Tryz.prog 24=some true:=by kernel_rfl
 have fN:dQ Tryz.prog 24=some 4:=by kernel_rfl
 unfold kE
 rw[e]
 simp only[mC,n8,aW,ds,ae,aB,ak,fN,G0]
end Go.Proofs.ew
namespace Go.Proofs.ew
open Go aC Go.Proofs dD Go.Proofs.cT
open Go.Proofs.df (hN db jg)
open Go.Proofs.eN (e5 cf aI ch fm)
set_option maxRecDepth 100000
set_option maxHeartbeats 1000000
def Hc(h:aa)(o:Option jh)(e:bA)(st:af):Prop:=∃g Γ cs n,e=.ret/\st=⟨Γ,[],.none,g⟩/\cN [(2,.ptr h.n 0),(3,.int .i64 (Int.ofNat n))] Γ/\aC.loadCells g h.n 0 4=some cs/\zU h o (.ret (.aL [.agg cs,.int .i64 (Int.ofNat n)]) g)
theorem Og{a b c d v:J}(w:v.cu=true):eP (0+2) [v] [a,b,c,d]=some [a,b,v,d]:=by cases v<;>first|rfl|cases w
theorem Oh{a b c d v:J}(w:v.cu=true):eP (0+3) [v] [a,b,c,d]=some [a,b,c,v]:=by cases v<;>first|rfl|cases w
abbrev Oi(s:bc):cJ:=.cells [.str s,.bool false] 73 .own 0 0
theorem abd(M:Nat)(g6:480<=M)(s:bc)(h:aa)(aD:s.length<=80000):bz Tryz.prog Tryz.f10 (Y M) [] ⟨[(0,.str s)],[],.none,h⟩ (Hc h (gN 1 s)):=by
 obtain⟨ab,h7⟩:∃ab,ab=((h.push (eO [] false .aA .aA)).push (Oi s)).push (j7 (h.n+1) 0 false):=⟨_,rfl⟩
 have c1:ab.get h.n=some (eO [] false .aA .aA):=by rw[h7];exact hj (by simp;omega) (hj (by simp) (eB rfl))
 have cO:ab.get (h.n+1)=some (Oi s):=by rw[h7];exact hj (by simp) (eB rfl)
 have aY:ab.get (h.n+2)=some (j7 (h.n+1) 0 false):=by rw[h7];exact eB rfl
 have c9:ab.n=h.n+3:=by rw[h7];simp
 have bw:Ext h.n h ab:=by rw[h7];exact Ext.k0 (by simp;omega) (Ext.k0 (by simp) (Ext.push (Nat.le_refl _) _))
 have bq:db ab (h.n+1) (some s):=⟨by omega,by simp only[eN.left];omega,cO⟩
 obtain⟨aq,ek,gB,a9⟩:=df.Cq (M-4) (h.n+1) (some s) ab bq
 rw[show M-4+4=M by omega] at ek
 have a1:=gB.n
 obtain⟨path,u7⟩:∃path,path=(ch (some s)).1:=⟨_,rfl⟩
 obtain⟨st1,u9⟩:∃st1,st1=(ch (some s)).2:=⟨_,rfl⟩
 have kW:path.length<=80000:=by have:=Gd (some s);rw[<-u7] at this;simp only[eN.left] at this;omega
 have D2:dg st1<=80001:=by have:=rp (some s);rw[<-u9] at this;have e:dg (some s)=s.length+1:=rfl;omega
 rw[<-u7] at ek
 rw[<-u9] at a9
 obtain⟨c,ai⟩:∃c,c=aq.n:=⟨_,rfl⟩
 obtain⟨ak,k7⟩:∃ak,ak=(aq.push (eO [] false .aA .aA)).set c (some (eO path false .aA .aA)):=⟨_,rfl⟩
 have s2:aC.storeCells (aq.push (eO [] false .aA .aA)) aq.n 0 [.str path,.bool false,.aA,.aA]=some ak:=by rw[k7,ai];exact dP (eB rfl) rfl rfl
 have bL:ak.n=aq.n+1:=by rw[k7];simp
 have dR:∀d,d<aq.n->ak.get d=aq.get d:=λd aj=>by rw[k7];exact et (by omega) (hj aj rfl)
 have fN:ak.get c=some (eO path false .aA .aA):=by rw[k7];exact dF rfl
 have aR:ak.get (h.n+2)=some (j7 (h.n+1) 0 false):=(dR _ (by omega)).trans ((gB.get _ (by omega) (by omega)).trans aY)
 have c2:ak.get h.n=some (eO [] false .aA .aA):=(dR _ (by omega)).trans ((gB.get _ (by omega) (by omega)).trans c1)
 have ee:db ak (h.n+1) st1:=db.jz a9 (by omega) (dR _ (by omega))
 obtain⟨aQ,ey,zO,ht⟩:=df.wY (M-3) (h.n+1) st1 ak ee
 rw[show M-3+3=M by omega] at ey
 have cm:=zO.n
 obtain⟨k,ax⟩:∃k,k=(aI st1).1:=⟨_,rfl⟩
 obtain⟨dB,s3⟩:∃dB,dB=(aI st1).2:=⟨_,rfl⟩
 have D3:dg dB<=80001:=by have:=qw st1;rw[<-s3] at this;omega
 have MV:dB=none->k=0:=by
  rw[s3,ax]
  cases st1 with
  |none=>intro _;rfl
  |some l=>
   rcases eN.Cf l with e|⟨a,b,e,_⟩
   · rw[e];intro _;rfl
   · rw[e];intro ah;cases ah
 have fw:oE 1 s=if dB.isSome=true/\k<=1 then if k=1 then some (⟨path,true,[],[]⟩,dB) else m4 1 path dB else none:=by rw[s3,ax,u9,u7];rfl
 rw[<-ax] at ey
 rw[<-s3] at ht
 have CU:∀d,d<ak.n->d≠h.n+1->aQ.get d=ak.get d:=λd aj aU=>zO.get d aj aU
 have bJ:Ext h.n h aQ:=⟨by omega,λd aj=>(CU d (by omega) (by omega)).trans ((dR d (by omega)).trans ((gB.get d (by omega) (by omega)).trans (bw.get d aj)))⟩
 obtain⟨a3,rE⟩:∃a3,a3=aQ.set c (some (eO path (ba (Int.ofNat k) (Int.ofNat 1)) .aA .aA)):=⟨_,rfl⟩
 have b6:aC.storeCells aQ aq.n (0+1) [.bool (ba (Int.ofNat k) (Int.ofNat 1))]=some a3:=by rw[rE,ai];exact dP ((CU aq.n (by omega) (by omega)).trans (ai▸fN)) rfl rfl
 have cn:a3.n=aQ.n:=by rw[rE];simp
 have rz:∀d,d≠c->a3.get d=aQ.get d:=λd aj=>by rw[rE];exact et aj rfl
 have CV:a3.get c=some (eO path (ba (Int.ofNat k) (Int.ofNat 1)) .aA .aA):=by rw[rE];exact dF rfl
 have eu:a3.get (h.n+2)=some (j7 (h.n+1) 0 false):=(rz _ (by omega)).trans ((CU _ (by omega) (by omega)).trans aR)
 have c4:a3.get h.n=some (eO [] false .aA .aA):=(rz _ (by omega)).trans ((CU _ (by omega) (by omega)).trans c2)
 have hY:db a3 (h.n+1) dB:=db.jz ht (by omega) (rz _ (by omega))
 have dh:Ext h.n h a3:=⟨by omega,λd aj=>(rz d (by omega)).trans (bJ.get d aj)⟩
 have sW:h.n+1<h.n+2:=by omega
 have bad:∀{g:aa},Ext h.n h g->g.get h.n=some (eO [] false .aA .aA)->gN 1 s=none->∃ep,aC.storeCells g h.n 0 [.str [],.bool false,.aA,.aA]=some ep/\Hc h (gN 1 s) .ret ⟨[(2,.ptr h.n 0),(3,.int .i64 (Int.ofNat 4))],[],.none,ep⟩:=λ{g} he au ad=>by
  rw[ad]
  exact⟨_,dP au rfl rfl,_,_,_,4,rfl,rfl,⟨rfl,rfl,trivial⟩,ie (dF rfl) rfl,_,rfl,Ext.fP (Nat.le_refl _) he⟩
 subst h7
 by_cases rF:k=0
 ·
  have rA:ba (Int.ofNat k) (Int.ofNat 1)=false:=jX (by omega)
  have vf:a3.get c=some (eO path false .aA .aA):=by rw[CV,rA]
  have bK:=G8 (M-1) (by omega) sW (by omega) hY eu (by omega) (by omega)
  rw[show M-1+1=M by omega] at bK
  have fail:∀{v1 v2:J} {bZ b2 b5:aa},Y M (.fn 32) [.ptr (h.n+2) 0] a3=.ret v1 bZ->v1.cu=true->Fr (h.n+1) (h.n+2) a3.n a3 bZ->b2=bZ.set c (some (eO path false v1 .aA))->Y M (.fn 32) [.ptr (h.n+2) 0] b2=.ret v2 b5->v2.cu=true->xf (h.n+1) (h.n+2) b2 b5->gN 1 s=none->bz Tryz.prog Tryz.f10 (Y M) [] ⟨[(0,.str s)],[],.none,h⟩ (Hc h (gN 1 s)):=λ{v1 v2 bZ b2 b5} GS bR f1 j4 Oj b3 abe ad=>by
   have cz:=f1.n
   have cV:b2.n=bZ.n:=by rw[j4];simp
   have Hd:=(f1.get c (by omega) (by omega) (by omega)).trans vf
   have zP:eP (0+2) [v1] [.str path,.bool false,.aA,.aA]=some [.str path,.bool false,v1,.aA]:=Og bR
   have dO:aC.storeCells bZ aq.n (0+2) [v1]=some b2:=by rw[j4,<-ai];exact dP Hd rfl zP
   have He:b2.get c=some (eO path false v1 .aA):=by rw[j4];exact dF rfl
   have rG:∀d,d≠c->b2.get d=bZ.get d:=λd aj=>by rw[j4];exact et aj rfl
   obtain⟨⟨st,n,b,rd,Hf,ag⟩,f2⟩:=abe
   have ej:=f2.n
   have Hg:=(f2.get c (by omega) (by omega) (by omega)).trans He
   obtain⟨b1,kt⟩:∃b1,b1=b5.set c (some (eO path false v1 v2)):=⟨_,rfl⟩
   have zR:eP (0+3) [v2] [.str path,.bool false,v1,.aA]=some [.str path,.bool false,v1,v2]:=Oh b3
   have ov:aC.storeCells b5 aq.n (0+3) [v2]=some b1:=by rw[kt,<-ai];exact dP Hg rfl zR
   have rH:∀d,d≠c->b1.get d=b5.get d:=λd aj=>by rw[kt];exact et aj rfl
   have fC:b1.n=b5.n:=by rw[kt];simp
   have low:∀d,d<=h.n->b1.get d=a3.get d:=λd aj=>(rH d (by omega)).trans ((f2.get d (by omega) (by omega) (by omega)).trans ((rG d (by omega)).trans (f1.get d (by omega) (by omega) (by omega))))
   have dX:Ext h.n h b1:=⟨by omega,λd aj=>(low d (by omega)).trans (dh.get d aj)⟩
   have kP:=(low h.n (by omega)).trans c4
   have Hh:=(rH (h.n+2) (by omega)).trans Hf
   have abf:db b1 (h.n+1) st:=db.jz rd (by omega) (rH _ (by omega))
   obtain⟨dk,lJ,kk⟩:=bad dX kP ad
   cases b with
   |true=>exact s9 (Y M) s h ⟨_,ar aY rfl,_,aq,ek,ak,s2,_,ar aR rfl,_,aQ,ey,a3,b6,λ_=>⟨v1,bZ,GS,bR,b2,dO,v2,b5,Oj,b3,b1,ov,_,ar Hh rfl,λ_=>⟨dk,lJ,kk⟩,λah=>(by cases ah)⟩,λah=>absurd rF ah⟩
   |false=>
    rcases ag with ag|⟨rfl,_⟩
    · cases ag
    have ce:=df.Gm (M-1) (h.n+1) none b1 abf
    rw[show M-1+1=M by omega] at ce
    exact s9 (Y M) s h ⟨_,ar aY rfl,_,aq,ek,ak,s2,_,ar aR rfl,_,aQ,ey,a3,b6,λ_=>⟨v1,bZ,GS,bR,b2,dO,v2,b5,Oj,b3,b1,ov,_,ar Hh rfl,λah=>(by cases ah),λ_=>⟨_,ar Hh rfl,_,b1,ce,λah=>(by cases ah),λ_=>⟨dk,lJ,kk⟩⟩⟩,λah=>absurd rF ah⟩
  have z1:gN 1 s=if dB.isSome=true then(m4 1 path dB).bind ld else none:=by
   show(oE 1 s).bind ld=_
   rw[fw]
   by_cases a7:dB.isSome=true
   · rw[if_pos ⟨a7,by omega⟩,if_neg (by omega),if_pos a7]
   · rw[if_neg (λah=>a7 ah.1),if_neg a7];rfl
  cases aJ:g9 1 dB with
  |none=>
   rw[aJ] at bK
   obtain⟨v1,bZ,bx,bI,cP⟩:=bK
   have cz:=cP.bS.n
   obtain⟨⟨st,n,b,rd,Hf,ag⟩,f1⟩:=cP
   obtain⟨b2,j4⟩:∃b2,b2=bZ.set c (some (eO path false v1 .aA)):=⟨_,rfl⟩
   have rG:∀d,d≠c->b2.get d=bZ.get d:=λd aj=>by rw[j4];exact et aj rfl
   have cV:b2.n=bZ.n:=by rw[j4];simp
   have bQ:=abb (M-1) (by omega) sW (h:=b2) (by omega) ⟨⟨st,n,b,db.jz rd (by omega) (rG _ (by omega)),(rG _ (by omega)).trans Hf,ag⟩,Fr.refl _ _ _ _⟩
   rw[show M-1+1=M by omega] at bQ
   obtain⟨v2,b5,dK,iw,kA⟩:=bQ
   exact fail bx bI f1 j4 dK iw kA (by rw[z1];split;rw[Hb aJ];rfl;rfl)
  |some y=>
   obtain⟨qt,vg⟩:=y
   rw[aJ] at bK
   obtain⟨v1,bZ,s4,bx,f1,wZ,⟨l2,iD,abg⟩,bR,iP⟩:=bK
   have cz:=f1.n
   obtain⟨b2,j4⟩:∃b2,b2=bZ.set c (some (eO path false v1 .aA)):=⟨_,rfl⟩
   have rG:∀d,d≠c->b2.get d=bZ.get d:=λd aj=>by rw[j4];exact et aj rfl
   have cV:b2.n=bZ.n:=by rw[j4];simp
   have cl:=CO aJ
   have aaB:dg qt<=80001:=by have:=cl.1;simp only at this;omega
   have bQ:=G8 (M-1) (by omega) sW (h:=b2) (st:=qt) (n:=l2) (by omega) (db.jz wZ (by omega) (rG _ (by omega))) ((rG _ (by omega)).trans iD) abg (by omega)
   rw[show M-1+1=M by omega] at bQ
   cases nQ:g9 1 qt with
   |none=>
    rw[nQ] at bQ
    obtain⟨v2,b5,dK,iw,kA⟩:=bQ
    exact fail bx bR.cell f1 j4 dK iw kA (by rw[z1];split;rw[z0 aJ,nQ];rfl;rfl)
   |some eK=>
    obtain⟨rB,xh⟩:=eK
    rw[nQ] at bQ
    obtain⟨v2,b5,s5,dK,f2,uY,⟨aaC,rn,ac0⟩,b3,iQ⟩:=bQ
    have ej:=f2.n
    have Hd:=(f1.get c (by omega) (by omega) (by omega)).trans vf
    have zP:eP (0+2) [v1] [.str path,.bool false,.aA,.aA]=some [.str path,.bool false,v1,.aA]:=Og bR.cell
    have dO:aC.storeCells bZ aq.n (0+2) [v1]=some b2:=by rw[j4,<-ai];exact dP Hd rfl zP
    have He:b2.get c=some (eO path false v1 .aA):=by rw[j4];exact dF rfl
    have Hg:=(f2.get c (by omega) (by omega) (by omega)).trans He
    obtain⟨b1,kt⟩:∃b1,b1=b5.set c (some (eO path false v1 v2)):=⟨_,rfl⟩
    have zR:eP (0+3) [v2] [.str path,.bool false,v1,.aA]=some [.str path,.bool false,v1,v2]:=Oh b3.cell
    have ov:aC.storeCells b5 aq.n (0+3) [v2]=some b1:=by rw[kt,<-ai];exact dP Hg rfl zR
    have rH:∀d,d≠c->b1.get d=b5.get d:=λd aj=>by rw[kt];exact et aj rfl
    have fC:b1.n=b5.n:=by rw[kt];simp
    have ou:b1.get c=some (eO path false v1 v2):=by rw[kt];exact dF rfl
    have low:∀d,d<=h.n->b1.get d=a3.get d:=λd aj=>(rH d (by omega)).trans ((f2.get d (by omega) (by omega) (by omega)).trans ((rG d (by omega)).trans (f1.get d (by omega) (by omega) (by omega))))
    have dX:Ext h.n h b1:=⟨by omega,λd aj=>(low d (by omega)).trans (dh.get d aj)⟩
    have kP:=(low h.n (by omega)).trans c4
    have m3:=(rH (h.n+2) (by omega)).trans rn
    have pq:db b1 (h.n+1) rB:=db.jz uY (by omega) (rH _ (by omega))
    have ce:=df.Gm (M-1) (h.n+1) rB b1 pq
    rw[show M-1+1=M by omega] at ce
    have qD:l4 (λd=>s4 d\/s5 d) b1 v1 vg:=bR.b0 λd aj=>⟨.inl aj,by have:=iP d aj;exact(rH d (by omega)).trans ((f2.get d (by omega) (by omega) (by omega)).trans (rG d (by omega)))⟩
    have zT:l4 (λd=>s4 d\/s5 d) b1 v2 xh:=b3.b0 λd aj=>⟨.inr aj,by have:=iQ d aj;exact rH d (by omega)⟩
    have l5:∀d,s4 d\/s5 d->h.n+1<=d/\d<b1.n:=λd aj=>by
     rcases aj with aj|aj
     · have:=iP d aj;omega
     · have:=iQ d aj;omega
    have nP:oy ⟨path,false,vg,xh⟩:=NY (by omega) (by omega) aJ nQ
    have va:(m4 1 path dB).bind ld=ld (⟨path,false,vg,xh⟩,rB):=by rw[z0 aJ,nQ];rfl
    cases hl:jg rB with
    |false=>
     rw[hl] at ce
     have ad:gN 1 s=none:=by
      rw[z1,va];simp[ld,hl]
     obtain⟨dk,lJ,kk⟩:=bad dX kP ad
     exact s9 (Y M) s h ⟨_,ar aY rfl,_,aq,ek,ak,s2,_,ar aR rfl,_,aQ,ey,a3,b6,λ_=>⟨v1,bZ,bx,bR.cell,b2,dO,v2,b5,dK,b3.cell,b1,ov,_,ar m3 rfl,λah=>(by cases ah),λ_=>⟨_,ar m3 rfl,_,b1,ce,λah=>(by cases ah),λ_=>⟨dk,lJ,kk⟩⟩⟩,λah=>absurd rF ah⟩
    |true=>
     rw[hl] at ce
     obtain⟨dk,j5,j6⟩:=Nh (M-1) (x:=⟨path,false,vg,xh⟩) (vv:=v1) (vt:=v2) (by omega) (Nat.le_refl b1.n) ⟨qD.at λd aj=>(l5 d aj).2,zT.at λd aj=>(l5 d aj).2⟩ nP
     rw[show M-1+1=M by omega] at j5
     have abh:=j6.n
     have u_:=(j6.get h.n (by omega)).trans kP
     have Hi:=(j6.get c (by omega)).trans ou
     have fb:Ext h.n h dk:=dX.trans (Nat.le_refl _) (j6.le (by omega))
     have CW:dB.isSome=true:=by
      cases hs:dB with
      |some _=>rfl
      |none=>
       exfalso
       rw[hs] at aJ
       obtain⟨rfl,rfl⟩:qt=none/\vg=[]:=by
        have aF:g9 1 none=some (none,[]):=rfl
        rw[aF] at aJ;cases aJ;exact⟨rfl,rfl⟩
       have aF:g9 1 none=some (none,[]):=rfl
       rw[aF] at nQ
       cases nQ
       cases hl
     cases iL:ik ⟨path,false,vg,xh⟩ with
     |false=>
      rw[iL] at j5
      have ad:gN 1 s=none:=by
       rw[z1,va];simp[ld,iL]
      obtain⟨gg,abi,kk⟩:=bad fb u_ ad
      exact s9 (Y M) s h ⟨_,ar aY rfl,_,aq,ek,ak,s2,_,ar aR rfl,_,aQ,ey,a3,b6,λ_=>⟨v1,bZ,bx,bR.cell,b2,dO,v2,b5,dK,b3.cell,b1,ov,_,ar m3 rfl,λah=>(by cases ah),λ_=>⟨_,ar m3 rfl,_,b1,ce,λ_=>⟨λah=>absurd ah (by omega),λ_=>⟨path,false,v1,v2,ie (ai▸ou) rfl,_,dk,j5,λah=>(by cases ah),λ_=>⟨gg,abi,kk⟩⟩⟩,λah=>(by cases ah)⟩⟩,λah=>absurd rF ah⟩
     |true=>
      rw[iL] at j5
      have GZ:eP 0 [.str path,.bool false,v1,v2] [.str [],.bool false,.aA,.aA]=some [.str path,.bool false,v1,v2]:=by
       rcases bR with⟨rfl,_⟩|⟨_,_,_,rfl,_⟩<;>rcases b3 with⟨rfl,_⟩|⟨_,_,_,rfl,_⟩<;>rfl
      have pS:gN 1 s=some ⟨path,false,vg,xh⟩:=by rw[z1,va,if_pos CW];simp[ld,hl,iL]
      refine s9 (Y M) s h ⟨_,ar aY rfl,_,aq,ek,ak,s2,_,ar aR rfl,_,aQ,ey,a3,b6,λ_=>⟨v1,bZ,bx,bR.cell,b2,dO,v2,b5,dK,b3.cell,b1,ov,_,ar m3 rfl,λah=>(by cases ah),λ_=>⟨_,ar m3 rfl,_,b1,ce,λ_=>⟨λah=>absurd ah (by omega),λ_=>⟨path,false,v1,v2,ie (ai▸ou) rfl,_,dk,j5,λ_=>⟨path,false,v1,v2,ie (ai▸Hi) rfl,bR.cell,b3.cell,_,dP u_ rfl GZ,?_⟩,λah=>(by cases ah)⟩⟩,λah=>(by cases ah)⟩⟩,λah=>absurd rF ah⟩
      rw[pS]
      have ml:∀d,h.n+1<=d->d<b1.n->∀dH,(dk.set h.n dH).get d=b1.get d:=λd aj aD dH=>et (by omega) (j6.get d aD)
      exact⟨_,_,_,0,rfl,rfl,⟨rfl,rfl,trivial⟩,ie (dF rfl) rfl,_,v1,v2,rfl,Ext.fP (Nat.le_refl _) fb,⟨(qD.b0 λd aj=>⟨aj,ml d (l5 d aj).1 (l5 d aj).2 _⟩).at λd aj=>by have:=l5 d aj;simp;omega,(zT.b0 λd aj=>⟨aj,ml d (l5 d aj).1 (l5 d aj).2 _⟩).at λd aj=>by have:=l5 d aj;simp;omega⟩,nP⟩
 ·
  have CW:dB.isSome=true:=by
   cases hs:dB with
   |some _=>rfl
   |none=>exact absurd (MV hs) rF
  have ce:=df.Gm (M-1) (h.n+1) dB a3 hY
  rw[show M-1+1=M by omega] at ce
  cases hl:jg dB with
  |false=>
   rw[hl] at ce
   have ad:gN 1 s=none:=by
    show(oE 1 s).bind ld=_
    rw[fw]
    by_cases ab:k=1
    · rw[if_pos ⟨CW,by omega⟩,if_pos ab];simp[ld,hl]
    · rw[if_neg (by omega)];rfl
   obtain⟨dk,lJ,kk⟩:=bad dh c4 ad
   exact s9 (Y M) s h ⟨_,ar aY rfl,_,aq,ek,ak,s2,_,ar aR rfl,_,aQ,ey,a3,b6,λah=>absurd ah rF,λ_=>⟨_,ar eu rfl,λah=>(by cases ah),λ_=>⟨_,ar eu rfl,_,a3,ce,λah=>(by cases ah),λ_=>⟨dk,lJ,kk⟩⟩⟩⟩
  |true=>
   rw[hl] at ce
   by_cases ab:k=1
   · have rA:ba (Int.ofNat k) (Int.ofNat 1)=true:=nv ab
     have vf:a3.get c=some (eO path true .aA .aA):=by rw[CV,rA]
     have nP:oy ⟨path,true,[],[]⟩:=⟨by show path.length<=_;omega,by simp,by simp,λe he=>(by cases he),λe he=>(by cases he)⟩
     obtain⟨dk,j5,j6⟩:=Nh (M-1) (x:=⟨path,true,[],[]⟩) (vv:=.aA) (vt:=.aA) (by omega) (Nat.le_refl a3.n) ⟨.inl ⟨rfl,rfl⟩,.inl ⟨rfl,rfl⟩⟩ nP
     rw[show M-1+1=M by omega] at j5
     have abh:=j6.n
     have u_:=(j6.get h.n (by omega)).trans c4
     have Hi:=(j6.get c (by omega)).trans vf
     have fb:Ext h.n h dk:=dh.trans (Nat.le_refl _) (j6.le (by omega))
     have iL:ik ⟨path,true,[],[]⟩=true:=rfl
     rw[iL] at j5
     have pS:gN 1 s=some ⟨path,true,[],[]⟩:=by
      show(oE 1 s).bind ld=_
      rw[fw,if_pos ⟨CW,by omega⟩,if_pos ab];simp[ld,hl,iL]
     refine s9 (Y M) s h ⟨_,ar aY rfl,_,aq,ek,ak,s2,_,ar aR rfl,_,aQ,ey,a3,b6,λah=>absurd ah rF,λ_=>⟨_,ar eu rfl,λah=>(by cases ah),λ_=>⟨_,ar eu rfl,_,a3,ce,λ_=>⟨λah=>absurd ah (by omega),λ_=>⟨path,true,.aA,.aA,ie (ai▸vf) rfl,_,dk,j5,λ_=>⟨path,true,.aA,.aA,ie (ai▸Hi) rfl,rfl,rfl,_,dP u_ rfl rfl,?_⟩,λah=>(by cases ah)⟩⟩,λah=>(by cases ah)⟩⟩⟩
     rw[pS]
     exact⟨_,_,_,0,rfl,rfl,⟨rfl,rfl,trivial⟩,ie (dF rfl) rfl,_,.aA,.aA,rfl,Ext.fP (Nat.le_refl _) fb,⟨.inl ⟨rfl,rfl⟩,.inl ⟨rfl,rfl⟩⟩,nP⟩
   · have ad:gN 1 s=none:=by
       show(oE 1 s).bind ld=_
       rw[fw,if_neg (by omega)];rfl
     obtain⟨dk,lJ,kk⟩:=bad dh c4 ad
     exact s9 (Y M) s h ⟨_,ar aY rfl,_,aq,ek,ak,s2,_,ar aR rfl,_,aQ,ey,a3,b6,λah=>absurd ah rF,λ_=>⟨_,ar eu rfl,λah=>(by cases ah),λ_=>⟨_,ar eu rfl,_,a3,ce,λ_=>⟨λ_=>⟨dk,lJ,kk⟩,λah=>absurd ah (by omega)⟩,λah=>(by cases ah)⟩⟩⟩
theorem abj(M:Nat)(g6:480<=M)(s:bc)(h:aa)(aD:s.length<=80000):zU h (gN 1 s) (Y (M+1) (.fn 10) [.str s] h):=by
 refine ET (intr:=cj) (n:=M) (args:=[.str s]) Tryz.func10 (by kernel_rfl) (by kernel_rfl) (by kernel_rfl) (abd M g6 s h aD) λe st aS=>?_
 obtain⟨g,Γ,cs,n,rfl,rfl,hs,ai,aj⟩:=aS
 exact .inl ⟨.inl rfl,rfl,_,abc ai (cN.ok hs _ _ rfl) (cN.ok hs _ _ rfl),aj⟩
end Go.Proofs.ew
namespace Go.Proofs.ew
open Go aC Go.Proofs dD Go.Proofs.cT
open Go.Proofs.df (hN db jg)
open Go.Proofs.eN (e5 cf aI ch fm)
set_option maxRecDepth 100000
set_option maxHeartbeats 1000000
theorem abk(call:aE->List J->aa->ao)(s:List UInt8)(h:aa):
  aw Tryz.prog Tryz.f3 none call [0] (af.mk [(0,.str s)] [] .none h) (.nrm)
   (af.mk [(0,.str s)] [] .none h):=
 aX [0] (hs:=[]) (by kernel_rfl)<| .nil
theorem abl(call:aE->List J->aa->ao)(s:List UInt8)(h:aa)(aZ:Nat)(bC:List UInt8)
  (H1:lg mz (J.int IntKind.i64 (Int.ofNat (List.length s))) [J.int IntKind.i64 (Int.ofNat 3000)]=some (J.int IntKind.i64 (Int.ofNat aZ)))
  (ay:d_ Tryz.prog h 9 (J.str s) none (some (J.int IntKind.i64 (Int.ofNat aZ))) none=some (J.str bC)):
  aw Tryz.prog Tryz.f3 none call [1,0] (af.mk [(0,.str s)] [] .none h) (.nrm)
   (af.mk [(0,.str bC)] [] .none h):=
 aX [0] (hs:=[.o (.int .i64 (.ofNat (List.length s))),.v (.int .i64 (.ofNat aZ)),.v (.str bC)]) (by kernel_rfl)<| .cons (by kernel_rfl:cq Tryz.prog h 9 (J.str s)=some (J.int IntKind.i64 (Int.ofNat (List.length s))))<| .cons H1<| .cons ay<| .nil
theorem abm(call:aE->List J->aa->ao)(s cO:List UInt8)(a8:Bool)(v1 bR:J)(aF:Nat)(h g aK:aa)
  (H1:call (.fn 9) [.str s] h=ao.ret (.aL [.agg [.str cO,.bool a8,v1,bR],.int .i64 (.ofNat aF)]) g)
  (ay:aC.storeCells (aa.push g (.cells [.str [],.bool false,.aA,.aA] 24 .own 0 0)) (aa.n g) 0 [.str cO,.bool a8,v1,bR]=some aK):
  aw Tryz.prog Tryz.f3 none call [1,1,0] (af.mk [(0,.str s)] [] .none h) (.nrm)
   (af.mk [(0,.str s),(3,.ptr (aa.n g) 0),(4,.int .i64 (.ofNat aF))] [] .none aK):=
 aX [0,3,4] (hs:=[.c (.aL [.agg [.str cO,.bool a8,v1,bR],.int .i64 (.ofNat aF)]) g,.ft (.aL []) aK]) (by kernel_rfl)<| .cons H1<| .cons (⟨by kernel_rfl,ay,rfl⟩:some 4=some 4/\aC.storeCells (aa.push g (cJ.cells [J.str [],J.bool false,J.aA,J.aA] 24 eE.own 0 0)) (aa.n g) 0 [J.str cO,J.bool a8,v1,bR]=some aK/\J.aL []=J.aL [])<| .nil
theorem abn(call:aE->List J->aa->ao)(s cO:List UInt8)(a8:Bool)(v1 bR:J)(aF p:Nat)(y:J)(h g aK:aa)
  (H1:call (.fn 10) [.str s] h=ao.ret (.aL [.agg [.str cO,.bool a8,v1,bR],.int .i64 (.ofNat aF)]) g)
  (ay:aC.storeCells (aa.push g (.cells [.str [],.bool false,.aA,.aA] 24 .own 0 0)) (aa.n g) 0 [.str cO,.bool a8,v1,bR]=some aK):
  aw Tryz.prog Tryz.f3 none call [1,1,1,0] (af.mk [(0,.str s),(3,.ptr p 0),(4,y)] [] .none h) (.nrm)
   (af.mk [(3,.ptr p 0),(4,y),(5,.ptr (aa.n g) 0),(6,.int .i64 (.ofNat aF))] [] .none aK):=
 aX [3,4,5,6] (hs:=[.c (.aL [.agg [.str cO,.bool a8,v1,bR],.int .i64 (.ofNat aF)]) g,.ft (.aL []) aK]) (by kernel_rfl)<| .cons H1<| .cons (⟨by kernel_rfl,ay,rfl⟩:some 4=some 4/\aC.storeCells (aa.push g (cJ.cells [J.str [],J.bool false,J.aA,J.aA] 24 eE.own 0 0)) (aa.n g) 0 [J.str cO,J.bool a8,v1,bR]=some aK/\J.aL []=J.aL [])<| .nil
theorem abo(call:aE->List J->aa->ao)(cO eo:List UInt8)(a8 aW:Bool)(v1 bR v2 b3:J)(aF aG p q:Nat)(h g:aa)(bY:Bool)(aK:aa)(hZ:Bool)(cd:aa)
  (H1:ba (.ofNat aF) (.ofNat aG)=true)
  (ay:aC.loadCells h p 0 4=some [.str cO,.bool a8,v1,bR])
  (aN:aC.loadCells h q 0 4=some [.str eo,.bool aW,v2,b3])
  (aO:call (.fn 11) [.agg [.str cO,.bool a8,v1,bR],.agg [.str eo,.bool aW,v2,b3]] h=ao.ret (.bool bY) aK)
  (bm:bY=true)
  (bT:call (.fn 12) [] aK=ao.ret (.bool hZ) cd):
  aw Tryz.prog Tryz.f3 none call [1,1,1,1] (af.mk [(3,.ptr p 0),(4,.int .i64 (.ofNat aF)),(5,.ptr q 0),(6,.int .i64 (.ofNat aG))] [] .none h) (.ret)
   (af.mk [(2,.bool hZ)] [] .none cd):=
 aX [2] (hs:=[.b true,.v (.agg [.str cO,.bool a8,v1,bR]),.b true,.v (.agg [.str eo,.bool aW,v2,b3]),.b true,.c (.bool bY) aK,.b true,.b true,.c (.bool hZ) cd,.b true]) (by kernel_rfl)<| .cons H1<| .cons ay<| .cons H1<| .cons aN<| .cons H1<| .cons aO<| .cons H1<| .cons bm<| .cons bT<| .cons bm<| .nil
theorem abp(call:aE->List J->aa->ao)(cO eo:List UInt8)(a8 aW:Bool)(v1 bR v2 b3:J)(aF aG p q:Nat)(h g:aa)(bY:Bool)(aK:aa)
  (H1:ba (.ofNat aF) (.ofNat aG)=true)
  (ay:aC.loadCells h p 0 4=some [.str cO,.bool a8,v1,bR])
  (aN:aC.loadCells h q 0 4=some [.str eo,.bool aW,v2,b3])
  (aO:call (.fn 11) [.agg [.str cO,.bool a8,v1,bR],.agg [.str eo,.bool aW,v2,b3]] h=ao.ret (.bool bY) aK)
  (bm:bY=false):
  aw Tryz.prog Tryz.f3 none call [1,1,1,1] (af.mk [(3,.ptr p 0),(4,.int .i64 (.ofNat aF)),(5,.ptr q 0),(6,.int .i64 (.ofNat aG))] [] .none h) (.ret)
   (af.mk [(2,.bool false)] [] .none aK):=
 aX [2] (hs:=[.b true,.v (.agg [.str cO,.bool a8,v1,bR]),.b true,.v (.agg [.str eo,.bool aW,v2,b3]),.b true,.c (.bool bY) aK,.b true,.b false,.b false]) (by kernel_rfl)<| .cons H1<| .cons ay<| .cons H1<| .cons aN<| .cons H1<| .cons aO<| .cons H1<| .cons bm<| .cons bm<| .nil
theorem abq(call:aE->List J->aa->ao)(s:List UInt8)(h:aa){Q:bA->af->Prop}(H:
  Q (bA.nrm) (af.mk [(0,J.str s)] [] bH.none h)):
  bz Tryz.prog Tryz.f3 call [0] (af.mk [(0,J.str s)] [] bH.none h) Q:=by
 exact bz.of (abk call s h) H
theorem abr(call:aE->List J->aa->ao)(s:List UInt8)(h:aa){Q:bA->af->Prop}(H:
  ∃(aZ:Nat),lg mz (J.int IntKind.i64 (Int.ofNat (List.length s))) [J.int IntKind.i64 (Int.ofNat 3000)]=some (J.int IntKind.i64 (Int.ofNat aZ))/\
  ∃(bC:List UInt8),d_ Tryz.prog h 9 (J.str s) none (some (J.int IntKind.i64 (Int.ofNat aZ))) none=some (J.str bC)/\
  Q (bA.nrm) (af.mk [(0,J.str bC)] [] bH.none h)):
  bz Tryz.prog Tryz.f3 call [1,0] (af.mk [(0,J.str s)] [] bH.none h) Q:=by
 obtain⟨aZ,ab,H⟩:=H
 obtain⟨bC,ae,H⟩:=H
 exact bz.of (abl call s h aZ bC ab ae) H
theorem abt(call:aE->List J->aa->ao)(s:List UInt8)(h:aa){Q:bA->af->Prop}(H:
  ∃(cO:List UInt8) (a8:Bool) (v1:J) (bR:J) (aF:Nat) (g:aa),call (aE.fn 9) [J.str s] h=ao.ret (J.aL [J.agg [J.str cO,J.bool a8,v1,bR],J.int IntKind.i64 (Int.ofNat aF)]) g/\
  ∃(aK:aa),aC.storeCells (aa.push g (cJ.cells [J.str [],J.bool false,J.aA,J.aA] 24 eE.own 0 0)) (aa.n g) 0 [J.str cO,J.bool a8,v1,bR]=some aK/\
  Q (bA.nrm) (af.mk [(0,J.str s),(3,J.ptr (aa.n g) 0),(4,J.int IntKind.i64 (Int.ofNat aF))] [] bH.none aK)):
  bz Tryz.prog Tryz.f3 call [1,1,0] (af.mk [(0,J.str s)] [] bH.none h) Q:=by
 obtain⟨cO,a8,v1,bR,aF,g,ab,H⟩:=H
 obtain⟨aK,ae,H⟩:=H
 exact bz.of (abm call s cO a8 v1 bR aF h g aK ab ae) H
theorem abu(call:aE->List J->aa->ao)(s:List UInt8)(p:Nat)(y:J)(h:aa){Q:bA->af->Prop}(H:
  ∃(cO:List UInt8) (a8:Bool) (v1:J) (bR:J) (aF:Nat) (g:aa),call (aE.fn 10) [J.str s] h=ao.ret (J.aL [J.agg [J.str cO,J.bool a8,v1,bR],J.int IntKind.i64 (Int.ofNat aF)]) g/\
  ∃(aK:aa),aC.storeCells (aa.push g (cJ.cells [J.str [],J.bool false,J.aA,J.aA] 24 eE.own 0 0)) (aa.n g) 0 [J.str cO,J.bool a8,v1,bR]=some aK/\
  Q (bA.nrm) (af.mk [(3,J.ptr p 0),(4,y),(5,J.ptr (aa.n g) 0),(6,J.int IntKind.i64 (Int.ofNat aF))] [] bH.none aK)):
  bz Tryz.prog Tryz.f3 call [1,1,1,0] (af.mk [(0,J.str s),(3,J.ptr p 0),(4,y)] [] bH.none h) Q:=by
 obtain⟨cO,a8,v1,bR,aF,g,ab,H⟩:=H
 obtain⟨aK,ae,H⟩:=H
 exact bz.of (abn call s cO a8 v1 bR aF p y h g aK ab ae) H
theorem abv(call:aE->List J->aa->ao)(aF:Nat)(aG:Nat)(p:Nat)(q:Nat)(h:aa){Q:bA->af->Prop}(H:
  aF=aG/\
  ∃(cO:List UInt8) (a8:Bool) (v1:J) (bR:J),aC.loadCells h p 0 4=some [J.str cO,J.bool a8,v1,bR]/\
  ∃(eo:List UInt8) (aW:Bool) (v2:J) (b3:J),aC.loadCells h q 0 4=some [J.str eo,J.bool aW,v2,b3]/\
  ∃(bY:Bool) (aK:aa),call (aE.fn 11) [J.agg [J.str cO,J.bool a8,v1,bR],J.agg [J.str eo,J.bool aW,v2,b3]] h=ao.ret (J.bool bY) aK/\
  (bY=true->
   ∃(hZ:Bool) (cd:aa),call (aE.fn 12) [] aK=ao.ret (J.bool hZ) cd/\
   Q (bA.ret) (af.mk [(2,J.bool hZ)] [] bH.none cd))/\
  (bY=false->
   Q (bA.ret) (af.mk [(2,J.bool false)] [] bH.none aK))):
  bz Tryz.prog Tryz.f3 call [1,1,1,1] (af.mk [(3,J.ptr p 0),(4,J.int IntKind.i64 (Int.ofNat aF)),(5,J.ptr q 0),(6,J.int IntKind.i64 (Int.ofNat aG))] [] bH.none h) Q:=by
 obtain⟨ab,H⟩:=H
 obtain⟨cO,a8,v1,bR,ae,H⟩:=H
 obtain⟨eo,aW,v2,b3,aB,H⟩:=H
 obtain⟨bY,aK,aP,H⟩:=H
 rcases Bool.eq_false_or_eq_true (bY) with cg|cg
 · have H:=H.1 cg
   obtain⟨hZ,cd,dN,H⟩:=H
   exact bz.of (abo call cO eo a8 aW v1 bR v2 b3 aF aG p q h (oJ 0) bY aK hZ cd (nv ab) ae aB aP cg dN) H
 · have H:=H.2 cg
   exact bz.of (abp call cO eo a8 aW v1 bR v2 b3 aF aG p q h (oJ 0) bY aK (nv ab) ae aB aP cg) H
theorem Ok:∀l:List bc,km l l=true
 |[]=>rfl
 |x::l=>by rw[km,uf,Ok l];rfl
mutual
theorem Ol:∀t:a_,uA t t=true
 |.mk k b8 ns xs rt=>by rw[uA,Nat.beq_refl,uf,Ok,Om xs,On rt];rfl
theorem Om:∀l:List a_,jY l l=true
 |[]=>by rw[jY]
 |t::l=>by rw[jY,Ol t,Om l];rfl
theorem On:∀o:Option a_,ig o o=true
 |none=>by rw[ig]
 |some t=>by rw[ig];exact Ol t
end
theorem abw{o:Option a_}(h:l0 o=0):nE o o=true:=by
 cases o with
 |none=>cases h
 |some t=>
  have dN:sz t<=60:=by
   by_cases dN:60<sz t
   · simp only[l0] at h;rw[if_pos dN] at h;cases h
   · omega
  unfold nE
  rw[On]
  simp[lW,dN]
theorem Hj:∀(l:List eD) (p:bc),j1 p l=true->pt l l=true
 |[],_,_=>rfl
 |e::l,p,h=>by
  rw[j1] at h
  simp only[Bool.and_eq_true,decide_eq_true_eq] at h
  rw[pt,uf,abw h.2.2.1,Hj l e.1 h.2.2.2];rfl
theorem abx{x:jh}(h:ik x=true):u1 x x=true:=by
 unfold ik at h
 simp only[Bool.and_eq_true] at h
 unfold u1
 rw[uf,Hj _ _ h.1,Hj _ _ h.2.1,beq_self_eq_true];rfl
theorem aby{lo:Nat}{s:bc}{x:jh}(h:gN lo s=some x):ik x=true:=by
 unfold gN at h
 cases al:oE lo s with
 |none=>rw[al] at h;cases h
 |some y=>
  rw[al] at h
  simp only[Option.bind_some] at h
  by_cases ai:(jg y.2&&ik y.1)=true
  · rw[if_pos ai] at h
    cases h
    rw[Bool.and_eq_true] at ai
    exact ai.2
  · rw[if_neg ai] at h;cases h
theorem abz(m:Nat)(h:aa):Y (m+1) (.fn 12) [] h=.ret (.bool true) h:=by
 have e:cj 12 [] h=some (.bool true,h):=by kernel_rfl
 simp only[Y,gk,e]
def abA:Option jh->jh
 |none=>⟨[],false,[],[]⟩
 |some z=>z
def abB:Option jh->Nat
 |none=>4
 |some _=>0
theorem zU.pr{h:aa}{o:Option jh}{x:ao}(aj:zU h o x):∃p b v w e g y,x=.ret (.aL [.agg [.str p,.bool b,v,w],.int .i64 (Int.ofNat e)]) g/\Ext h.n h g/\y.path=p/\y.hp=b/\ox g.n g v w y/\oy y/\y=abA o/\e=abB o/\v.cu=true/\w.cu=true:=by
 cases o with
 |none=>
  obtain⟨g,rfl,ad⟩:=aj
  exact⟨[],false,.aA,.aA,4,g,⟨[],false,[],[]⟩,rfl,ad,rfl,rfl,⟨.inl ⟨rfl,rfl⟩,.inl ⟨rfl,rfl⟩⟩,⟨by simp,by simp,by simp,λe he=>(by cases he),λe he=>(by cases he)⟩,rfl,rfl,rfl,rfl⟩
 |some z=>
  obtain⟨g,vv,vt,rfl,ad,aJ,hf⟩:=aj
  exact⟨_,_,vv,vt,0,g,z,rfl,ad,rfl,rfl,aJ,hf,rfl,rfl,aJ.v.cell,aJ.t.cell⟩
theorem Oo{p:bc}{b:Bool}{v w:J}(aJ:v.cu=true)(hw:w.cu=true):eP 0 [.str p,.bool b,v,w] [.str [],.bool false,.aA,.aA]=some [.str p,.bool b,v,w]:=yv [.str p,.bool b,v,w] _ (by simp[J.cu] at*;exact⟨aJ,hw⟩) (Nat.le_refl _)
theorem abC(m:Nat)(s:bc)(h:aa):∃an,Y (m+502) (.fn 3) [.str s] h=.ret (.bool true) an:=by
 obtain⟨u,hu⟩:∃u,u=s.take (min s.length 3000):=⟨_,rfl⟩
 have oP:u.length<=3000:=by rw[hu,List.length_take];omega
 have iv:d_ Tryz.prog h 9 (.str s) none (some (.int .i64 (Int.ofNat (min s.length 3000)))) none=some (.str u):=by rw[hu];exact yu df.mn (by omega)
 have d1:=aaE (m+500) (by omega) u h (by omega)
 obtain⟨cO,a8,v1,bR,aF,aq,iy,bx,bw,Oq,Ot,abD,Ou,Ov,abE,Gx,abF⟩:=d1.pr
 obtain⟨ak,k7⟩:∃ak,ak=(aq.push (eO [] false .aA .aA)).set aq.n (some (eO cO a8 v1 bR)):=⟨_,rfl⟩
 have s2:aC.storeCells (aq.push (eO [] false .aA .aA)) aq.n 0 [.str cO,.bool a8,v1,bR]=some ak:=by rw[k7];exact dP (eB rfl) rfl (Oo Gx abF)
 have bL:ak.n=aq.n+1:=by rw[k7];simp
 have bM:Ext aq.n aq ak:=by rw[k7];exact Ext.fP (Nat.le_refl _) (Ext.push (Nat.le_refl _) _)
 have fN:ak.get aq.n=some (eO cO a8 v1 bR):=by rw[k7];exact dF rfl
 have d2:=abj (m+500) (by omega) u ak (by omega)
 rw[aba u] at d2
 obtain⟨eo,aW,v2,b3,aG,aQ,eK,bI,dT,abG,abH,abI,ac1,abJ,abK,Gy,abL⟩:=d2.pr
 have cm:=dT.n
 obtain⟨a3,rE⟩:∃a3,a3=(aQ.push (eO [] false .aA .aA)).set aQ.n (some (eO eo aW v2 b3)):=⟨_,rfl⟩
 have b6:aC.storeCells (aQ.push (eO [] false .aA .aA)) aQ.n 0 [.str eo,.bool aW,v2,b3]=some a3:=by rw[rE];exact dP (eB rfl) rfl (Oo Gy abL)
 have cn:a3.n=aQ.n+1:=by rw[rE];simp
 have kJ:Ext aQ.n aQ a3:=by rw[rE];exact Ext.fP (Nat.le_refl _) (Ext.push (Nat.le_refl _) _)
 have CV:a3.get aQ.n=some (eO eo aW v2 b3):=by rw[rE];exact dF rfl
 have vf:a3.get aq.n=some (eO cO a8 v1 bR):=(kJ.get _ (by omega)).trans ((dT.get _ (by omega)).trans fN)
 have abM:Ext ak.n ak a3:=dT.trans (by omega) kJ
 have abN:Ext aq.n aq a3:=bM.trans (by omega) abM
 obtain rfl:iy=eK:=by rw[Ov,abJ]
 obtain rfl:aF=aG:=by rw[abE,abK]
 obtain⟨bZ,sL,KE⟩:=aan (m+500) (x:=iy) (x':=iy) (by omega) (Nat.le_refl a3.n) ((abD.b0 abN).le (by omega)) ((abI.b0 kJ).le (by omega)) Ou Ou
 have may:ik iy=true:=by
  rw[Ov]
  cases aj:gN 0 u with
  |none=>rfl
  |some z=>exact aby aj
 rw[abx may,Oq,Ot] at sL
 obtain rfl:cO=eo:=by rw[<-Oq,<-abG]
 obtain rfl:a8=aW:=by rw[<-Ot,<-abH]
 refine⟨bZ,?_⟩
 refine ET (R:=λx=>x=.ret (.bool true) bZ) (intr:=cj) (n:=m+501) (args:=[.str s]) Tryz.func3 (by kernel_rfl) (by kernel_rfl) (by kernel_rfl) (Q:=λe st=>e=.ret/\∃Γ,st=⟨Γ,[],.none,bZ⟩/\cN [(2,.bool true)] Γ) ?_ λe st aS=>?_
 · refine bz.seq (p:=[]) (by kernel_rfl) (abq (Y (m+501)) s h ?_)
   refine bz.seq (p:=[1]) (by kernel_rfl) (abr (Y (m+501)) s h ⟨_,SF _ _,u,iv,?_⟩)
   refine bz.seq (p:=[1,1]) (by kernel_rfl) (abt (Y (m+501)) u h ⟨cO,a8,v1,bR,aF,aq,bx,ak,s2,?_⟩)
   refine bz.seq (p:=[1,1,1]) (by kernel_rfl) (abu (Y (m+501)) u aq.n _ ak ⟨cO,a8,v2,b3,aF,aQ,bI,a3,b6,?_⟩)
   exact abv (Y (m+501)) aF aF aq.n aQ.n a3 ⟨rfl,cO,a8,v1,bR,ie vf rfl,cO,a8,v2,b3,ie CV rfl,true,bZ,sL,λ_=>⟨true,bZ,abz _ _,rfl,_,rfl,⟨rfl,trivial⟩⟩,λah=>(by cases ah)⟩
 · obtain⟨rfl,Γ,rfl,hs⟩:=aS
   refine .inl ⟨.inl rfl,rfl,_,?_,rfl⟩
   have e:(Tryz.f3).results.toList=[.tmp 2]:=by kernel_rfl
   have aW:Nat.testBit (dt Tryz.f3) 2=true:=by kernel_rfl
   unfold kE
   rw[e]
   simp only[mC,n8,aW,cN.ok hs 2 _ rfl]
end Go.Proofs.ew
