/-
  PROVED HERE: contracts of functions (Di). No condition beside each statement's own.
-/
import Derived.Test.YtfooahfebojldaaGreatDoorDg
import Derived.Test.YtfooahfebojldaaGreatDoorDh
import Derived.Test.YtfooahfebojldaaGreatDoorTx
set_option linter.unusedVariables false
set_option linter.unusedSimpArgs false
namespace Go.Proofs.ew
open Go aC Go.Proofs dD Go.Proofs.cT
open Go.Proofs.df (hN)
open Go.Proofs.eN (e5)
set_option maxRecDepth 100000
set_option maxHeartbeats 1000000
theorem Z3(m:Nat)(v:J)(h:aa){R:ao->Prop}(H:∃a1:Nat,cq Tryz.prog h 22 v=some (.int .i64 (.ofNat a1))/\bz Tryz.prog Tryz.f56 (Y m) [1,1,0,1,0] (af.mk [(3,.str []),(6,v),(7,.int .i64 (.ofNat a1)),(8,.int .i64 (.ofNat 0))] [] .none h) (λdv dw=>((∃aq:aa,∃bK:Env,dv=.exit 0/\dw=af.mk bK [] .none aq/\cN [] bK/\R (.ret (.bool true) aq))\/(∃ak:aa,∃bQ:Env,dv=.ret/\dw=af.mk bQ [] .none ak/\cN [(2,.bool false)] bQ/\R (.ret (.bool false) ak))))):
  R (Y (m+1) (.fn 56) [v] h):=
 eM (intr:=cj) [(4000,.gr [3,6,7,8] [(.exit 0,[]),(.ret,[(2,.is (.bool false))])])] [(0,.o v)] Tryz.func56 (by kernel_rfl) (by kernel_rfl) (by kernel_rfl) rfl (Eq.mp (by kernel_rfl) H)
theorem Z4(call:aE->List J->aa->ao)(a8:Nat)(dH:Nat)(h2:Nat)(i:Nat)(c1:cE)(l:List UInt8)(h:aa){Q:bA->af->Prop}(H:i<h2/\i<h2/\∃s1:List UInt8,∃v1:J,aC.loadCells h a8 (dH+i*2) 2=some [.str s1,v1]/\J.cu v1=true/\∃aq:aa,aC.storeCells (aa.push h (.cells [.str [],.bb] 53 .own 0 0)) h.n 0 [.str s1,v1]=some aq/\∃s2:List UInt8,av aq h.n (0+0)=some (.str s2)/\((!en l s2)=true->Q .ret (af.mk [(2,.bool false),(3,.str l),(6,.slice a8 dH h2 c1),(7,.int .i64 (.ofNat h2)),(8,.int .i64 (.ofNat i))] [] .none aq))/\((!en l s2)=false->∃ck:List UInt8,av aq h.n (0+0)=some (.str ck)/\(24<List.length ck->Q .ret (af.mk [(2,.bool false),(3,.str l),(6,.slice a8 dH h2 c1),(7,.int .i64 (.ofNat h2)),(8,.int .i64 (.ofNat i))] [] .none aq))/\(¬24<List.length ck->∃v2:J,av aq h.n (0+1)=some v2/\∃a1:Nat,∃ak:aa,call (.fn 76) [v2] aq=.ret (.int .i64 (.ofNat a1)) ak/\(a1=0->∃b6:List UInt8,av ak h.n (0+0)=some (.str b6)/\i+1<9223372036854775808/\Q .nrm (af.mk [(3,.str b6),(6,.slice a8 dH h2 c1),(7,.int .i64 (.ofNat h2)),(8,.int .i64 (.ofNat (i+1)))] [] .none ak))/\(¬a1=0->Q .ret (af.mk [(2,.bool false),(3,.str l),(6,.slice a8 dH h2 c1),(7,.int .i64 (.ofNat h2)),(8,.int .i64 (.ofNat i))] [] .none ak))))):
  bz Tryz.prog Tryz.f56 call [1,1,0,1,0,0] ⟨[(3,.str l),(6,.slice a8 dH h2 c1),(7,.int .i64 (.ofNat h2)),(8,.int .i64 (.ofNat i))],[],.none,h⟩ Q:=
 hz [(1009,.t),(11,.cI (.kI [.st,.o])),(24,.cI .o)] [2,3,6,7,8] [(3,.v (.str l)),(6,.v (.slice a8 dH h2 c1)),(7,.v (.int .i64 (.ofNat h2))),(8,.v (.int .i64 (.ofNat i)))] rfl (Eq.mp (by kernel_rfl) H)
theorem Z5(call:aE->List J->aa->ao)(N:Nat)(i:Nat)(l:List UInt8)(v:J)(h:aa){Q:bA->af->Prop}(H:¬i<N/\Q (.exit 0) (af.mk [] [] .none h)):
  bz Tryz.prog Tryz.f56 call [1,1,0,1,0,0] ⟨[(3,.str l),(6,v),(7,.int .i64 (.ofNat N)),(8,.int .i64 (.ofNat i))],[],.none,h⟩ Q:=
 hz [(1009,.f)] [] [(3,.v (.str l)),(6,.o v),(7,.v (.int .i64 (.ofNat N))),(8,.v (.int .i64 (.ofNat i)))] rfl (Eq.mp (by kernel_rfl) H)
theorem Z6(m:Nat)(p:List UInt8)(eL:Bool)(vv:J)(vt:J)(h:aa){R:ao->Prop}(H:J.cu vv=true/\J.cu vt=true/\∃v1:J,av (aa.push h (.cells [.str p,.bool eL,vv,vt] 24 .own 0 0)) h.n (0+2)=some v1/\∃a8:Bool,∃aq:aa,(Y m) (.fn 56) [v1] (aa.push h (.cells [.str p,.bool eL,vv,vt] 24 .own 0 0))=.ret (.bool a8) aq/\(a8=true->∃v2:J,av aq h.n (0+3)=some v2/\∃aW:Bool,∃ak:aa,(Y m) (.fn 56) [v2] aq=.ret (.bool aW) ak/\(aW=true->∃ds:Bool,av ak h.n (0+1)=some (.bool ds)/\(ds=true->∃dS:J,av ak h.n (0+2)=some dS/\∃a1:Nat,cq Tryz.prog ak 22 dS=some (.int .i64 (.ofNat a1))/\∃v4:J,av ak h.n (0+3)=some v4/\∃bL:Nat,cq Tryz.prog ak 22 v4=some (.int .i64 (.ofNat bL))/\a1+bL<9223372036854775808/\R (.ret (.bool (ba (.ofNat (a1+bL)) (.ofNat 0))) ak))/\(ds=false->R (.ret (.bool true) ak)))/\(aW=false->R (.ret (.bool false) ak)))/\(a8=false->R (.ret (.bool false) aq))):
  R (Y (m+1) (.fn 29) [.agg [.str p,.bool eL,vv,vt]] h):=
 eM (intr:=cj) [] [(0,.kI [.v (.str p),.v (.bool eL),.o vv,.o vt])] Tryz.func29 (by kernel_rfl) (by kernel_rfl) (by kernel_rfl) rfl (Eq.mp (by kernel_rfl) H)
theorem Z7(m:Nat)(s:List UInt8)(h:aa){R:ao->Prop}(H:(1<=List.length s->R (.ret (.bool (dq (.ofNat (List.length s)) (.ofNat 24))) h))/\(¬1<=List.length s->R (.ret (.bool false) h))):
  R (Y (m+1) (.fn 77) [.str s] h):=
 eM (intr:=cj) [] [(0,.v (.str s))] Tryz.func77 (by kernel_rfl) (by kernel_rfl) (by kernel_rfl) rfl (Eq.mp (by kernel_rfl) H)
theorem Z8(m:Nat)(v:J)(h:aa){R:ao->Prop}(H:bz Tryz.prog Tryz.f61 (Y m) [1,0,1,0] (af.mk [(0,v),(3,.int .i64 (.ofNat 0))] [] .none h) (λdv dw=>((∃aq:aa,∃bK:Env,dv=.exit 0/\dw=af.mk bK [] .none aq/\cN [] bK/\R (.ret (.bool true) aq))\/(∃ak:aa,∃bQ:Env,dv=.ret/\dw=af.mk bQ [] .none ak/\cN [(2,.bool false)] bQ/\R (.ret (.bool false) ak))))):
  R (Y (m+1) (.fn 61) [v] h):=
 eM (intr:=cj) [(4000,.gr [0,3] [(.exit 0,[]),(.ret,[(2,.is (.bool false))])])] [(0,.o v)] Tryz.func61 (by kernel_rfl) (by kernel_rfl) (by kernel_rfl) rfl (Eq.mp (by kernel_rfl) H)
theorem Z9(call:aE->List J->aa->ao)(a8:Nat)(dH:Nat)(h2:Nat)(i:Nat)(c1:cE)(h:aa){Q:bA->af->Prop}(H:i<h2/\i<h2/\∃s1:List UInt8,av (h.room 34) a8 (dH+i*2+0)=some (.str s1)/\∃aW:Bool,∃aq:aa,call (.fn 77) [.str s1] (h.room 34)=.ret (.bool aW) aq/\(aW=true->(0<i->i<h2/\∃s2:List UInt8,av aq a8 (dH+i*2+0)=some (.str s2)/\(1<=i/\i<9223372036854775808)/\i-1<h2/\∃ck:List UInt8,av aq a8 (dH+(i-1)*2+0)=some (.str ck)/\((!en ck s2)=true->Q .ret (af.mk [(0,.slice a8 dH h2 c1),(2,.bool false),(3,.int .i64 (.ofNat i))] [] .none aq))/\((!en ck s2)=false->i<h2/\∃v1:J,av aq a8 (dH+i*2+1)=some v1/\∃a1:Nat,∃ak:aa,call (.fn 78) [v1] aq=.ret (.int .i64 (.ofNat a1)) ak/\J.sound v1=true/\(a1=0->i+1<9223372036854775808/\Q .nrm (af.mk [(0,.slice a8 dH h2 c1),(3,.int .i64 (.ofNat (i+1)))] [] .none ak))/\(¬a1=0->Q .ret (af.mk [(0,.slice a8 dH h2 c1),(2,.bool false),(3,.int .i64 (.ofNat i))] [] .none ak))))/\(¬0<i->i<h2/\∃v2:J,av aq a8 (dH+i*2+1)=some v2/\∃bL:Nat,∃aQ:aa,call (.fn 78) [v2] aq=.ret (.int .i64 (.ofNat bL)) aQ/\J.sound v2=true/\(bL=0->i+1<9223372036854775808/\Q .nrm (af.mk [(0,.slice a8 dH h2 c1),(3,.int .i64 (.ofNat (i+1)))] [] .none aQ))/\(¬bL=0->Q .ret (af.mk [(0,.slice a8 dH h2 c1),(2,.bool false),(3,.int .i64 (.ofNat i))] [] .none aQ))))/\(aW=false->Q .ret (af.mk [(0,.slice a8 dH h2 c1),(2,.bool false),(3,.int .i64 (.ofNat i))] [] .none aq))):
  bz Tryz.prog Tryz.f61 call [1,0,1,0,0] ⟨[(0,.slice a8 dH h2 c1),(3,.int .i64 (.ofNat i))],[],.none,h⟩ Q:=
 hz [(1007,.t),(40,.cI .o)] [0,2,3] [(0,.v (.slice a8 dH h2 c1)),(3,.v (.int .i64 (.ofNat i)))] rfl (Eq.mp (by kernel_rfl) H)
theorem Z_(call:aE->List J->aa->ao)(i:Nat)(v:J)(h:aa){Q:bA->af->Prop}(H:∃a1:Nat,cq Tryz.prog h 22 v=some (.int .i64 (.ofNat a1))/\¬i<a1/\Q (.exit 0) (af.mk [] [] .none h)):
  bz Tryz.prog Tryz.f61 call [1,0,1,0,0] ⟨[(0,v),(3,.int .i64 (.ofNat i))],[],.none,h⟩ Q:=
 hz [(1007,.f)] [] [(0,.o v),(3,.v (.int .i64 (.ofNat i)))] rfl (Eq.mp (by kernel_rfl) H)
theorem aaa(m:Nat)(p:List UInt8)(eL:Bool)(vv:J)(vt:J)(h:aa){R:ao->Prop}(H:J.cu vv=true/\J.cu vt=true/\∃v1:J,av (aa.push h (.cells [.str p,.bool eL,vv,vt] 24 .own 0 0)) h.n (0+2)=some v1/\∃a8:Bool,∃aq:aa,(Y m) (.fn 61) [v1] (aa.push h (.cells [.str p,.bool eL,vv,vt] 24 .own 0 0))=.ret (.bool a8) aq/\(a8=true->∃v2:J,av aq h.n (0+3)=some v2/\∃aW:Bool,∃ak:aa,(Y m) (.fn 61) [v2] aq=.ret (.bool aW) ak/\(aW=true->∃ds:Bool,av ak h.n (0+1)=some (.bool ds)/\(ds=true->∃dS:J,av ak h.n (0+2)=some dS/\∃a1:Nat,cq Tryz.prog ak 22 dS=some (.int .i64 (.ofNat a1))/\(a1=0->∃v4:J,av ak h.n (0+3)=some v4/\∃bL:Nat,cq Tryz.prog ak 22 v4=some (.int .i64 (.ofNat bL))/\R (.ret (.bool (ba (.ofNat bL) (.ofNat 0))) ak))/\(¬a1=0->R (.ret (.bool false) ak)))/\(ds=false->R (.ret (.bool true) ak)))/\(aW=false->R (.ret (.bool false) ak)))/\(a8=false->R (.ret (.bool false) aq))):
  R (Y (m+1) (.fn 34) [.agg [.str p,.bool eL,vv,vt]] h):=
 eM (intr:=cj) [] [(0,.kI [.v (.str p),.v (.bool eL),.o vv,.o vt])] Tryz.func34 (by kernel_rfl) (by kernel_rfl) (by kernel_rfl) rfl (Eq.mp (by kernel_rfl) H)
def aab(ns ws:List bc):List bc:=List.zipWith (λn w=>hN n++w) ns ws
def aac(k:Nat)(b8:bc)(ns ws:List bc)(r:bc):bc:=
 if k=6 then hN b8 else if k=7 then e5 ns.length++(aab ns ws).flatten else if k=8 then e5 ws.length++ws.flatten++r else if k=9 then e5 ws.length++ws.flatten else[]
mutual
def M_:a_->bc
 |.mk k b8 ns xs rt=>e5 k++aac k b8 ns (Na xs) (Nb rt)
def Na:List a_->List bc
 |[]=>[]
 |t::c7=>M_ t::Na c7
def Nb:Option a_->bc
 |none=>[]
 |some t=>M_ t
end
theorem below{b B:Nat}{h g:aa}(ag:B<=b)(XI:B<=h.n)(e:di b h.n h g):Ext B h g:=⟨e.n,λd aj=>e.get d (by omega) (by omega)⟩
end Go.Proofs.ew
namespace Go.Proofs.ew
open Go aC Go.Proofs dD Go.Proofs.cT
open Go.Proofs.df (hN)
open Go.Proofs.eN (e5)
set_option maxRecDepth 100000
set_option maxHeartbeats 1000000
end Go.Proofs.ew
namespace Go.Proofs.ew
open Go aC Go.Proofs dD Go.Proofs.cT
open Go.Proofs.df (hN)
open Go.Proofs.eN (e5)
set_option maxRecDepth 100000
set_option maxHeartbeats 1000000
abbrev eD:=bc×Option a_
def lG(B:Nat)(h:aa)(v:J)(l:List eD):Prop:=(v=.aA/\l=[])\/∃b off aH,v=.slice b off l.length aH/\b<B/\(∀i (hi:i<l.length),∃w,aC.loadCells h b (off+i*2) 2=some [.str l[i].1,w]/\dE B h l[i].2 w)/\0<l.length/\aH≠ .dead
theorem lG.b0{B:Nat}{h g:aa}{v:J}{l:List eD}(e:Ext B h g)(al:lG B h v l):lG B g v l:=by
 rcases al with al|⟨b,off,aH,ab,ae,aP,cg⟩
 · exact .inl al
 · refine .inr ⟨b,off,aH,ab,ae,λi hi=>?_,cg⟩
   obtain⟨w,bR,b3⟩:=aP i hi
   refine⟨w,?_,dE.b0 (gE.ext e (Nat.le_refl _)) _ _ b3⟩
   rw[<-bR]
   unfold aC.loadCells
   rw[e.get b ae]
theorem lG.le{B C:Nat}{h:aa}{v:J}{l:List eD}(e:B<=C)(al:lG B h v l):lG C h v l:=by
 rcases al with al|⟨b,off,aH,ab,ae,aP,cg⟩
 · exact .inl al
 · exact .inr ⟨b,off,aH,ab,by omega,λi hi=>by obtain⟨w,bR,b3⟩:=aP i hi;exact⟨w,bR,dE.le e _ _ b3⟩,cg⟩
theorem zs{B:Nat}{h y:aa}{l:List eD}{b off:Nat}(ag:b<B)(aD:∀i (hi:i<l.length),∃w,aC.loadCells h b (off+i*2) 2=some [.str l[i].1,w]/\dE B h l[i].2 w)(lZ:Ext B h y){i:Nat}(hi:i<l.length):∃w,aC.loadCells y b (off+i*2) 2=some [.str l[i].1,w]/\dE B y l[i].2 w:=by
 obtain⟨w,bR,b3⟩:=aD i hi
 refine⟨w,?_,dE.b0 (gE.ext lZ (Nat.le_refl _)) _ _ b3⟩
 rw[<-bR]
 unfold aC.loadCells
 rw[lZ.get b ag]
theorem lG.cell{B:Nat}{h:aa}{v:J}{l:List eD}(al:lG B h v l):v.cu=true:=by rcases al with⟨rfl,_⟩|⟨b,off,aH,rfl,_⟩<;>rfl
theorem lG.len{B:Nat}{h:aa}{v:J}{l:List eD}(al:lG B h v l)(g:aa):cq Tryz.prog g 22 v=some (.int .i64 (Int.ofNat l.length)):=by
 have hu:Tryz.prog.underlying 22=some (.slice 53):=by kernel_rfl
 rcases al with⟨rfl,rfl⟩|⟨b,off,aH,rfl,_⟩
 · simp only[cq,hu];rfl
 · simp only[cq,hu]
theorem Nc{B:Nat}{h:aa}{ot:Option a_}{v:J}(aJ:dE B h ot v):v.cu=true:=by rcases aJ.q7 with rfl|⟨R,rfl⟩<;>rfl
theorem Cx{h:aa}{b o:Nat}{x y:J}(aD:aC.loadCells h b o 2=some [x,y]):av h b (o+0)=some x/\av h b (o+1)=some y:=by
 unfold aC.loadCells at aD
 split at aD
 · rename_i cs e k lo up au
   have key:∀(o:Nat) (cs:List J),takeN 2 (jB o cs)=some [x,y]->nth o cs=some x/\nth (o+1) cs=some y:=by
    intro o
    induction o with
    |zero=>
     intro cs ai
     match cs,ai with
     |[],ai=>cases ai
     |[a],ai=>cases ai
     |a::b::r,ai=>
      cases ai
      exact⟨rfl,rfl⟩
    |succ o bt=>
     intro cs ai
     match cs,ai with
     |[],ai=>cases ai
     |a::r,ai=>exact bt r ai
   obtain⟨bx,bI⟩:=key o cs aD
   exact⟨ar au bx,ar au bI⟩
 · cases aD
theorem aad{n a:bc}{w c d:J}(hw:w.cu=true):eP 0 [.str n,w] [c,d]=some [.str n,w]:=yv [.str n,w] [c,d] (by simp[J.cu] at*;exact hw) (Nat.le_refl _)
def fit(o:Option a_):Prop:=dy o<=100/\∀t,o=some t->iH t<=90000
def j1(last:bc):List eD->Bool
 |[]=>true
 |e::l=>en last e.1&&(decide (e.1.length<=24)&&(decide (l0 e.2=0)&&j1 e.1 l))
def nM(l:List eD):Nat->bc
 |0=>[]
 |i+1=>((l[i]?).map Prod.fst).getD []
theorem zt{l:List eD}{i:Nat}(h:i<l.length):nM l (i+1)=l[i].1:=by simp[nM,h]
theorem Nd(m:Nat){B:Nat}{h:aa}{v:J}{l:List eD}(b4:B<=h.n)(hm:450<=m)(al:lG B h v l)(hlen:l.length<=90000)(hf:∀e∈l,fit e.2):cc B h (.bool (j1 [] l)) (Y (m+1) (.fn 56) [v] h):=by
 refine Z3 m v h ⟨_,al.len h,?_⟩
 refine bz.loop (by kernel_rfl) (λk st=>∃i y Γ,st=⟨Γ,[],.none,y⟩/\cN [(3,.str (nM l i)),(6,v),(7,.int .i64 (Int.ofNat l.length)),(8,.int .i64 (Int.ofNat i))] Γ/\l.length-i=k/\i<=l.length/\Ext B h y/\j1 [] l=j1 (nM l i) (l.drop i)) ?_ l.length _ (by omega) ⟨0,h,_,rfl,⟨rfl,rfl,rfl,rfl,trivial⟩,by omega,by omega,Ext.refl _ _,rfl⟩
 rintro k st ⟨i,y,Γ,rfl,cS,ax,hi,lZ,aS⟩
 by_cases ab:i<l.length
 · rcases al with⟨_,rfl⟩|⟨b,off,aH,rfl,ag,aD,aU,aj⟩
   · simp at ab
   obtain⟨w,ai,bh⟩:=zs ag aD lZ ab
   obtain⟨g,au⟩:∃g,g=(y.push (.cells [.str [],.bb] 53 .own 0 0)).set y.n (some (.cells [.str l[i].1,w] 53 .own 0 0)):=⟨_,rfl⟩
   have cL:aC.storeCells (y.push (.cells [.str [],.bb] 53 .own 0 0)) y.n 0 [.str l[i].1,w]=some g:=by
    rw[au];exact dP (eB rfl) rfl (aad (a:=[]) (Nc bh))
   have Cy:g.get y.n=some (.cells [.str l[i].1,w] 53 .own 0 0):=by rw[au];exact dF rfl
   have og:Ext y.n y g:=by rw[au];exact(Ext.push (Nat.le_refl _) _).fP (Nat.le_refl _)
   have uJ:=Nat.le_trans b4 lZ.n
   have wL:Ext B h g:=lZ.trans (Nat.le_refl _) (og.le uJ)
   have eQ:y.n<g.n:=by rw[au];simp
   rw[List.drop_eq_getElem_cons ab,j1] at aS
   refine bz.pre (Z4 (Y m) b off _ i aH (nM l i) y ⟨ab,ab,_,w,ai,Nc bh,g,cL,_,ar Cy rfl,λag=>?_,λag=>⟨_,ar Cy rfl,λoQ=>?_,λoQ=>⟨_,ar Cy rfl,?_⟩⟩⟩) cS rfl rfl rfl
   · have:en (nM l i) l[i].1=false:=by simpa using ag
     exact .inr ⟨g,_,rfl,rfl,⟨rfl,trivial⟩,cc.of (eZ (by rw[aS,this];rfl)) wL⟩
   · exact .inr ⟨g,_,rfl,rfl,⟨rfl,trivial⟩,cc.of (eZ (by rw[aS];simp[show¬l[i].1.length<=24 by omega])) wL⟩
   · have cB:en (nM l i) l[i].1=true:=by simpa using ag
     have qS:=hf l[i] (List.getElem_mem ab)
     obtain⟨ak,c2,bM⟩:=XT (m-1) (ot:=l[i].2) (B:=g.n) (h:=g) (v:=w) (by have:=qS.1;omega) qS.2 (by have:=qS.1;omega) (Nat.le_refl _) (dE.le (Nat.le_trans uJ og.n) _ _ (dE.b0 (gE.ext (og.le uJ) (Nat.le_refl _)) _ _ bh))
     rw[show m-1+1=m by omega] at c2
     have zu:Ext B h ak:=wL.trans (Nat.le_refl _) (bM.le (Nat.le_trans uJ og.n))
     refine⟨_,ak,c2,λaz=>⟨_,ar ((bM.get y.n eQ).trans Cy) rfl,by omega,?_⟩,λaz=>?_⟩
     · refine⟨_,(by show l.length-(i+1)<k;omega),i+1,ak,_,rfl,⟨by rw[zt ab];rfl,rfl,rfl,rfl,trivial⟩,rfl,by omega,zu,?_⟩
       rw[aS,cB,az,zt ab];simp[show l[i].1.length<=24 by omega]
     · exact .inr ⟨ak,_,rfl,rfl,⟨rfl,trivial⟩,cc.of (eZ (by rw[aS];simp[az])) zu⟩
 · refine bz.pre (Z5 (Y m) l.length i (nM l i) v y ⟨ab,.inl ⟨y,_,rfl,rfl,trivial,cc.of (eZ ?_) lZ⟩⟩) cS rfl rfl rfl
   rw[aS,List.drop_of_length_le (by omega)];rfl
end Go.Proofs.ew
namespace Go.Proofs.ew
open Go aC Go.Proofs dD Go.Proofs.cT
open Go.Proofs.df (hN)
open Go.Proofs.eN (e5)
set_option maxRecDepth 100000
set_option maxHeartbeats 1000000
theorem aae(m:Nat)(s:bc)(h:aa):Y (m+1) (.fn 77) [.str s] h=.ret (.bool (decide (1<=s.length)&&decide (s.length<=24))) h:=
 Z7 m s h (R:=λx=>x=_) ⟨λab=>by rw[Lm];simp[ab],λab=>by simp[ab]⟩
theorem aaf(s:bc):en [] s=decide (1<=s.length):=by cases s<;>simp[en]
theorem Nf(m:Nat){B:Nat}{h:aa}{v:J}{l:List eD}(b4:B<=h.n)(hm:450<=m)(al:lG B h v l)(hlen:l.length<=90000)(hf:∀e∈l,fit e.2):cc B h (.bool (j1 [] l)) (Y (m+1) (.fn 61) [v] h):=by
 refine Z8 m v h ?_
 refine bz.loop (by kernel_rfl) (λk st=>∃i y Γ,st=⟨Γ,[],.none,y⟩/\cN [(0,v),(3,.int .i64 (Int.ofNat i))] Γ/\l.length-i=k/\i<=l.length/\Ext B h y/\j1 [] l=j1 (nM l i) (l.drop i)) ?_ l.length _ (by omega) ⟨0,h,_,rfl,⟨rfl,rfl,trivial⟩,by omega,by omega,Ext.refl _ _,rfl⟩
 rintro k st ⟨i,y,Γ,rfl,cS,ax,hi,lZ,aS⟩
 by_cases ab:i<l.length
 · rcases al with⟨_,rfl⟩|⟨b,off,aH,rfl,ag,aD,aU,aj⟩
   · simp at ab
   have fw:Ext B h (y.room 34):=lZ.trans (Nat.le_refl _) (Ext.room B y 34)
   obtain⟨w,ai,bh⟩:=zs ag aD fw ab
   obtain⟨oU,aag⟩:=Cx ai
   rw[List.drop_eq_getElem_cons ab,j1] at aS
   have qS:=hf l[i] (List.getElem_mem ab)
   have aah:∃ak,Y m (.fn 78) [w] (y.room 34)=.ret (.int .i64 (Int.ofNat (l0 l[i].2))) ak/\Ext B (y.room 34) ak:=by
    obtain⟨ak,c2,bM⟩:=VU (m-1) (ot:=l[i].2) (B:=B) (h:=y.room 34) (v:=w) (by have:=qS.1;omega) qS.2 (by have:=qS.1;omega) (Nat.le_trans b4 fw.n) bh
    rw[show m-1+1=m by omega] at c2
    exact⟨ak,c2,bM⟩
   obtain⟨ak,c2,bM⟩:=aah
   have zu:Ext B h ak:=fw.trans (Nat.le_refl _) bM
   have qQ:=aae (m-1) l[i].1 (y.room 34)
   rw[show m-1+1=m by omega] at qQ
   have last:en (nM l i) l[i].1=true->l[i].1.length<=24->∃(w':J),av (y.room 34) b (off+i*2+1)=some w'/\∃(aZ:Nat) (cd:aa),Y m (.fn 78) [w'] (y.room 34)=.ret (.int .i64 (Int.ofNat aZ)) cd/\J.sound w'=true/\(aZ=0->i+1<9223372036854775808/\eF (λs=>∃j,j<k/\(λk st=>∃i y Γ,st=⟨Γ,[],.none,y⟩/\cN [(0,.slice b off l.length aH),(3,.int .i64 (Int.ofNat i))] Γ/\l.length-i=k/\i<=l.length/\Ext B h y/\j1 [] l=j1 (nM l i) (l.drop i)) j s) (λdv dw=>(∃(g:aa) (cx:Env),dv=.exit 0/\dw=⟨cx,[],.none,g⟩/\cN [] cx/\cc B h (.bool (j1 [] l)) (.ret (.bool true) g))\/(∃(g:aa) (cx:Env),dv=.ret/\dw=⟨cx,[],.none,g⟩/\cN [(2,.bool false)] cx/\cc B h (.bool (j1 [] l)) (.ret (.bool false) g))) .nrm ⟨[(0,.slice b off l.length aH),(3,.int .i64 (Int.ofNat (i+1)))],[],.none,cd⟩)/\(¬aZ=0->(∃(g:aa) (cx:Env),bA.ret=.exit 0/\(⟨[(0,.slice b off l.length aH),(2,.bool false),(3,.int .i64 (Int.ofNat i))],[],.none,cd⟩:af)=⟨cx,[],.none,g⟩/\cN [] cx/\cc B h (.bool (j1 [] l)) (.ret (.bool true) g))\/(∃(g:aa) (cx:Env),bA.ret=.ret/\(⟨[(0,.slice b off l.length aH),(2,.bool false),(3,.int .i64 (Int.ofNat i))],[],.none,cd⟩:af)=⟨cx,[],.none,g⟩/\cN [(2,.bool false)] cx/\cc B h (.bool (j1 [] l)) (.ret (.bool false) g))):=λcB oQ=>by
    refine⟨w,aag,_,ak,c2,bh.snd,λaz=>⟨by omega,?_⟩,λaz=>?_⟩
    · refine⟨_,(by show l.length-(i+1)<k;omega),i+1,ak,_,rfl,⟨rfl,rfl,trivial⟩,rfl,by omega,zu,?_⟩
      rw[aS,cB,az,zt ab];simp[oQ]
    · exact .inr ⟨ak,_,rfl,rfl,⟨rfl,trivial⟩,cc.of (eZ (by rw[aS];simp[az])) zu⟩
   refine bz.pre (Z9 (Y m) b off _ i aH y ⟨ab,ab,_,oU,_,_,qQ,λw0=>⟨λaz=>?_,λaz=>?_⟩,λw0=>?_⟩) cS rfl rfl rfl
   rotate_left 2
   · refine .inr ⟨y.room 34,_,rfl,rfl,⟨rfl,trivial⟩,cc.of (eZ ?_) fw⟩
     rw[aS]
     have:¬(1<=l[i].1.length/\l[i].1.length<=24):=by
      intro ad
      simp[ad.1,ad.2] at w0
     by_cases oQ:l[i].1.length<=24
     · have e:l[i].1=[]:=List.eq_nil_of_length_eq_zero (by omega)
       have:en (nM l i) l[i].1=false:=by
        rw[e];cases nM l i<;>rfl
       rw[this];rfl
     · simp[oQ]
   · have jo:1<=l[i].1.length/\l[i].1.length<=24:=by
       simp only[Bool.not_eq_false',Bool.and_eq_true,decide_eq_true_eq] at w0
       exact w0
     obtain⟨j,rfl⟩:∃j,i=j+1:=⟨i-1,by omega⟩
     have ae:j<l.length:=by omega
     obtain⟨b3,p8,_⟩:=zs ag aD fw ae
     obtain⟨vr,_⟩:=Cx p8
     refine⟨ab,_,oU,⟨by omega,by omega⟩,by omega,l[j].1,vr,λfe=>?_,λfe=>?_⟩
     · have:en l[j].1 l[j+1].1=false:=by simpa using fe
       refine .inr ⟨y.room 34,_,rfl,rfl,⟨rfl,trivial⟩,cc.of (eZ ?_) fw⟩
       rw[aS,zt ae,this];rfl
     · have:en l[j].1 l[j+1].1=true:=by simpa using fe
       exact⟨ab,last (by rw[zt ae];exact this) jo.2⟩
   · have jo:1<=l[i].1.length/\l[i].1.length<=24:=by
       simp only[Bool.not_eq_false',Bool.and_eq_true,decide_eq_true_eq] at w0
       exact w0
     obtain rfl:i=0:=by omega
     exact⟨ab,last (by show en [] _=true;rw[aaf];simpa using jo.1) jo.2⟩
 · refine bz.pre (Z_ (Y m) i v y ⟨_,al.len y,ab,.inl ⟨y,_,rfl,rfl,trivial,cc.of (eZ ?_) lZ⟩⟩) cS rfl rfl rfl
   rw[aS,List.drop_of_length_le (by omega)];rfl
def g4(e:eD):bc:=hN e.1++Nb e.2
end Go.Proofs.ew
namespace Go.Proofs.ew
open Go aC Go.Proofs dD Go.Proofs.cT
open Go.Proofs.df (hN)
open Go.Proofs.eN (e5)
set_option maxRecDepth 100000
set_option maxHeartbeats 1000000
structure jh where
 path:bc
 hp:Bool
 pr:List eD
 sS:List eD
def ik(x:jh):Bool:=j1 [] x.pr&&(j1 [] x.sS&&(!x.hp||decide (x.pr.length+x.sS.length=0)))
structure ox(B:Nat)(h:aa)(vv vt:J)(x:jh):Prop where
 v:lG B h vv x.pr
 t:lG B h vt x.sS
theorem ox.b0{B:Nat}{h g:aa}{vv vt:J}{x:jh}(e:Ext B h g)(s:ox B h vv vt x):ox B g vv vt x:=⟨s.v.b0 e,s.t.b0 e⟩
theorem ox.le{B C:Nat}{h:aa}{vv vt:J}{x:jh}(e:B<=C)(s:ox B h vv vt x):ox C h vv vt x:=⟨s.v.le e,s.t.le e⟩
structure oy(x:jh):Prop where
 p:x.path.length<=90000
 jR:x.pr.length<=90000
 lt:x.sS.length<=90000
 mK:∀e∈x.pr,fit e.2
 Cz:∀e∈x.sS,fit e.2
abbrev eO(p:bc)(b:Bool)(vv vt:J):cJ:=.cells [.str p,.bool b,vv,vt] 24 .own 0 0
theorem Ng(m:Nat){B:Nat}{h:aa}{vv vt:J}{x:jh}(hm:460<=m)(b4:B<=h.n)(hs:ox B h vv vt x)(hf:oy x):cc B h (.bool (ik x)) (Y (m+1) (.fn 29) [.agg [.str x.path,.bool x.hp,vv,vt]] h):=by
 obtain⟨H,fB⟩:∃H,H=h.push (eO x.path x.hp vv vt):=⟨_,rfl⟩
 have g7:Ext B h H:=by rw[fB];exact Ext.push b4 _
 have qs:H.get h.n=some (eO x.path x.hp vv vt):=by rw[fB];exact eB rfl
 have k8:h.n<H.n:=by rw[fB];simp
 have lF:=Nat.le_trans b4 g7.n
 have acN:Ext h.n h H:=by rw[fB];exact Ext.push (Nat.le_refl _) _
 obtain⟨aq,c1,bw⟩:=Nd (m-1) (B:=H.n) (h:=H) (Nat.le_refl _) (by omega) ((hs.b0 g7).le lF).v hf.jR hf.mK
 rw[show m-1+1=m by omega] at c1
 obtain⟨ak,c2,bM⟩:=Nd (m-1) (B:=H.n) (h:=aq) bw.n (by omega) ((((hs.b0 g7).le lF).b0 bw)).t hf.lt hf.Cz
 rw[show m-1+1=m by omega] at c2
 have zv:=(bw.get h.n k8).trans qs
 have u0:=(bM.get h.n k8).trans zv
 have aF:Ext B h aq:=g7.trans (Nat.le_refl _) (bw.le lF)
 have aG:Ext B h ak:=aF.trans (Nat.le_refl _) (bM.le lF)
 refine Z6 m x.path x.hp vv vt h ⟨hs.v.cell,hs.t.cell,?_⟩
 rw[<-fB]
 refine⟨_,ar qs rfl,_,aq,c1,λab=>⟨_,ar zv rfl,_,ak,c2,λae=>⟨_,ar u0 rfl,λaB=>?_,λaB=>?_⟩,λae=>?_⟩,λab=>?_⟩
 rotate_left
 · have:x.hp=false:=by simpa using aB
   exact cc.of (eZ (by unfold ik;rw[ab,ae,this];rfl)) aG
 · exact cc.of (eZ (by unfold ik;rw[ab,ae];rfl)) aG
 · exact cc.of (eZ (by unfold ik;rw[ab];rfl)) aF
 · have ag:x.hp=true:=by simpa using aB
   have bK:=hf.jR
   have bQ:=hf.lt
   exact⟨_,ar u0 rfl,_,hs.v.len ak,_,ar u0 rfl,_,hs.t.len ak,by omega,cc.of (eZ (by unfold ik;rw[ab,ae,ag,rb];simp)) aG⟩
theorem Nh(m:Nat){B:Nat}{h:aa}{vv vt:J}{x:jh}(hm:460<=m)(b4:B<=h.n)(hs:ox B h vv vt x)(hf:oy x):cc B h (.bool (ik x)) (Y (m+1) (.fn 34) [.agg [.str x.path,.bool x.hp,vv,vt]] h):=by
 obtain⟨H,fB⟩:∃H,H=h.push (eO x.path x.hp vv vt):=⟨_,rfl⟩
 have g7:Ext B h H:=by rw[fB];exact Ext.push b4 _
 have qs:H.get h.n=some (eO x.path x.hp vv vt):=by rw[fB];exact eB rfl
 have k8:h.n<H.n:=by rw[fB];simp
 have lF:=Nat.le_trans b4 g7.n
 obtain⟨aq,c1,bw⟩:=Nf (m-1) (B:=H.n) (h:=H) (Nat.le_refl _) (by omega) ((hs.b0 g7).le lF).v hf.jR hf.mK
 rw[show m-1+1=m by omega] at c1
 obtain⟨ak,c2,bM⟩:=Nf (m-1) (B:=H.n) (h:=aq) bw.n (by omega) ((((hs.b0 g7).le lF).b0 bw)).t hf.lt hf.Cz
 rw[show m-1+1=m by omega] at c2
 have zv:=(bw.get h.n k8).trans qs
 have u0:=(bM.get h.n k8).trans zv
 have aF:Ext B h aq:=g7.trans (Nat.le_refl _) (bw.le lF)
 have aG:Ext B h ak:=aF.trans (Nat.le_refl _) (bM.le lF)
 refine aaa m x.path x.hp vv vt h ⟨hs.v.cell,hs.t.cell,?_⟩
 rw[<-fB]
 refine⟨_,ar qs rfl,_,aq,c1,λab=>⟨_,ar zv rfl,_,ak,c2,λae=>⟨_,ar u0 rfl,λaB=>?_,λaB=>?_⟩,λae=>?_⟩,λab=>?_⟩
 rotate_left
 · have:x.hp=false:=by simpa using aB
   exact cc.of (eZ (by unfold ik;rw[ab,ae,this];rfl)) aG
 · exact cc.of (eZ (by unfold ik;rw[ab,ae];rfl)) aG
 · exact cc.of (eZ (by unfold ik;rw[ab];rfl)) aF
 · have ag:x.hp=true:=by simpa using aB
   refine⟨_,ar u0 rfl,_,hs.v.len ak,λaP=>⟨_,ar u0 rfl,_,hs.t.len ak,cc.of (eZ ?_) aG⟩,λaP=>cc.of (eZ ?_) aG⟩
   · unfold ik;rw[ab,ae,ag,rb];simp[aP]
   · unfold ik;rw[ab,ae,ag];simp[aP]
end Go.Proofs.ew
