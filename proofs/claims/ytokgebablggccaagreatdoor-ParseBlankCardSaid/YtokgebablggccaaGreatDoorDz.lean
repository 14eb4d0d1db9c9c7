/- contracts of functions; no condition -/
import Derived.Test.YtokgebablggccaaGreatDoorDe
import Derived.Test.YtokgebablggccaaGreatDoorDa
import Derived.Test.YtokgebablggccaaGreatDoorSxb
import Derived.Deep.Strs
import Derived.DataReads
import Derived.OpenShut
import Derived.ChangeSlices
import Derived.Test.YtokgebablggccaaGreatDoorDn
import Derived.Test.YtokgebablggccaaGreatDoorDf
set_option linter.unusedVariables false
set_option linter.unusedSimpArgs false
set_option maxRecDepth 100000
set_option maxHeartbeats 1000000
namespace Go.Proofs.iI
open Go aJ Go.Proofs lp Go.ChangeShapes Go.WideShapes Go.ChangeAt Go.RowKit Go.ChangeMaps
variable {Q:cl->bD->Prop} {R:a8->Prop} (call:e0)
def uh(B:Nat)(h:I)(z:aa)(b1:List UInt8):Prop:=
 (z=.ao/\b1=[])\/(∃b f cp,z=.slice b f 0 cp/\b1=[])\/∃b cp el lo up k,z=.slice b 0 b1.length cp/\0<b1.length/\h.get b=some (.cells (cC b1) el k lo up)/\b<B
theorem uh.ext{B kO:Nat}{h ay:I}{z:aa}{b1:List UInt8}(ag:uh B h z b1)(e:Ext B h ay)(eU:B<=kO):uh kO ay z b1:=by
 rcases ag with J|J|⟨b,cp,el,lo,up,k,J,ae,aq,aQ⟩
 · exact .inl J
 · exact .inr (.inl J)
 · exact .inr (.inr ⟨b,cp,el,lo,up,k,J,ae,(e.get b aQ).trans aq,by omega⟩)
theorem Nz:∀(l:List UInt8) (j:Nat) (aL:j<l.length),nth j (cC l)=some (ax l[j].toNat)
 |b::l,0,_=>rfl
 |b::l,j+1,aL=>Nz l j (by simpa using aL)
theorem aj1{W:World}{a:Addr}{m j:Nat}{v:Value}(h:W.cell? ((a.add m).add j)=some v):∃c el fz,W.heap[a.block]? =some (.cells c el fz)/\c[a.off+m+j]? =some v/\(m=0->j=0->a.spot=none):=by
 have ag:((a.add m).add j).block=a.block:=by
  unfold Addr.add
  split<;>split<;>rfl
 have bg:((a.add m).add j).off=a.off+m+j:=by
  unfold Addr.add
  split<;>split<;>simp_all
 unfold World.cell? at h
 rw[ag,bg] at h
 split at h
 · rename_i c el fz ab
   split at h
   · cases h
   · rename_i ah
     refine⟨c,el,fz,ab,h,λJ ae=>?_⟩
     subst J;subst ae
     simpa[Addr.add] using ah
 · cases h
theorem B1{W:World}{a:Addr}{j:Nat}{v:Value}(h:W.cell? (a.add j)=some v):∃c el fz,W.heap[a.block]? =some (.cells c el fz)/\c[a.off+j]? =some v/\(j=0->a.spot=none):=by
 have c_:(a.add 0).add j=a.add j:=by simp[Addr.add]
 obtain⟨c,el,fz,aV,aU,bu⟩:=aj1 (W:=W) (a:=a) (m:=0) (j:=j) (by rw[c_];exact h)
 exact⟨c,el,fz,aV,by simpa using aU,bu rfl⟩
theorem aj2{P:Program}{W:World}{base:Nat}{t e:TypeId}(aI:P.underlying t=some (.slice e)){a:Addr}{len cap:Nat}(h:Cell.okWide P W .any base t (.slice (some a) len cap)):∃c el fz,W.heap[a.block]? =some (.cells c el fz):=by
 simp only[Cell.okWide,aI,Cell.ok] at h
 obtain⟨_,_,_,_,row,cells,ah,_⟩:=h
 unfold World.shape? at ah
 cases ag:W.heap[a.block]? with
 |none=>simp[ag] at ah
 |some o=>
  rw[ag] at ah
  cases o with
  |cells c el fz=>exact⟨c,el,fz,rfl⟩
  |_=>cases ah
def Il(rows:List (gx×List aa×Nat))(μ:bG)(h:I)(B:Nat):Prop:=∀(k:Nat) (x:gx×List aa×Nat),rows[k]? =some x->μ (B+k)=some x.1/\h.get (B+k)=some (.cells x.2.1 x.2.2 .ro 0 0)/\B+k<h.n
theorem aj3{G:Nat}{els sz:Nat->Nat}{bl:List g2}(jv:∀t∈bl,t.g<G)(rows:List (gx×List aa×Nat)):Il rows (l9 G sz (rows.map (·.1))) (kr G els bl (rows.map (·.2))) G:=by
 intro k x ai
 obtain⟨J,ae⟩:=yU G els bl (rows.map (·.2)) jv
 have Q5:=(List.getElem?_eq_some_iff.1 ai).1
 refine⟨?_,?_,by rw[J,List.length_map];omega⟩
 · unfold l9
   rw[if_neg (by omega),show G+k-G=k by omega,List.getElem?_map,ai];rfl
 · rw[ae,if_neg (by omega),show G+k-G=k by omega,List.getElem?_map,ai];rfl
theorem VT{H:Type}{enc:TypeId×Value->H}{W:World}{sp:Nat->Bool}{held:Bool}{fuel base:Nat}{EO:Option Addr}{len cap:Nat}{x:DataW H×List MemPlace}(h:DataW.trod enc an W 0 sp held fuel 44 [.slice EO len cap]=some x)
  (fB:Cell.okWide an W .any base 44 (.slice EO len cap)):
  ∃b1 rows,(∀x∈rows,JT W x.1 x.2.1 x.2.2)/\∀(μ:bG) (h:I) (B:Nat),Il rows μ h B->∃z,uh h.n h z b1/\bq μ z (.slice EO len cap):=by
 have hu:an.underlying 5=some (.int .u8):=by kernel_rfl
 rcases open_ints A5 hu (by kernel_rfl) h with⟨e,_⟩|⟨a,amG,PG,o0,e,_,hle,_,q3,_,ak,x6⟩
 · cases e
   exact⟨[],[],by simp,λμ h B _=>⟨.ao,.inl ⟨rfl,rfl⟩,rfl⟩⟩
 · cases e
   obtain⟨c,el,fz,ag⟩:=aj2 A5 fB
   by_cases h0:len=0
   · subst h0
     refine⟨[],[(⟨a.block,0,c.size⟩,[],el)],λx ab=>?_,λμ h B aj=>?_⟩
     · have:x=(⟨a.block,0,c.size⟩,[],el):=by simpa using ab
       subst this
       exact⟨c,fz,ag,λμ j v aL=>by simp at aL,Nat.zero_add _⟩
     · obtain⟨J,ae,aq⟩:=aj 0 _ rfl
       exact⟨.slice B 0 0 .dead,.inr (.inl ⟨B,0,.dead,rfl,rfl⟩),⟨_,J,rfl,a,cap,rfl⟩⟩
   · have aA:len<=o0.length:=by rw[q3];split<;>omega
     have uw:∀i,i<o0.length->c[a.off+i]? =some (.int .u8 (o0.getD i 0))/\(i=0->a.spot=none):=by
      intro i hi
      obtain⟨c',r_,amH,aV,aU,bu⟩:=B1 (ak i hi)
      rw[ag] at aV
      cases aV
      exact⟨aU,bu⟩
     obtain⟨l1,ah⟩:=uw 0 (by omega)
     have VU:=ah rfl
     have Ft:a.off<=c.size:=by have:=(Array.getElem?_eq_some_iff.1 l1).1;omega
     obtain⟨b1,CP⟩:∃b1,b1=(o0.take len).map λz=>UInt8.ofNat z.toNat:=⟨_,rfl⟩
     have yS:b1.length=len:=by rw[CP];simp;omega
     refine⟨b1,[(⟨a.block,a.off,c.size-a.off⟩,cC b1,el)],λx ab=>?_,λμ h B aj=>?_⟩
     · obtain rfl:x=_:=by simpa using ab
       refine⟨c,fz,ag,λμ j v aL=>?_,by simp;omega⟩
       have xR:j<len:=by
        have:=(List.getElem?_eq_some_iff.1 aL).1
        simp only[ox,yS] at this;exact this
       have NA:j<o0.length:=by omega
       refine⟨_,(uw j NA).1,?_⟩
       have aT:=Nz b1 j (by rw[yS];exact xR)
       rw[j0] at aT
       simp only at aL
       rw[aT] at aL
       cases aL
       have hw:=x6 o0[j] (List.getElem_mem NA)
       have bm:0<=o0[j]/\o0[j]<256:=by
        have p0:IntKind.u8.min<=o0[j]/\o0[j]<=IntKind.u8.max:=by simpa[Lit.wf] using hw
        have cR:IntKind.u8.min=0:=by decide
        have gg:IntKind.u8.max=255:=by decide
        rw[cR,gg] at p0
        omega
       have aG:o0.getD j 0=o0[j]:=by simp[List.getD,List.getElem?_eq_getElem NA]
       rw[aG]
       have aE:(b1[j]'(by rw[yS];exact xR)).toNat=o0[j].toNat:=by
        subst CP
        rw[List.getElem_map,List.getElem_take,UInt8.toNat_ofNat'];omega
       rw[aE]
       have br:Int.ofNat o0[j].toNat=o0[j]:=by
        have:=Int.toNat_of_nonneg bm.1;simpa using this
       show bq μ (.int .u8 (.ofNat o0[j].toNat)) _;rw[br];rfl
     · obtain⟨J,ae,aq⟩:=aj 0 _ rfl
       refine⟨.slice B 0 len (.exact cap),.inr (.inr ⟨B,.exact cap,el,0,0,.ro,by rw[yS],by rw[yS];omega,ae,aq⟩),⟨_,J,?_⟩⟩
       obtain⟨bo,off,spot⟩:=a
       simp only at VU
       subst VU
       rfl
end Go.Proofs.iI
namespace Go.Proofs.lv
open Go aJ Go.Proofs lp iI fO
variable {b1 ke:bJ}{h:I}{u w:aa}
variable {Q:cl->bD->Prop} {R:a8->Prop} (call:e0)
theorem aj4(u w:aa)(h:I)(H:Q .nrm (az [(0,u),(1,w)] h)):
  cg an Tryz.f5 call [0] (az [(0,u),(1,w)] h) Q:=
 dR [] [0,1] [0,1] H
theorem aj5(u w:aa)(h:I)(H:∃al,call (.fn 13) [] h=.ret (.bool true) al/\Q .nrm (az [(0,u),(1,w)] al)):
  cg an Tryz.f5 call [1,0] (az [(0,u),(1,w)] h) Q:=
 dR [(17,.ep (.is (.bool true)))] [0,1] [0,1] H
theorem aj6(u w:aa)(h:I)(H:∃al,aJ.storeCells (I.push h (aD [.str [],.str [],.str [],.str [],.str [],.str [],.str [],.str [],.str [],.str [],.str [],.str [],.str [],.str [],.str [],.str [],.str [],.str [],.str [],.str [],.str [],.str [],.str [],.str [],.str [],.str [],.str [],.str []] 45)) h.n 0 [.str [120],.str [102],.str [40],.str [41],.str [123],.str [125],.str [97],.str [61],.str [49],.str [43],.str [42],.str [46],.str [110,111,116],.str [105,102],.str [116,104,101,110],.str [101,108,115,101],.str [108,101,116],.str [105,110],.str [44],.str [102,110],.str [61,62],.str [105,110,116],.str [58],.str [45,62],.str [124],.str [34,115,34],.str [116,121,112,101],.str [84]]=some al/\Q .nrm (az [(0,u),(1,w),(5,af h.n)] al)):
  cg an Tryz.f5 call [1,1,0] (az [(0,u),(1,w)] h) Q:=
 dR [] [0,1,5] [0,1] H
theorem aj7(u w:aa)(p:Nat)(h:I)(H:∃al,aJ.storeCells (I.push h (aD [.str [],.str [],.str [],.str []] 46)) h.n 0 [.str [32],.str [10],.str [9,32],.str [32,35,32,41,32,123,10]]=some al/\Q .nrm (az [(0,u),(1,w),(5,af p),(6,af h.n)] al)):
  cg an Tryz.f5 call [1,1,1,0] (az [(0,u),(1,w),(5,af p)] h) Q:=
 dR [] [0,1,5,6] [0,1] H
theorem aj8(u w:aa)(p q:Nat)(h:I)(H:Q .nrm (az [(0,u),(1,w),(5,af p),(6,af q),(7,.str [108,101,116,32,121,32,61,32]),(8,.str [108,101,116,32,121,32,61,32])] h)):
  cg an Tryz.f5 call [1,1,1,1,0] (az [(0,u),(1,w),(5,af p),(6,af q)] h) Q:=
 dR [] [0,1,5,6,7,8] [0,1] H
theorem aj9(u w:aa)(p q:Nat)(s t:List UInt8)(h:I)(H:Q .nrm (az [(0,u),(1,w),(5,af p),(6,af q),(7,.str s),(8,.str t),(9,ad 0)] h)):
  cg an Tryz.f5 call [1,1,1,1,1,0,0] (az [(0,u),(1,w),(5,af p),(6,af q),(7,.str s),(8,.str t)] h) Q:=
 dR [] [0,1,5,6,7,8,9] [0,1] H
theorem aj_(a fa b fb M N p q i:Nat)(ca cb:dn)(s t:List UInt8)(h:I)(H:(i<M->(i<200->i<M/\∃bn,aC h a (fa+i*1)=some (ax bn)/\∃b6,df an 5 3 (ax bn) h=dW.val (ad b6) h/\∃dc,arith .rem .i64 (.ofNat b6) (.ofNat 28)=some (ad dc)/\dc<28/\∃s1,aC h p (0+dc*1)=some (.str s1)/\(i<N->i<N/\∃ct,aC h b (fb+i*1)=some (ax ct)/\∃cP,arith .rem .u8 (.ofNat ct) (.ofNat 4)=some (ax cP)/\cP<4/\∃s2,aC h q (0+cP*1)=some (.str s2)/\List.length s+List.length s1<=1000000000000/\List.length (s++s1)+1<=1000000000000/\List.length t+List.length s1<=1000000000000/\List.length (t++s1)+List.length s2<=1000000000000/\i+1<9223372036854775808/\Q .nrm (az [(0,.slice a fa M ca),(1,.slice b fb N cb),(5,af p),(6,af q),(7,.str (s++s1++[32])),(8,.str (t++s1++s2)),(9,ad (i+1))] h))/\(¬i<N->List.length s+List.length s1<=1000000000000/\List.length (s++s1)+1<=1000000000000/\List.length t+List.length s1<=1000000000000/\List.length (t++s1)+1<=1000000000000/\i+1<9223372036854775808/\Q .nrm (az [(0,.slice a fa M ca),(1,.slice b fb N cb),(5,af p),(6,af q),(7,.str (s++s1++[32])),(8,.str (t++s1++[32])),(9,ad (i+1))] h)))/\(¬i<200->Q (.exit 0) (az [(0,.slice a fa M ca),(1,.slice b fb N cb),(5,af p),(6,af q),(7,.str s),(8,.str t),(9,ad i)] h)))/\(¬i<M->Q (.exit 0) (az [(0,.slice a fa M ca),(1,.slice b fb N cb),(5,af p),(6,af q),(7,.str s),(8,.str t),(9,ad i)] h))):
  cg an Tryz.f5 call [1,1,1,1,1,0,1,0,0] (az [(0,.slice a fa M ca),(1,.slice b fb N cb),(5,af p),(6,af q),(7,.str s),(8,.str t),(9,ad i)] h) Q:=
 dR [] [0,1,5,6,7,8,9] [] H
theorem aka(a fa M p q i:Nat)(ca:dn)(s t:List UInt8)(h:I)(H:(i<M->(i<200->i<M/\∃bn,aC h a (fa+i*1)=some (ax bn)/\∃b6,df an 5 3 (ax bn) h=dW.val (ad b6) h/\∃dc,arith .rem .i64 (.ofNat b6) (.ofNat 28)=some (ad dc)/\dc<28/\∃s1,aC h p (0+dc*1)=some (.str s1)/\¬i<0/\List.length s+List.length s1<=1000000000000/\List.length (s++s1)+1<=1000000000000/\List.length t+List.length s1<=1000000000000/\List.length (t++s1)+1<=1000000000000/\i+1<9223372036854775808/\Q .nrm (az [(0,.slice a fa M ca),(1,.ao),(5,af p),(6,af q),(7,.str (s++s1++[32])),(8,.str (t++s1++[32])),(9,ad (i+1))] h))/\(¬i<200->Q (.exit 0) (az [(0,.slice a fa M ca),(1,.ao),(5,af p),(6,af q),(7,.str s),(8,.str t),(9,ad i)] h)))/\(¬i<M->Q (.exit 0) (az [(0,.slice a fa M ca),(1,.ao),(5,af p),(6,af q),(7,.str s),(8,.str t),(9,ad i)] h))):
  cg an Tryz.f5 call [1,1,1,1,1,0,1,0,0] (az [(0,.slice a fa M ca),(1,.ao),(5,af p),(6,af q),(7,.str s),(8,.str t),(9,ad i)] h) Q:=
 dR [(1042,.f)] [0,1,5,6,7,8,9] [] H
theorem akb(w:aa)(p q i:Nat)(s t:List UInt8)(h:I)(H:¬i<0/\Q (.exit 0) (az [(0,.ao),(1,w),(5,af p),(6,af q),(7,.str s),(8,.str t),(9,ad i)] h)):
  cg an Tryz.f5 call [1,1,1,1,1,0,1,0,0] (az [(0,.ao),(1,w),(5,af p),(6,af q),(7,.str s),(8,.str t),(9,ad i)] h) Q:=
 dR [(1026,.f)] [0,1,5,6,7,8,9] [1] H
theorem akc(a N:Nat)(s t:List UInt8)(h:I)(H:∃al,call (.fn 9) [.str s] h=.ret (.aF [.slice a 0 N (.aX 1),.c3]) al/\Q .nrm (az [(8,.str t),(12,.slice a 0 N (.aX 1)),(13,.c3)] al)):
  cg an Tryz.f5 call [1,1,1,1,1,1,0] (az [(7,.str s),(8,.str t)] h) Q:=
 dR [(61,.ep (.lP [.is (.slice a 0 N (.aX 1)),.is .c3]))] [8,12,13] [] H
theorem akd(e:Nat)(s t:List UInt8)(h:I)(H:∃al,call (.fn 9) [.str s] h=.ret (.aF [.ao,.iface 68 (af e)]) al/\Q .nrm (az [(8,.str t),(12,.ao),(13,.iface 68 (af e))] al)):
  cg an Tryz.f5 call [1,1,1,1,1,1,0] (az [(7,.str s),(8,.str t)] h) Q:=
 dR [(61,.ep (.lP [.is .ao,.is (.iface 68 (af e))]))] [8,12,13] [] H
theorem ake(a N b M:Nat)(t:List UInt8)(h:I)(H:∃al,call (.fn 9) [.str t] h=.ret (.aF [.slice b 0 M (.aX 1),.c3]) al/\Q .nrm (az [(12,.slice a 0 N (.aX 1)),(13,.c3),(14,.slice b 0 M (.aX 1)),(15,.c3)] al)):
  cg an Tryz.f5 call [1,1,1,1,1,1,1,0] (az [(8,.str t),(12,.slice a 0 N (.aX 1)),(13,.c3)] h) Q:=
 dR [(66,.ep (.lP [.is (.slice b 0 M (.aX 1)),.is .c3]))] [12,13,14,15] [] H
theorem akf(e f:Nat)(t:List UInt8)(h:I)(H:∃al,call (.fn 9) [.str t] h=.ret (.aF [.ao,.iface 68 (af f)]) al/\Q .nrm (az [(12,.ao),(13,.iface 68 (af e)),(14,.ao),(15,.iface 68 (af f))] al)):
  cg an Tryz.f5 call [1,1,1,1,1,1,1,0] (az [(8,.str t),(12,.ao),(13,.iface 68 (af e))] h) Q:=
 dR [(66,.ep (.lP [.is .ao,.is (.iface 68 (af f))]))] [12,13,14,15] [] H
theorem akg(a N b M:Nat)(h:I)(H:Q .nrm (az [(12,.slice a 0 N (.aX 1)),(14,.slice b 0 M (.aX 1))] h)):
  cg an Tryz.f5 call [1,1,1,1,1,1,1,1,0] (az [(12,.slice a 0 N (.aX 1)),(13,.c3),(14,.slice b 0 M (.aX 1)),(15,.c3)] h) Q:=
 dR [] [12,14] [] H
theorem akh(e f:Nat)(h:I)(H:Q .ret (az [(4,.bool true)] h)):
  cg an Tryz.f5 call [1,1,1,1,1,1,1,1,0] (az [(12,.ao),(13,.iface 68 (af e)),(14,.ao),(15,.iface 68 (af f))] h) Q:=
 dR [] [4] [] H
theorem aki(a N b:Nat)(h:I)(H:(N=N->Q .nrm (az [(12,.slice a 0 N (.aX 1)),(14,.slice b 0 N (.aX 1))] h))/\(¬N=N->Q .ret (az [(12,.slice a 0 N (.aX 1)),(14,.slice b 0 N (.aX 1))] h))):
  cg an Tryz.f5 call [1,1,1,1,1,1,1,1,1,0] (az [(12,.slice a 0 N (.aX 1)),(14,.slice b 0 N (.aX 1))] h) Q:=
 dR [] [12,14] [] H
theorem akj(a N b:Nat)(h:I)(H:Q .nrm (az [(12,.slice a 0 N (.aX 1)),(14,.slice b 0 N (.aX 1)),(16,ad 0)] h)):
  cg an Tryz.f5 call [1,1,1,1,1,1,1,1,1,1,0,0] (az [(12,.slice a 0 N (.aX 1)),(14,.slice b 0 N (.aX 1))] h) Q:=
 dR [] [12,14,16] [] H
theorem VV(a N b i:Nat)(h:I)(H:(i<N->i<N/\∃bn,aC (h.room 70) a (0+i*1)=some (af bn)/\∃b6,aC (h.room 70) bn 0=some (ad b6)/\i<N/\∃dc,aC (h.room 70) b (0+i*1)=some (af dc)/\∃ct,aC (h.room 70) dc 0=some (ad ct)/\(b6=ct->i<N/\∃cP,aC (h.room 70) a (0+i*1)=some (af cP)/\∃s1,aC (h.room 70) cP 2=some (.str s1)/\i<N/\∃fu,aC (h.room 70) b (0+i*1)=some (af fu)/\∃s2,aC (h.room 70) fu 2=some (.str s2)/\((!gb s1 s2)=true->Q .ret (az [(12,.slice a 0 N (.aX 1)),(14,.slice b 0 N (.aX 1)),(16,ad i)] (h.room 70)))/\((!gb s1 s2)=false->i<N/\∃gR,aC (h.room 70) a (0+i*1)=some (af gR)/\∃v1,aC (h.room 70) gR 5=some v1/\∃c4 al,call (.fn 15) [v1] (h.room 70)=.ret (.str c4) al/\i<N/\∃fZ,aC al b (0+i*1)=some (af fZ)/\∃v2,aC al fZ 5=some v2/\∃c0 aw,call (.fn 15) [v2] al=.ret (.str c0) aw/\((!gb c4 c0)=true->kR v1/\aC (h.room 70) b (0+i*1)=some (af fZ)/\kR v2/\aC (h.room 70) fZ 5=some v2/\Q .ret (az [(12,.slice a 0 N (.aX 1)),(14,.slice b 0 N (.aX 1)),(16,ad i)] aw))/\((!gb c4 c0)=false->i<N/\∃jX,aC aw a (0+i*1)=some (af jX)/\aC aw jX 4=some .au/\i<N/\∃la,aC aw b (0+i*1)=some (af la)/\aC aw la 4=some .au/\kR v1/\aC (h.room 70) b (0+i*1)=some (af fZ)/\kR v2/\aC (h.room 70) fZ 5=some v2/\(wM true true=true->i+1<9223372036854775808/\Q .nrm (az [(12,.slice a 0 N (.aX 1)),(14,.slice b 0 N (.aX 1)),(16,ad (i+1))] aw))/\(wM true true=false->Q .ret (az [(12,.slice a 0 N (.aX 1)),(14,.slice b 0 N (.aX 1)),(16,ad i)] aw)))))/\(¬b6=ct->Q .ret (az [(12,.slice a 0 N (.aX 1)),(14,.slice b 0 N (.aX 1)),(16,ad i)] (h.room 70))))/\(¬i<N->Q (.exit 2) (az [(12,.slice a 0 N (.aX 1)),(14,.slice b 0 N (.aX 1)),(16,ad i)] h))):
  cg an Tryz.f5 call [1,1,1,1,1,1,1,1,1,1,0,1,0,0] (az [(12,.slice a 0 N (.aX 1)),(14,.slice b 0 N (.aX 1)),(16,ad i)] h) Q:=
 dR [(131,.ep .o),(139,.ep .o),(150,.ep (.is .au)),(158,.ep (.is .au))] [12,14,16] [] H
theorem akk(a N b i t1 t2:Nat)(h:I)(H:(i<N->i<N/\∃bn,aC (h.room 70) a (0+i*1)=some (af bn)/\∃b6,aC (h.room 70) bn 0=some (ad b6)/\i<N/\∃dc,aC (h.room 70) b (0+i*1)=some (af dc)/\∃ct,aC (h.room 70) dc 0=some (ad ct)/\(b6=ct->i<N/\∃cP,aC (h.room 70) a (0+i*1)=some (af cP)/\∃s1,aC (h.room 70) cP 2=some (.str s1)/\i<N/\∃fu,aC (h.room 70) b (0+i*1)=some (af fu)/\∃s2,aC (h.room 70) fu 2=some (.str s2)/\((!gb s1 s2)=true->Q .ret (az [(12,.slice a 0 N (.aX 1)),(14,.slice b 0 N (.aX 1)),(16,ad i)] (h.room 70)))/\((!gb s1 s2)=false->i<N/\∃gR,aC (h.room 70) a (0+i*1)=some (af gR)/\∃v1,aC (h.room 70) gR 5=some v1/\∃c4 al,call (.fn 15) [v1] (h.room 70)=.ret (.str c4) al/\i<N/\∃fZ,aC al b (0+i*1)=some (af fZ)/\∃v2,aC al fZ 5=some v2/\∃c0 aw,call (.fn 15) [v2] al=.ret (.str c0) aw/\((!gb c4 c0)=true->kR v1/\aC (h.room 70) b (0+i*1)=some (af fZ)/\kR v2/\aC (h.room 70) fZ 5=some v2/\Q .ret (az [(12,.slice a 0 N (.aX 1)),(14,.slice b 0 N (.aX 1)),(16,ad i)] aw))/\((!gb c4 c0)=false->i<N/\∃jX,aC aw a (0+i*1)=some (af jX)/\aC aw jX 4=some (af t1)/\i<N/\∃la,aC aw b (0+i*1)=some (af la)/\aC aw la 4=some (af t2)/\kR v1/\aC (h.room 70) b (0+i*1)=some (af fZ)/\kR v2/\aC (h.room 70) fZ 5=some v2/\(wM false false=true->i+1<9223372036854775808/\Q .nrm (az [(12,.slice a 0 N (.aX 1)),(14,.slice b 0 N (.aX 1)),(16,ad (i+1))] aw))/\(wM false false=false->Q .ret (az [(12,.slice a 0 N (.aX 1)),(14,.slice b 0 N (.aX 1)),(16,ad i)] aw)))))/\(¬b6=ct->Q .ret (az [(12,.slice a 0 N (.aX 1)),(14,.slice b 0 N (.aX 1)),(16,ad i)] (h.room 70))))/\(¬i<N->Q (.exit 2) (az [(12,.slice a 0 N (.aX 1)),(14,.slice b 0 N (.aX 1)),(16,ad i)] h))):
  cg an Tryz.f5 call [1,1,1,1,1,1,1,1,1,1,0,1,0,0] (az [(12,.slice a 0 N (.aX 1)),(14,.slice b 0 N (.aX 1)),(16,ad i)] h) Q:=
 dR [(131,.ep .o),(139,.ep .o),(150,.ep (.is (af t1))),(158,.ep (.is (af t2)))] [12,14,16] [] H
theorem akl(a N b:Nat)(h:I)(H:Q .ret (az [(4,.bool true)] h)):
  cg an Tryz.f5 call [1,1,1,1,1,1,1,1,1,1,1] (az [(12,.slice a 0 N (.aX 1)),(14,.slice b 0 N (.aX 1))] h) Q:=
 dR [] [4] [] H
theorem akm(n:Nat)(aI:gH h dL=true)(he:w1 ku.rt ku.mI ku.qq (h.get ku.g)=true):Z (n+1) (.fn 13) [] h=.ret (.bool true) h:=by
 have e:fc 13 [] h=some (.bool true,h):=by
  have aG:wE [Bj,amO] 13 [] h=some (.bool true,h):=by kernel_rfl
  have aE:y0 dL ku [Bj,amO] 13 [] h=some (.bool true,h):=by
   unfold y0
   rw[aG]
   simp only[aI,he]
   rfl
  simp only[fc,oF,aE]
 show eA an fc (n+1) _ _ _=_
 simp only[eA,e]
def VW(X:a8->Prop)(e:cl)(st:bD):Prop:=∃v av g,e=.ret/\st=az av g/\iw an (e1 Tryz.f5) Tryz.f5 av g=some v/\X (.ret v g)
abbrev BE(u w:aa)(p q i:Nat)(s t:bJ):Env:=[(0,u),(1,w),(5,.ptr p 0),(6,.ptr q 0),(7,.str s),(8,.str t),(9,ad i)]
theorem VX(n:Nat)(aT:n<256)(h:I):df an 5 3 (ax n) h=.val (ad n) h:=AE (ka:=.u8) (by kernel_rfl) (by kernel_rfl) (r6 n (by omega))
theorem VY(b:UInt8):b.toNat<256:=b.toNat_lt
theorem akn{N:Nat}{p q i:Nat}{s t:bJ}{Q:cl->bD->Prop}(EP:uh h.n h u b1)(ER:uh h.n h w ke)(a3:h.get p=some (aD (n4.map .str) 45))(bB:h.get q=some (aD (iU.map .str) 46))(ah:s.length<=100000)(aI:t.length<=100000)
  (H1:∀(hi:i<b1.length),i<200->Q .nrm (az (BE u w p q (i+1) (s++kU b1[i]++[32]) (t++kU b1[i]++iu (ke.drop i))) h))(a4:(¬i<b1.length\/¬i<200)->Q (.exit 0) (az (BE u w p q i s t) h)):
  cg an Tryz.f5 (Z N) [1,1,1,1,1,0,1,0,0] (az (BE u w p q i s t) h) Q:=by
 have word:∀(b:UInt8),aC h p (0+b.toNat %28*1)=some (.str (kU b)):=λb=>aN a3 (by
  have ag:b.toNat %28<n4.length:=Nat.mod_lt _ (by decide)
  rw[j0,show 0+b.toNat %28*1=b.toNat %28 by omega,List.getElem?_map,List.getElem?_eq_getElem ag]
  unfold kU
  rw[List.getD_eq_getElem?_getD,List.getElem?_eq_getElem ag];rfl)
 have ako:∀(b:UInt8),aC h q (0+b.toNat %4*1)=some (.str (zl b)):=λb=>aN bB (by
  have ag:b.toNat %4<iU.length:=Nat.mod_lt _ (by decide)
  rw[j0,show 0+b.toNat %4*1=b.toNat %4 by omega,List.getElem?_map,List.getElem?_eq_getElem ag]
  unfold zl
  rw[List.getD_eq_getElem?_getD,List.getElem?_eq_getElem ag];rfl)
 have wl:∀b,(kU b).length<=4:=λb=>(show∀w∈n4,w.length<=4 by decide) _ (vc b)
 have akp:∀b,(zl b).length<=7:=λb=>(show∀w∈iU,w.length<=7 by decide) _ (T9 b)
 have km:∀{b:Nat} {cp:dn} {el lo up:Nat} {k:ff} {c:bJ} (aB:h.get b=some (.cells (cC c) el k lo up)) {j:Nat} (aL:j<c.length),aC h b (0+j*1)=some (ax c[j].toNat):=λ{b cp el lo up k c} aB {j} aL=>aN aB (by rw[show 0+j*1=j by omega];exact Nz c j aL)
 have al:∀(hi:i<ke.length),iu (ke.drop i)=zl ke[i]:=λhi=>by rw[List.drop_eq_getElem_cons hi];rfl
 have aw:¬i<ke.length->iu (ke.drop i)=[32]:=λhi=>by rw[List.drop_eq_nil_of_le (by omega)];rfl
 have VZ:∀{b fa:Nat} {ca:dn},u=.slice b fa b1.length ca->(∀(j:Nat) (aL:j<b1.length),aC h b (fa+j*1)=some (ax b1[j].toNat))->cg an Tryz.f5 (Z N) [1,1,1,1,1,0,1,0,0] (az (BE u w p q i s t) h) Q:=λ{b fa ca} hu yx=>by
  subst hu
  have V0:∀{b2 fb:Nat} {cb:dn},w=.slice b2 fb ke.length cb->(∀(j:Nat) (aL:j<ke.length),aC h b2 (fb+j*1)=some (ax ke[j].toNat))->cg an Tryz.f5 (Z N) [1,1,1,1,1,0,1,0,0] (az (BE (.slice b fa b1.length ca) w p q i s t) h) Q:=λ{b2 fb cb} hw akq=>by
   subst hw
   refine aj_ _ b fa b2 fb b1.length ke.length p q i ca cb s t h ⟨λhi=>⟨λxx=>?_,λxx=>a4 (.inr xx)⟩,λhi=>a4 (.inl hi)⟩
   have aO:=wl b1[i]
   have aV:=H1 hi xx
   refine⟨hi,_,yx i hi,_,VX _ (VY _) h,b1[i].toNat %28,Gl .i64 (by omega),Nat.mod_lt _ (by omega),_,word b1[i],λsk=>?_,λsk=>?_⟩
   · have aZ:=akp ke[i]
     rw[al sk] at aV
     exact⟨sk,_,akq i sk,ke[i].toNat %4,Gl .u8 (by omega),Nat.mod_lt _ (by omega),_,ako ke[i],by omega,by simp;omega,by omega,by simp;omega,by omega,aV⟩
   · rw[aw sk] at aV
     exact⟨by omega,by simp;omega,by omega,by simp;omega,by omega,aV⟩
  rcases ER with⟨rfl,e⟩|⟨b2,fb,cb,e,aE⟩|⟨b2,cb,el,lo,up,k,e,J,ae,aq⟩
  · refine aka _ b fa b1.length p q i ca s t h ⟨λhi=>⟨λxx=>?_,λxx=>a4 (.inr xx)⟩,λhi=>a4 (.inl hi)⟩
    have aO:=wl b1[i]
    have aV:=H1 hi xx
    rw[aw (by rw[e];simp)] at aV
    exact⟨hi,_,yx i hi,_,VX _ (VY _) h,b1[i].toNat %28,Gl .i64 (by omega),Nat.mod_lt _ (by omega),_,word b1[i],by omega,by omega,by simp;omega,by omega,by simp;omega,by omega,aV⟩
  · exact V0 (b2:=b2) (fb:=fb) (cb:=cb) (by rw[e,aE];rfl) λj aL=>by rw[aE] at aL;simp at aL
  · exact V0 e λj aL=>km (cp:=cb) ae aL
 rcases EP with⟨rfl,e⟩|⟨b,fa,ca,e,aE⟩|⟨b,ca,el,lo,up,k,e,J,ae,aq⟩
 · exact akb _ w p q i s t h ⟨by omega,a4 (.inl (by rw[e];simp))⟩
 · exact VZ (b:=b) (fa:=fa) (ca:=ca) (by rw[e,aE];rfl) λj aL=>by rw[aE] at aL;simp at aL
 · exact VZ e λj aL=>km (cp:=ca) ae aL
theorem NB{α:Type}{V:c6->I->α->aa->Prop}{F:c6}{h:I}:∀{l:List α} {ws:List aa},fx V F h l ws->∀i (hi:i<l.length),∃v,ws[i]? =some v/\V F h l[i] v
 |[],ws,e,i,hi=>by simp at hi
 |t::es,ws,⟨v,us,e,J,ae⟩,i,hi=>by
  subst e
  cases i with
  |zero=>exact⟨v,rfl,J⟩
  |succ i=>
   obtain⟨r,aG,aE⟩:=NB ae i (by simpa using hi)
   exact⟨r,by simpa using aG,by simpa using aE⟩
def Im(r:Except rJ (List gI)):Nat:=match r with
 |.ok l=>(l.map λd=>qX d.e).sum
 |.error _=>0
theorem V1{l:List gI}{d:gI}(h:d∈l):qX d.e<=(l.map λd=>qX d.e).sum:=by
 induction l with
 |nil=>cases h
 |cons x l bM=>
  rw[List.map_cons,List.sum_cons]
  rcases List.mem_cons.1 h with rfl|h
  · omega
  · have:=bM h;omega
theorem vC.row{B:Nat}{g:I}{l:List gI}{v:aa}(o:vC B g l v)(aA:0<l.length):∃a ws,v=.slice a 0 l.length (.aX 1)/\a<g.n/\g.get a=some (.cells ws 52 .aX 0 0)/\fx s3 (H5 B v g) g l ws:=by
 obtain⟨ws,hz,el⟩:=o
 have hw:=el.len
 rcases hz with⟨_,e⟩|⟨a,e,_,aq,_,bj⟩
 · rw[e] at hw;simp at hw;omega
 · exact⟨a,ws,by rw[e,hw],bj,by rw[aq,Nt],el⟩
theorem akr{n a b N i:Nat}{d e:List gI}{jw y8:aa}{NC pg:List aa}{aks akt:Nat}{al aw z:I}{Q:cl->bD->Prop}(z5:N=d.length)(dk:N=e.length)(a_:al.get a=some (.cells NC 52 .aX 0 0))(ND:a<al.n)(NF:fx s3 (H5 aks jw al) al d NC)(ag:aw.get b=some (.cells pg 52 .aX 0 0))(iC:b<aw.n)(NG:fx s3 (H5 akt y8 aw) aw e pg)(oS:Ext al.n al aw)(cw:Ext aw.n aw z)(aI:uf z)(heq:d.map iL=e.map iL)(Da:∀x∈d,qM Any DY x.e)(se:∀x∈e,qM Any DY x.e)(EI:∀x∈d,(gC x.e).length<=90000)(Jh:∀x∈e,(gC x.e).length<=90000)(r8:∀x∈d,qX x.e+8<=n)(IK:∀x∈e,qX x.e+8<=n)(hi:i<N)(eo:N<100000)
  (H:∀wv,Ext z.n z wv->Q .nrm (az [(12,.slice a 0 N (.aX 1)),(14,.slice b 0 N (.aX 1)),(16,ad (i+1))] wv)):
  cg an Tryz.f5 (Z n) [1,1,1,1,1,1,1,1,1,1,0,1,0,0] (az [(12,.slice a 0 N (.aX 1)),(14,.slice b 0 N (.aX 1)),(16,ad i)] z) Q:=by
 obtain⟨amI,kG,V2⟩:=NB NF i (by omega)
 obtain⟨amJ,GI,Ia⟩:=NB NG i (by omega)
 have bm:iL (d[i]'(by omega))=iL (e[i]'(by omega)):=by
  have J:(d.map iL)[i]? =(e.map iL)[i]? :=by rw[heq]
  rw[List.getElem?_map,List.getElem?_map,List.getElem?_eq_getElem (by omega),List.getElem?_eq_getElem (by omega)] at J
  simpa using J
 obtain⟨D,DL⟩:∃D,D=d[i]'(by omega):=⟨_,rfl⟩
 obtain⟨E,bO⟩:∃E,E=e[i]'(by omega):=⟨_,rfl⟩
 have NH:D∈d:=by rw[DL];exact List.getElem_mem _
 have Hp:E∈e:=by rw[bO];exact List.getElem_mem _
 rw[<-DL] at V2 bm
 rw[<-bO] at Ia bm
 obtain⟨lM,u6,zh,aku,akv,amK,rfl,_,aK,akw,BF,NI,_,_,_⟩:=V2
 obtain⟨s5,eW,fG,qO,akx,U0,rfl,_,aky,akz,yk,NJ,_,_,_⟩:=Ia
 have cN:D.kind=E.kind:=(congrArg gI.kind bm:(iL D).kind=(iL E).kind)
 have ea:D.name=E.name:=(congrArg gI.name bm:(iL D).name=(iL E).name)
 have dE:kb D.t=kb E.t:=(congrArg gI.t bm:(iL D).t=(iL E).t)
 have hR:lu D.e=lu E.e:=(congrArg gI.e bm:(iL D).e=(iL E).e)
 have JR:=af_ hR
 obtain⟨y,Dp⟩:∃y,y=z.room 70:=⟨_,rfl⟩
 have lx:Ext z.n z y:=by rw[Dp];exact Ext.room _ _ _
 have lb:=oS.n
 have b6:=cw.n
 have akA:=lx.n
 have o1:Ext al.n al y:=(oS.trans oS.n cw).trans (by omega) lx
 have pQ:Ext aw.n aw y:=cw.trans b6 lx
 obtain⟨fF,a9,b_⟩:=EN VI (lo:=8) (Nat.le_refl _) (by omega) D.e (Da D NH) (EI D NH) n (r8 D NH) (jm.ext o1 NI) (aI.ext lx)
 have V3:Ext al.n al fF:=o1.trans o1.n b_
 have zQ:Ext aw.n aw fF:=pQ.trans pQ.n b_
 obtain⟨g9,cI,b9⟩:=EN VI (lo:=8) (Nat.le_refl _) (by omega) E.e (se E Hp) (Jh E Hp) n (IK E Hp) (jm.ext zQ NJ) ((aI.ext lx).ext b_)
 have Io:Ext al.n al g9:=V3.trans V3.n b9
 have Ip:Ext aw.n aw g9:=zQ.trans zQ.n b9
 have xy:∀{k:I},Ext al.n al k->aC k a (0+i*1)=some (.ptr lM 0):=λ{k} x=>aN ((x.get a ND).trans a_) (by rw[j0,show 0+i*1=i by omega];exact kG)
 have ui:∀{k:I},Ext aw.n aw k->aC k b (0+i*1)=some (.ptr s5 0):=λ{k} x=>aN ((x.get b iC).trans ag) (by rw[j0,show 0+i*1=i by omega];exact GI)
 have xz:∀{k:I},Ext al.n al k->k.get lM=some (jz D.kind D.at' D.name D.text u6 zh aku akv):=λ{k} x=>(x.get lM aK).trans akw
 have uj:∀{k:I},Ext aw.n aw k->k.get s5=some (jz E.kind E.at' E.name E.text eW fG qO akx):=λ{k} x=>(x.get s5 aky).trans akz
 have jy:(!gb D.name E.name)=false:=by rw[ea,Qy];rfl
 have bs:(!gb (gC D.e) (gC E.e))=false:=by rw[JR,Qy];rfl
 have hQ:Ext z.n z g9:=(lx.trans akA b_).trans (by have:=b_.n;omega) b9
 cases w8:D.t with
 |none=>
  have zF:E.t=none:=by
   rw[w8] at dE
   cases h:E.t with
   |none=>rfl
   |some t=>rw[h] at dE;cases dE
  rw[w8] at BF
  rw[zF] at yk
  have BF:u6=.au:=BF
  have yk:eW=.au:=yk
  refine VV _ a N b i z ⟨λ_=>?_,λh=>absurd hi h⟩
  rw[<-Dp]
  refine⟨hi,lM,xy o1,_,aN (xz o1) rfl,hi,s5,ui pQ,_,aN (uj pQ) rfl,λ_=>?_,λh=>absurd cN h⟩
  refine⟨hi,lM,xy o1,_,aN (xz o1) rfl,hi,s5,ui pQ,_,aN (uj pQ) rfl,λh=>(by rw[jy] at h;cases h),λ_=>?_⟩
  refine⟨hi,lM,xy o1,zh,aN (xz o1) rfl,_,fF,a9,hi,s5,ui zQ,fG,aN (uj zQ) rfl,_,g9,cI,λh=>(by rw[bs] at h;cases h),λ_=>?_⟩
  exact⟨hi,lM,xy Io,by rw[<-BF];exact aN (xz Io) rfl,hi,s5,ui Ip,by rw[<-yk];exact aN (uj Ip) rfl,NI.snd,ui pQ,NJ.snd,aN (uj pQ) rfl,λ_=>⟨by omega,H g9 hQ⟩,λh=>absurd h (by decide)⟩
 |some t1=>
  obtain⟨t2,zF⟩:∃t,E.t=some t:=by
   rw[w8] at dE
   cases h:E.t with
   |none=>rw[h] at dE;cases dE
   |some t=>exact⟨t,rfl⟩
  rw[w8] at BF
  rw[zF] at yk
  obtain⟨bt,V4⟩:=ef.ptr (show ef _ _ t1 u6 from BF)
  obtain⟨b3,V5⟩:=ef.ptr (show ef _ _ t2 eW from yk)
  refine akk _ a N b i bt b3 z ⟨λ_=>?_,λh=>absurd hi h⟩
  rw[<-Dp]
  refine⟨hi,lM,xy o1,_,aN (xz o1) rfl,hi,s5,ui pQ,_,aN (uj pQ) rfl,λ_=>?_,λh=>absurd cN h⟩
  refine⟨hi,lM,xy o1,_,aN (xz o1) rfl,hi,s5,ui pQ,_,aN (uj pQ) rfl,λh=>(by rw[jy] at h;cases h),λ_=>?_⟩
  refine⟨hi,lM,xy o1,zh,aN (xz o1) rfl,_,fF,a9,hi,s5,ui zQ,fG,aN (uj zQ) rfl,_,g9,cI,λh=>(by rw[bs] at h;cases h),λ_=>?_⟩
  exact⟨hi,lM,xy Io,aN (xz Io) (by rw[V4];rfl),hi,s5,ui Ip,aN (uj Ip) (by rw[V5];rfl),NI.snd,ui pQ,NJ.snd,aN (uj pQ) rfl,λ_=>⟨by omega,H g9 hQ⟩,λh=>absurd h (by decide)⟩
theorem akB(aI:uf h)(he:w1 ku.rt ku.mI ku.qq (h.get ku.g)=true)(EP:uh h.n h u b1)(ER:uh h.n h w ke):∃N g,Z N (.fn 5) [u,w] h=.ret (.bool true) g:=by
 obtain⟨l,el⟩:∃l,l=b1.take 200:=⟨_,rfl⟩
 obtain⟨one,aG⟩:∃s,s=pI++sJ l:=⟨_,rfl⟩
 obtain⟨two,aE⟩:∃s,s=pI++rO l ke:=⟨_,rfl⟩
 have Bb:l.length<=200:=by rw[el];simp;omega
 have V6:one.length<=1008:=by
  have:=agr l
  have:pI.length=8:=rfl
  rw[aG,List.length_append];omega
 have amL:two.length<=2208:=by
  have:=Uc l ke
  have:pI.length=8:=rfl
  rw[aE,List.length_append];omega
 obtain⟨q,eq⟩:∃q,q=1800+Im (ky one)+Im (ky two):=⟨_,rfl⟩
 refine⟨q+13,?_⟩
 obtain⟨X,bk⟩:∃X:a8->Prop,X=λx=>∃g,x=.ret (.bool true) g:=⟨_,rfl⟩
 show(λx=>∃g,x=.ret (.bool true) g) (Z (q+13) (.fn 5) [u,w] h)
 rw[<-bk]
 refine tz (P:=an) (intr:=fc) (n:=q+12) (R:=X) Tryz.func5 (by kernel_rfl) (by kernel_rfl) (by kernel_rfl) (Q:=VW X) ?_ (λe st bB=>?_)
 rotate_left
 · obtain⟨v,av,g,rfl,rfl,aW,jd⟩:=bB
   exact .inl ⟨.inl rfl,rfl,v,aW,jd⟩
 have fin:∀{g:I},VW X .ret (az [(4,.bool true)] g):=λ{g}=>⟨.bool true,_,g,rfl,rfl,by kernel_rfl,by rw[bk];exact⟨g,rfl⟩⟩
 refine e8 [] (aj4 _ u w h ?_)
 refine e8 [1] (aj5 _ u w h ⟨h,akm (q+11) aI.1 he,?_⟩)
 obtain⟨J,Iq⟩:∃y,y=(h.push (aD [.str [],.str [],.str [],.str [],.str [],.str [],.str [],.str [],.str [],.str [],.str [],.str [],.str [],.str [],.str [],.str [],.str [],.str [],.str [],.str [],.str [],.str [],.str [],.str [],.str [],.str [],.str [],.str []] 45)).set h.n (some (aD (n4.map .str) 45)):=⟨_,rfl⟩
 have bn:J.n=h.n+1:=by rw[Iq];rfl
 have bb:Ext h.n h J:=by rw[Iq];exact(Ext.push (Nat.le_refl _) _).ix (Nat.le_refl _)
 have al:J.get h.n=some (aD (n4.map .str) 45):=by rw[Iq];exact dz rfl
 refine e8 [1,1] (aj6 _ u w h ⟨J,by rw[Iq];exact cy (dx rfl) rfl rfl,?_⟩)
 obtain⟨ae,Ir⟩:∃y,y=(J.push (aD [.str [],.str [],.str [],.str []] 46)).set J.n (some (aD (iU.map .str) 46)):=⟨_,rfl⟩
 have b6:ae.n=J.n+1:=by rw[Ir];rfl
 have cw:Ext J.n J ae:=by rw[Ir];exact(Ext.push (Nat.le_refl _) _).ix (Nat.le_refl _)
 have aw:ae.get J.n=some (aD (iU.map .str) 46):=by rw[Ir];exact dz rfl
 have akC:ae.get h.n=some (aD (n4.map .str) 45):=(cw.get h.n (by omega)).trans al
 have fJ:Ext h.n h ae:=bb.trans bb.n cw
 have akD:=EP.ext fJ fJ.n
 have akE:=ER.ext fJ fJ.n
 have t2:=aI.ext fJ
 refine e8 [1,1,1] (aj7 _ u w h.n J ⟨ae,by rw[Ir];exact cy (dx rfl) rfl rfl,?_⟩)
 refine e8 [1,1,1,1] (aj8 _ u w h.n J.n ae ?_)
 refine e8 [1,1,1,1,1] (e8 [1,1,1,1,1,0] (aj9 _ u w h.n J.n pI pI ae ?_))
 refine cg.block (p:=[1,1,1,1,1,0,1]) (id:=0) (by kernel_rfl) ?_
 refine tA (λf st=>∃i s t av,st=tI av ae/\kN (BE u w h.n J.n i s t) av/\i<=l.length/\l.length<=f+i/\s++sJ (l.drop i)=one/\t++rO (l.drop i) (ke.drop i)=two) ?_ 200 _ (by omega) ⟨0,pI,pI,_,rfl,⟨rfl,rfl,rfl,rfl,rfl,rfl,rfl,trivial⟩,by omega,by omega,aG.symm,aE.symm⟩
 rintro f st ⟨i,s,t,av,rfl,jS,hi,aM,hb,hH⟩
 have ls:s.length<=100000:=by
  have:=congrArg List.length hb
  rw[List.length_append] at this;omega
 have lt:t.length<=100000:=by
  have:=congrArg List.length hH
  rw[List.length_append] at this;omega
 refine kQ (akn (N:=q+12) akD akE akC aw ls lt (λCg xx=>?_) (λhex=>?_)) jS
 · have uY:i<l.length:=by rw[el];simp;omega
   have akF:l[i]=b1[i]:=by
    subst el
    rw[List.getElem_take]
   obtain⟨f,rfl⟩:∃j,f=j+1:=⟨f-1,by omega⟩
   have aH:l.drop i=b1[i]::l.drop (i+1):=by rw[List.drop_eq_getElem_cons uY,akF]
   rw[aH] at hb hH
   refine⟨f,Nat.lt_succ_self _,i+1,_,_,_,rfl,⟨rfl,rfl,rfl,rfl,rfl,rfl,rfl,trivial⟩,by omega,by omega,?_,?_⟩
   · rw[<-hb]
     show _=s++(kU b1[i]++[32]++sJ (l.drop (i+1)))
     simp
   · rw[<-hH]
     show _=t++(kU b1[i]++iu (ke.drop i)++rO (l.drop (i+1)) (ke.drop i).tail)
     rw[List.tail_drop]
     simp
 · have uY:l.length<=i:=by rw[el];simp;omega
   rw[List.drop_eq_nil_of_le uY] at hb hH
   have hb:s=one:=by rw[<-hb];simp[sJ]
   have hH:t=two:=by rw[<-hH];simp[rO]
   subst hb hH
   refine xj ?_
   have Is:=Nj q (by omega) (s:=s) (by omega) t2.1 t2.2.1
   rcases(aG▸aE▸agw l ke:(∃e b0,ky s=.error e/\ky t=.error b0)\/∃d e,Un s t d e) with⟨V4,V5,dt,dv⟩|⟨d,e,B⟩
   · rw[dt] at Is
     obtain⟨bd,aO,a9,_,_,_,ej⟩:=Is
     have ES:=Nj q (by omega) (s:=t) (by omega) (t2.ext ej).1 (t2.ext ej).2.1
     rw[dv] at ES
     obtain⟨b2,aZ,cI,_,_,_,gl⟩:=ES
     refine e8 [1,1,1,1,1,1] (kQ (akd _ bd s t ae ⟨aO,a9,?_⟩) ⟨rfl,rfl,trivial⟩)
     refine e8 [1,1,1,1,1,1,1] (akf _ bd b2 t aO ⟨aZ,cI,?_⟩)
     exact e8 [1,1,1,1,1,1,1,1] (akh _ bd b2 aZ fin)
   · rw[B.dt] at Is
     obtain⟨v1,aO,a9,akG,ej,amM,mJ,akH⟩:=Is
     have ES:=Nj q (by omega) (s:=t) (by omega) (t2.ext ej).1 (t2.ext ej).2.1
     rw[B.dv] at ES
     obtain⟨v2,aZ,cI,akI,gl,amN,hT,akJ⟩:=ES
     have F3:d.length=e.length:=by have:=congrArg List.length B.eq;simpa using this
     obtain⟨a,NC,rfl,ND,Co,NF⟩:=akG.row B.pos
     obtain⟨b,pg,rfl,iC,akK,NG⟩:=akI.row (by have:=B.pos;omega)
     have akL:∀x∈d,qX x.e+8<=q+12:=λx ab=>by
      have:=V1 ab
      have aq:Im (ky s)=(d.map λd=>qX d.e).sum:=by rw[B.dt];rfl
      omega
     have Ex:∀x∈e,qX x.e+8<=q+12:=λx ab=>by
      have:=V1 ab
      have aq:Im (ky t)=(e.map λd=>qX d.e).sum:=by rw[B.dv];rfl
      omega
     have eo:d.length<90000:=by have:=agt B.dt;omega
     refine e8 [1,1,1,1,1,1] (kQ (akc _ a d.length s t ae ⟨aO,a9,?_⟩) ⟨rfl,rfl,trivial⟩)
     refine e8 [1,1,1,1,1,1,1] (ake _ a d.length b e.length t aO ⟨aZ,cI,?_⟩)
     refine e8 [1,1,1,1,1,1,1,1] (akg _ a d.length b e.length aZ ?_)
     rw[<-F3]
     refine e8 [1,1,1,1,1,1,1,1,1] (aki _ a d.length b aZ ⟨λ_=>?_,λdk=>absurd rfl dk⟩)
     refine e8 [1,1,1,1,1,1,1,1,1,1] (e8 [1,1,1,1,1,1,1,1,1,1,0] (akj _ a d.length b aZ ?_))
     refine cg.block (p:=[1,1,1,1,1,1,1,1,1,1,0,1]) (id:=2) (by kernel_rfl) ?_
     refine tA (λf st=>∃i z av,st=tI av z/\kN [(12,.slice a 0 d.length (.aX 1)),(14,.slice b 0 d.length (.aX 1)),(16,ad i)] av/\Ext aZ.n aZ z/\i<=d.length/\d.length<=f+i) ?_ d.length _ (by omega) ⟨0,aZ,_,rfl,⟨rfl,rfl,rfl,trivial⟩,Ext.refl _ _,by omega,by omega⟩
     rintro f st ⟨i,z,av,rfl,jS,hQ,hi,aM⟩
     have akM:uf z:=((t2.ext ej).ext gl).ext hQ
     by_cases cf:i<d.length
     · obtain⟨f,rfl⟩:∃j,f=j+1:=⟨f-1,by omega⟩
       refine kQ (akr (n:=q+12) rfl F3 Co ND NF akK iC NG gl hQ akM B.eq B.al B.aw (T8 mJ (by omega) akH) (T8 hT (by omega) akJ) akL Ex cf (by omega) λwv akN=>?_) jS
       exact⟨f,Nat.lt_succ_self _,i+1,wv,_,rfl,⟨rfl,rfl,rfl,trivial⟩,hQ.trans hQ.n akN,by omega,by omega⟩
     · refine kQ (VV _ a d.length b i z ⟨λh=>absurd h cf,λ_=>?_⟩) jS
       refine xj ?_
       exact kQ (akl _ a d.length b z fin) ⟨rfl,rfl,trivial⟩
theorem akO:∀t∈dL,¬t.g=0:=by decide
theorem akP(els:Nat->Nat)(rows:List (List aa×Nat))(el:Nat)(fz:Nat×Nat):uf (nW els rows el fz)/\w1 ku.rt ku.mI ku.qq ((nW els rows el fz).get ku.g)=true:=by
 have J:Nat.ble 7 an.globals.size=true:=by kernel_rfl
 have ae:=Nat.le_of_ble_eq_true J
 have aq:=(yU an.globals.size els dL rows qv).1
 have he:w1 ku.rt ku.mI ku.qq ((nW els rows el fz).get ku.g)=true:=by
  have:(nW els rows el fz).get 0=some (.raw (.cells DN el fz)):=dz rfl
  show w1 _ _ _ ((nW els rows el fz).get 0)=true
  rw[this]
  rfl
 refine⟨⟨GJ λt aI=>?_,?_,he⟩,he⟩
 · have hi:=tJ (Rc (G:=an.globals.size) (els:=els) (rows:=rows) qv (by decide)) t aI
   have aB:=SQ els rows el fz (akO t aI)
   unfold wW at hi⊢
   rw[aB]
   exact hi
 · show 7<=(kr an.globals.size els dL rows).n
   rw[aq];omega
theorem akQ{els sz:Nat->Nat}(rows lY:List (gx×List aa×Nat))(el:Nat)(fz:Nat×Nat):Il rows (l9 an.globals.size sz ((rows++lY).map (·.1))) (nW els ((rows++lY).map (·.2)) el fz) an.globals.size/\Il lY (l9 an.globals.size sz ((rows++lY).map (·.1))) (nW els ((rows++lY).map (·.2)) el fz) (an.globals.size+rows.length):=by
 have h0:=aj3 (sz:=sz) (els:=els) qv (rows++lY)
 have aW:0<an.globals.size:=u7.g
 have key:∀(k:Nat) (x:gx×List aa×Nat),(rows++lY)[k]? =some x->l9 an.globals.size sz ((rows++lY).map (·.1)) (an.globals.size+k)=some x.1/\(nW els ((rows++lY).map (·.2)) el fz).get (an.globals.size+k)=some (.cells x.2.1 x.2.2 .ro 0 0)/\an.globals.size+k<(nW els ((rows++lY).map (·.2)) el fz).n:=λk x ai=>by
  obtain⟨aO,aZ,bC⟩:=h0 k x ai
  exact⟨aO,(SQ els _ el fz (by omega)).trans aZ,bC⟩
 refine⟨λk x ai=>key k x ?_,λk x ai=>?_⟩
 · rw[List.getElem?_append_left (List.getElem?_eq_some_iff.1 ai).1];exact ai
 · rw[Nat.add_assoc]
   refine key (rows.length+k) x ?_
   rw[List.getElem?_append_right (by omega),show rows.length+k-rows.length=k by omega];exact ai
theorem akR{els sz:Nat->Nat}{el:Nat}{fz:Nat×Nat}{rows lY:List (gx×List aa×Nat)}(EP:uh (nW els ((rows++lY).map (·.2)) el fz).n (nW els ((rows++lY).map (·.2)) el fz) u b1)(ER:uh (nW els ((rows++lY).map (·.2)) el fz).n (nW els ((rows++lY).map (·.2)) el fz) w ke):∃N g,eA an fc N (.fn 5) [u,w] (nW els ((rows++lY).map (·.2)) el fz)=.ret (.bool true) g:=by
 obtain⟨t1,t2⟩:=akP els ((rows++lY).map (·.2)) el fz
 exact akB t1 t2 EP ER
end Go.Proofs.lv
