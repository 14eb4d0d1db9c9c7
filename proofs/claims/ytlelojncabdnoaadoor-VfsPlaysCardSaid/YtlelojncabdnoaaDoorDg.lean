/-
  PROVED HERE: contracts of functions (Dg). No condition beside each statement's own.
-/
import Derived.Test.YtlelojncabdnoaaDoorDf
import Derived.Test.YtlelojncabdnoaaDoorAed
import Derived.Deep.Strs
import Derived.DataReads
set_option linter.unusedVariables false
set_option linter.unusedSimpArgs false
set_option maxRecDepth 100000
set_option maxHeartbeats 1000000
namespace Go.Proofs.hD
open Go aS Go.Proofs
variable {Q:aU->aB->Prop} {R:bM->Prop}
theorem xm(g:J)(f:bV):∃ct,aS.storeCells (g.push (ay [.str [],.str [],aK 0] 40)) g.n 0 (cW f)=some ct/\ct.n=g.n+1/\ct.get g.n=some (ay (cW f) 40)/\Ext g.n g ct:=
 ⟨_,gI (c8 rfl) rfl rfl,rfl,e8 rfl,Ext.l3 (Nat.le_refl _) (Ext.push (Nat.le_refl _) _)⟩
theorem TP(m:Nat)(h:J):Y (m+1) (.fn 16) [] h=.ret (.bool true) h:=by
 have:fl 16 [] h=some (.bool true,h):=rfl
 show cF al fl (m+1) _ _ _=_
 simp only[cF,this]
theorem dL.q{F:Nat->Prop}{h:J}{p:Nat}{q:cT}{s:cj}(w:dL F h p q s):s.nL=q.a/\s.nM=q.b:=by
 obtain⟨m1,m2,c1,c2,dF,A,T,w,h1,aa,_⟩:=w
 exact⟨h1,aa⟩
abbrev xn(Q:cT):b8:=ay [.int .i64 Q.a,.int .i64 Q.b,.int .i64 Q.c,aK Q.d,aK Q.e] 24
structure Act where
 w:Int
 p:bf
 t:bf
 x:bf
 m:Int
abbrev kR(a:Act):List I:=[.int .i64 a.w,.str a.p,.str a.t,.str a.x,.int .i64 a.m]
def xo(B:Nat)(h:J)(v:I)(ls:List Act):Prop:=(v=.bn/\ls=[])\/∃b off cp,v=.slice b off ls.length cp/\b<B/\∀i (ag:i<ls.length),aS.loadCells h b (off+i*5) 5=some (kR ls[i])
theorem xo.len{B:Nat}{h:J}{v:I}{ls:List Act}(o:xo B h v ls)(g:J):fO al g 25 v=some (ai ls.length):=by
 rcases o with⟨rfl,rfl⟩|⟨b,off,cp,rfl,_⟩<;>rfl
theorem TQ{h g:J}{b o n:Nat}{cs:List I}(e:g.get b=h.get b)(ar:aS.loadCells h b o n=some cs):aS.loadCells g b o n=some cs:=by
 unfold aS.loadCells at ar⊢
 rw[e];exact ar
open Go aS Go.Proofs Go.ChangeShapes
theorem JV{W:World}{a:Addr}{m j:Nat}{v:Value}(h:W.cell? ((a.add m).add j)=some v):∃c el fz,W.heap[a.block]? =some (.cells c el fz)/\c[a.off+m+j]? =some v/\(m=0->j=0->a.spot=none):=by
 have ae:((a.add m).add j).block=a.block:=by
  unfold Addr.add
  split<;>split<;>rfl
 have aQ:((a.add m).add j).off=a.off+m+j:=by
  unfold Addr.add
  split<;>split<;>simp_all
 unfold World.cell? at h
 rw[ae,aQ] at h
 split at h
 · rename_i c el fz U
   split at h
   · cases h
   · rename_i ad
     refine⟨c,el,fz,U,h,λh1 aa=>?_⟩
     subst h1;subst aa
     simpa[Addr.add] using ad
 · cases h
theorem TR:∃f0 f1 f2 f3 f4:Field,al.underlying 30=some (.struct #[f0,f1,f2,f3,f4])/\(f0.type=3/\f0.offset=0)/\(f1.type=9/\f1.offset=1)/\(f2.type=9/\f2.offset=2)/\(f3.type=9/\f3.offset=3)/\(f4.type=3/\f4.offset=4):=by
 obtain⟨ax,nr⟩:∃ax,al.underlying 30=some (.struct ax):=by
  have:(match al.underlying 30 with|some (.struct _)=>true|_=>false)=true:=by kernel_rfl
  revert this
  cases al.underlying 30 with
  |none=>intro h;cases h
  |some d=>cases d<;>intro h<;>first|exact⟨_,rfl⟩|cases h
 have k:(match al.underlying 30 with|some (.struct ax)=>ax.toList.map λf=>(f.type,f.offset)|_=>[])=[(3,0),(9,1),(9,2),(9,3),(3,4)]:=by kernel_rfl
 rw[nr] at k
 simp only at k
 obtain⟨l⟩:=ax
 match l,k with
 |[f0,f1,f2,f3,f4],k=>
  simp only[List.map_cons,List.map_nil,List.cons.injEq,Prod.mk.injEq] at k
  exact⟨f0,f1,f2,f3,f4,nr,k.1,k.2.1,k.2.2.1,k.2.2.2.1,k.2.2.2.2.1⟩
theorem z6:al.underlying 25=some (.slice 30):=by kernel_rfl
abbrev encV(a:Act):List Value:=[.int .i64 a.w,.string ⟨a.p.toArray⟩,.string ⟨a.t.toArray⟩,.string ⟨a.x.toArray⟩,.int .i64 a.m]
theorem TS(μ:bd)(a:Act)(j:Nat){v:I}{u:Value}(h1:(kR a)[j]? =some v)(aa:(encV a)[j]? =some u):a1 μ v u:=by
 match j,h1,aa with
 |0,h1,aa=>cases h1;cases aa;rfl
 |1,h1,aa=>cases h1;cases aa;exact⟨_,rfl,rfl⟩
 |2,h1,aa=>cases h1;cases aa;exact⟨_,rfl,rfl⟩
 |3,h1,aa=>cases h1;cases aa;exact⟨_,rfl,rfl⟩
 |4,h1,aa=>cases h1;cases aa;rfl
 |n+5,h1,aa=>cases h1
theorem TT{H:Type}{enc:TypeId×Value->H}{W:World}{sp:Nat->Bool}{held:Bool}{fuel:Nat}{v:Value}{x:DataW H×List MemPlace}(h:DataW.trod enc al W 0 sp held fuel 25 [v]=some x):
  v=.slice none 0 0\/∃a len cap,v=.slice (some a) len cap/\∃ds:List Act,ds.length=len/\∀i (ag:i<ds.length) (j:Nat) (v:Value),(encV ds[i])[j]? =some v->W.cell? ((a.add (i*5)).add j)=some v:=by
 have JW:al.cellsOf 30=5:=by kernel_rfl
 have gf:al.cellsOf 9=1:=by kernel_rfl
 have vu:al.cellsOf 3=1:=by kernel_rfl
 have DI:al.underlying 9=some .string:=by kernel_rfl
 have uH:al.underlying 3=some (.int .i64):=by kernel_rfl
 rcases DataW.trod_slice z6 h with⟨aA,_⟩|⟨a,len,cap,elems,rest,n,_,aA,_,ae,ar,hm,hlen,vk,_,_⟩
 · cases aA;exact .inl rfl
 · cases aA
   refine .inr ⟨a,len,cap,rfl,?_⟩
   have each:∀i,i<len->∃d:Act,W.cells? 0 (a.add (i*5)) 5=some (encV d):=by
    intro i ag
    have he:=vk i ag
    rw[List.getElem?_eq_getElem (by omega),JW,Option.bind_eq_some_iff] at he
    obtain⟨cs,TU,aP⟩:=he
    obtain⟨f0,f1,f2,f3,f4,ad,⟨t0,u2⟩,⟨t1,dO⟩,⟨t2,ef⟩,⟨t3,sC⟩,⟨t4,mO⟩⟩:=TR
    obtain⟨xs,k,_,_,dt,j4,hf⟩:=DataW.trod_struct ad aP
    rw[JW] at dt
    have TV:xs.length=5:=j4
    obtain⟨v0,v1,v2,v3,v4,rfl⟩:∃v0 v1 v2 v3 v4,cs=[v0,v1,v2,v3,v4]:=by
     match cs,dt with
     |[v0,v1,v2,v3,v4],_=>exact⟨v0,v1,v2,v3,v4,rfl⟩
    have kt:=hf 0 f0 rfl
    have bt:=hf 1 f1 rfl
    have bA:=hf 2 f2 rfl
    have eU:=hf 3 f3 rfl
    have fe:=hf 4 f4 rfl
    rw[List.getElem?_eq_getElem (by omega),t0,u2,vu] at kt
    rw[List.getElem?_eq_getElem (by omega),t1,dO,gf] at bt
    rw[List.getElem?_eq_getElem (by omega),t2,ef,gf] at bA
    rw[List.getElem?_eq_getElem (by omega),t3,sC,gf] at eU
    rw[List.getElem?_eq_getElem (by omega),t4,mO,vu] at fe
    obtain⟨z0,er,_,_⟩:=DataW.trod_int uH kt
    obtain⟨s1,av,_,_⟩:=DataW.trod_string DI bt
    obtain⟨s2,au,_,_⟩:=DataW.trod_string DI bA
    obtain⟨bz,bm,_,_⟩:=DataW.trod_string DI eU
    obtain⟨z4,cN,_,_⟩:=DataW.trod_int uH fe
    have TW:v0=.int .i64 z0:=by simpa using er
    have p7:v1=.string s1:=by simpa using av
    have CY:v2=.string s2:=by simpa using au
    have TX:v3=.string bz:=by simpa using bm
    have TY:v4=.int .i64 z4:=by simpa using cN
    refine⟨⟨z0,s1.data.toList,s2.data.toList,bz.data.toList,z4⟩,?_⟩
    rw[TU,TW,p7,CY,TX,TY]
   let f:Nat->Act:=λi=>if ag:i<len then(each i ag).choose else⟨0,[],[],[],0⟩
   refine⟨(List.range len).map f,by simp,λi ag j v aM=>?_⟩
   have dV:i<len:=by simpa using ag
   have hf:((List.range len).map f)[i]=(each i dV).choose:=by simp[f,dV]
   rw[hf] at aM
   have gf:=(each i dV).choose_spec
   have aG:j<5:=by
    have:=(List.getElem?_eq_some_iff.1 aM).1
    simpa[encV] using this
   have:=World.cells?_some gf
   exact(this.2.2 j aG).trans aM
theorem TZ{W:World}(jv:al.globals.size<=W.heap.size){a:Addr}{cap:Nat}{ds:List Act}(aA:0<ds.length)(ab:∀i (ag:i<ds.length) (j:Nat) (v:Value),(encV ds[i])[j]? =some v->W.cell? ((a.add (i*5)).add j)=some v):
  ∃(μ:bd) (g:J) (u:I),bg μ g W/\fR al μ/\rV g/\xo g.n g u ds/\a1 μ u (.slice (some a) ds.length cap):=by
 obtain⟨c,el,fz,ae,oX,ad⟩:=JV (ab 0 aA 0 _ rfl)
 have JX:=ad (by omega) rfl
 have hle:a.off<=c.size:=by
  have:=(Array.getElem?_eq_some_iff.1 oX).1;omega
 have gf:tc (lg al.globals.size ⟨a.block,a.off,c.size-a.off⟩) (cc kR ds) c a.off:=by
  intro t v aM
  have sX:(ds.flatMap kR)[t]? =some v:=aM
  rw[o9 (w:=5) (λ_=>rfl)] at sX
  split at sX
  · rename_i bk
    have ag:t/5<ds.length:=Nat.div_lt_of_lt_mul (by rw[Nat.mul_comm];exact bk)
    rw[List.getElem?_eq_getElem ag] at sX
    have sE:(kR ds[t/5])[t %5]? =some v:=sX
    have aG:t %5<(encV ds[t/5]).length:=by
     show t %5<5
     omega
    obtain⟨c',oT,XV,iC,U,_⟩:=JV (ab (t/5) ag (t %5) _ (List.getElem?_eq_getElem aG))
    rw[ae] at iC
    cases iC
    have e:a.off+t/5*5+t %5=a.off+t:=by omega
    rw[e] at U
    exact⟨_,U,TS _ _ _ sE (List.getElem?_eq_getElem aG)⟩
  · cases sX
 obtain⟨ba,bH,dv⟩:=N7 (P:=al) (i:=⟨a.block,a.off,c.size-a.off⟩) jv ae _ gf (by simp;omega)
 refine⟨_,qp al.globals.size (cc kR ds) el,.slice al.globals.size 0 ds.length (.exact cap),ba,bH,dv,.inr ⟨_,0,.exact cap,rfl,Nat.lt_succ_self _,λi ag=>?_⟩,⟨⟨a.block,a.off,c.size-a.off⟩,by simp[lg],?_⟩⟩
 · have an:(qp al.globals.size (cc kR ds) el).get al.globals.size=some (.cells (cc kR ds++[]) el .ro 0 0):=by rw[wa,if_pos rfl,List.append_nil]
   exact G8 (w:=5) (λ_=>rfl) an ag (by omega)
 · obtain⟨a6,off,spot⟩:=a
   simp only at JX
   subst JX
   rfl
theorem T0{P:Program}{W:World}{base:Nat}{t e:TypeId}(bk:P.underlying t=some (.slice e)){a:Addr}{len cap:Nat}(h:Value.okWide P W .any base t (.slice (some a) len cap)):a.block<W.heap.size:=by
 simp only[Value.okWide,bk,Cell.okWide,Cell.ok] at h
 obtain⟨_,_,_,_,row,cells,ad,_⟩:=h
 unfold World.shape? at ad
 cases ae:W.heap[a.block]? with
 |none=>simp[ae] at ad
 |some o=>exact(Array.getElem?_eq_some_iff.1 ae).1
theorem T1{P:Program}{W:World}(jv:P.globals.size<=W.heap.size){a6:Nat}(ae:a6<W.heap.size):
  bg (lg P.globals.size ⟨a6,0,0⟩) (ml (P.globals.size+1)) W/\fR P (lg P.globals.size ⟨a6,0,0⟩)/\rV (ml (P.globals.size+1))/\∃i,lg P.globals.size ⟨a6,0,0⟩ 0=some i:=by
 have aC:∀b,(ml (P.globals.size+1)).get b=none:=λb=>rfl
 refine⟨⟨λb o i h=>(by rw[aC] at h;cases h),λb c i j h=>absurd (aC b) h,λb i h=>?_,λb _=>aC b⟩,λg an=>⟨⟨g,0,0⟩,by simp[lg,an],rfl,rfl⟩,λb o h=>(by rw[aC] at h;cases h),?_⟩
 · have XW:(ml (P.globals.size+1)).n=P.globals.size+1:=rfl
   unfold lg at h
   split at h
   · rename_i iC;cases h;exact⟨by omega,Nat.lt_of_lt_of_le iC jv⟩
   · split at h
     · rename_i iC;cases h;exact⟨by omega,ae⟩
     · cases h
 · unfold lg
   split
   · exact⟨_,rfl⟩
   · rw[if_pos (by omega)];exact⟨_,rfl⟩
theorem T2{W:World}{base:Nat}{v:Value}(aM:Value.okWide al W .any base 24 v):∃Q:cT,∀μ,a1 μ (.agg [.int .i64 Q.a,.int .i64 Q.b,.int .i64 Q.c,.int .u64 (Int.ofNat Q.d),.int .u64 (Int.ofNat Q.e)]) v:=by
 obtain⟨cs,rfl,ar,ab⟩:=N9 (ts:=[3,3,3,22,22]) (by kernel_rfl) (by kernel_rfl) (by kernel_rfl) aM
 obtain⟨c0,c1,c2,c3,gG,rfl⟩:∃c0 c1 c2 c3 gG,cs=[c0,c1,c2,c3,gG]:=by
  match cs,ar with
  |[c0,c1,c2,c3,gG],_=>exact⟨c0,c1,c2,c3,gG,rfl⟩
 have uH:al.underlying 3=some (.int .i64):=by kernel_rfl
 have JY:al.underlying 22=some (.int .u64):=by kernel_rfl
 obtain⟨z0,rfl,_⟩:=wb uH (ab 0 c0 _ rfl rfl)
 obtain⟨bS,rfl,_⟩:=wb uH (ab 1 c1 _ rfl rfl)
 obtain⟨z2,rfl,_⟩:=wb uH (ab 2 c2 _ rfl rfl)
 obtain⟨z3,rfl,eU⟩:=wb JY (ab 3 c3 _ rfl rfl)
 obtain⟨z4,rfl,fe⟩:=wb JY (ab 4 gG _ rfl rfl)
 have zB:∀z:Int,IntKind.u64.has z->Int.ofNat z.toNat=z:=λz aW=>by
  have h1:IntKind.u64.min<=z/\z<=IntKind.u64.max:=by simpa[IntKind.has] using aW
  have m1:IntKind.u64.min=0:=by decide
  rw[m1] at h1
  exact Int.toNat_of_nonneg h1.1
 refine⟨⟨z0,bS,z2,z3.toNat,z4.toNat⟩,λμ=>?_⟩
 simp only
 rw[zB z3 eU,zB z4 fe]
 exact⟨_,rfl,_,_,rfl,rfl,_,_,rfl,rfl,_,_,rfl,rfl,_,_,rfl,rfl,_,_,rfl,rfl,rfl⟩
end Go.Proofs.hD
