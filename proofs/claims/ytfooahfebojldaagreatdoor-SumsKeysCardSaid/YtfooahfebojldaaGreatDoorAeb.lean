/-
  THE ABSTRACT EVALUATOR (operations): a deterministic semantics of loaded code, and the proof that its runs are runs of the program in the model, whatever the tape draws. No condition.
-/
import Derived.Test.YtfooahfebojldaaGreatDoorAea
import Derived.ChangeKeysEq
import Derived.Laws.StructEq
import Derived.AtR
set_option linter.unusedVariables false
set_option linter.unusedSimpArgs false
namespace aB
open Go
section
variable {P:Program} {μ:bg} {H:J} {w:World}
theorem yr{b off n:Nat}{cs:List I}(h:loadCells H b off n=some cs):cs.length=n:=by
 unfold loadCells at h
 split at h
 · obtain⟨aa,rfl⟩:=rG _ _ _ h
   simp;omega
 · cases h
theorem ys:∀l:List UInt8,(cP l).length=l.length
 |[]=>rfl
 |_::l=>by simp[cP,ys l]
theorem Fl{size n:Nat}{x:I}{cs:List I}(h:hW H size x=some (n,cs)):cs.length=n*size:=by
 cases x<;>simp only[hW] at h<;>try cases h
 · split at h<;>cases h
   rw[ys];simp
 · simp
 · rename_i b off len cap
   cases cap with
   |dead=>
    simp only at h
    split at h
    · cases h;simp
    · cases h
   |exact c=>
    simp only at h
    split at h
    · rename_i bX aq;cases h;exact yr aq
    · cases h
   |aS fP=>
    simp only at h
    split at h
    · rename_i bX aq;cases h;exact yr aq
    · cases h
theorem Mp(aj:bn μ H w){argTypes:Array TypeId}{ty sT:TypeId}(h0:argTypes[0]? =some sT){s x:I}{mJ br:Value}(hs:a9 μ s mJ)(ab:a9 μ x br){v:I}{aT:J}
  (h:gx P H sT argTypes[1]? s x=some (v,aT)):eT P μ H w (Builtin.append_ argTypes ty #[mJ,br]) v aT:=by
 unfold gx at h
 split at h
 · rename_i e hu eU
   split at h
   · rename_i i z ae a4
     split at h
     · cases h
     · rename_i n cs gk
       obtain⟨aq,us,lb,kD⟩:=yn (P:=P) aj ab gk
       have ft:=Fl gk
       cases s<;>(try simp only at h)<;>try cases h
       ·
        cases hs
        cases n with
        |zero=>
         cases h
         have:=vI (P:=P) (ty:=ty) h0 rfl hu eU ae (base:=none) (sLen:=0) (sCap:=0) aq lb (by omega)
         exact .same aj this rfl
        |succ n=>
         have ak:j_ H e i.bytes i.size (0+(n+1)) z ([]++cs) 0=some (v,aT):=by simpa using h
         exact AZ aj h0 rfl hu eU ae a4 ab gk (old:=[]) ⟨[],rfl,rfl⟩ (by simp) ft (by omega) aj (b5.refl _ _ _) ak
       · rename_i b off len cap
         obtain⟨dW,h2,ag⟩:=hs
         cases cap with
         |dead=>cases h
         |exact cap=>
          cases ag
          simp only at h
          split at h
          · rename_i hle
            have hle:=Nat.le_of_ble_eq_true hle
            have ai:=vI (P:=P) (ty:=ty) h0 rfl hu eU ae (base:=some ⟨dW.bb,dW.base+off,none⟩) (sLen:=len) (sCap:=cap) aq lb hle
            simp only[add_plain] at ai
            split at h
            · cases h
              have A1:us=[]:=by
               have aa:=ft;have ad:=kD.length
               cases us with
               |nil=>rfl
               |cons a l=>simp at aa ad;omega
              subst A1
              refine .same aj (v':=.slice (some ⟨dW.bb,dW.base+off,none⟩) len cap) ?_ ⟨dW,h2,rfl⟩
              rw[ai];simp[_root_.Go.storeCells]
            · split at h
              · rename_i aa cf
                cases h
                obtain⟨w',ax,ay,bF⟩:=vx (P:=P) aj h2 kD cf
                refine⟨μ,w',.slice (some ⟨dW.bb,dW.base+off,none⟩) (len+n) cap,?_,⟨dW,h2,rfl⟩,ay,bF⟩
                rw[ai,Nat.add_assoc,ax];rfl
              · cases h
          · rename_i hle
            have cu:cap<len+n:=by
             rcases Nat.lt_or_ge cap (len+n) with h|h
             · exact h
             · rw[vF h] at hle;cases hle
            split at h
            · rename_i old hold
              obtain⟨os,cH,fJ⟩:=p8 (P:=P) aj.drew h2 hold
              exact AZ aj h0 rfl hu eU ae a4 ab gk (old:=old) ⟨os,by simp only[Builtin.firstCells];exact cH,fJ⟩ (yr hold) ft cu aj (b5.refl _ _ _) h
            · cases h
         |aS fP=>
          obtain⟨cap,rfl,qb,bH⟩:=ag
          simp only at h
          split at h
          · rename_i jT
            simp only[Bool.and_eq_true,Nat.blt_eq] at jT
            have Mq:=Nat.eq_of_beq_eq_true jT.1
            subst Mq
            have yi:=jT.2
            split at h
            · cases h
              have ai:=vI (P:=P) (ty:=ty) h0 rfl hu eU ae (base:=some ⟨dW.bb,dW.base+off,none⟩) (sLen:=len) (sCap:=cap) aq lb (by omega)
              simp only[add_plain] at ai
              have A1:us=[]:=by
               have aa:=ft;have ad:=kD.length
               cases us with
               |nil=>rfl
               |cons a l=>simp at aa ad;omega
              subst A1
              refine .same aj (v':=.slice (some ⟨dW.bb,dW.base+off,none⟩) len cap) ?_ ⟨dW,h2,cap,rfl,qb,bH⟩
              rw[ai];simp[_root_.Go.storeCells]
            · split at h
              · rename_i old el bk dV af
                have Mr:=aj.rel b _ dW af h2
                obtain⟨c,fg,fh,aV,aY,cw,jQ,jR⟩:=Mr
                split at h
                · rename_i qh
                  have qh:=Nat.le_of_ble_eq_true qh
                  split at h
                  · rename_i aa cf
                    cases h
                    have n_:len+n<=cap:=by
                     have:(len+n)*i.size<=cap*i.size:=by omega
                     exact Nat.le_of_mul_le_mul_right this yi
                    have ai:=vI (P:=P) (ty:=ty) h0 rfl hu eU ae (base:=some ⟨dW.bb,dW.base+off,none⟩) (sLen:=len) (sCap:=cap) aq lb n_
                    simp only[add_plain] at ai
                    obtain⟨w',ax,ay,bF⟩:=vx (P:=P) aj h2 kD cf
                    refine⟨μ,w',.slice (some ⟨dW.bb,dW.base+off,none⟩) (len+n) cap,?_,⟨dW,h2,cap,rfl,n_,bH⟩,ay,bF⟩
                    rw[ai,Nat.add_assoc,ax];rfl
                  · cases h
                · split at h
                  · rename_i o Fm hold
                    simp only[Bool.and_eq_true] at Fm
                    obtain⟨jx,nr⟩:=Fm
                    have jx:=Nat.le_of_ble_eq_true jx
                    have nr:=Nat.eq_of_beq_eq_true nr
                    subst nr
                    have ak:=h
                    unfold j_ at h
                    split at h
                    · rename_i Fo
                      simp only[Bool.and_eq_true] at Fo
                      obtain⟨⟨rK,mG⟩,e7⟩:=Fo
                      cases h
                      have vJ:=yr hold
                      by_cases qh:len+n<=cap
                      ·
                       have ai:=vI (P:=P) (ty:=ty) h0 rfl hu eU ae (base:=some ⟨dW.bb,dW.base+off,none⟩) (sLen:=len) (sCap:=cap) aq lb qh
                       simp only[add_plain] at ai
                       have hmul:(len+n)*i.size<=cap*i.size:=Nat.mul_le_mul_right _ qh
                       have Fk:(len+n)*i.size=len*i.size+n*i.size:=Nat.add_mul _ _ _
                       have LG:us.length=n*i.size:=by rw[<-kD.length];exact ft
                       obtain⟨w',c',ax,ay,bF,en,k9,fC,e6,gj,gW⟩:=E2 P dW.bb (dW.base+(off+len*i.size)) us w 0 c el fg fh aV
                        (kD.vt λa ba=>Me e7 a (List.mem_append_right _ ba)) (by omega) (λj yu rM ⟨f1,f2⟩=>by
                         have:=jR (j-dW.base) (by omega) (by omega) (by omega)
                         omega)
                       have Ms:dW.base+off+(dW.size-off)=c'.size:=by rw[gj,<-cw,<-bH];omega
                       obtain⟨r1,r2⟩:=aj.L_ (w':=w') (o':=.cells (o++cs) el .aS 0 (dV-off)) af rfl h2 en bF k9 fC e6.1 (dW.base+off) (dW.size-off) (hdr:=Nat.le_of_eq e6.2.symm)
                        ⟨c',fg,fh,ay,λj a aG=>by
                         show∃u,c'[dW.base+off+j]? =some u/\_
                         rw[gW]
                         by_cases lQ:j<o.length
                         · rw[List.getElem?_append_left lQ] at aG
                           rw[if_neg (by omega)]
                           unfold loadCells at hold
                           rw[af] at hold
                           simp only at hold
                           rw[mE] at hold
                           obtain⟨t1,rfl⟩:=rG _ _ _ hold
                           rw[List.getElem?_take] at aG
                           split at aG
                           · rw[List.getElem?_drop] at aG
                             obtain⟨u,tF,n9⟩:=aY (off+j) a aG
                             exact⟨u,by rw[Nat.add_assoc];exact tF,n9.mono (aj.nm _)⟩
                           · cases aG
                         · rw[List.getElem?_append_right (by omega)] at aG
                           have Fp:j-o.length<cs.length:=by
                            rcases Nat.lt_or_ge (j-o.length) cs.length with h|h
                            · exact h
                            · rw[List.getElem?_eq_none h] at aG;cases aG
                           have XZ:=kD.length
                           rw[if_pos (by omega)]
                           obtain⟨u,tF,n9⟩:=kD.get aG
                           refine⟨u,?_,n9.mono (aj.nm _)⟩
                           rw[<-tF]
                           have Mt:dW.base+off+j-(dW.base+(off+len*i.size)+0)=j-o.length:=by rw[vJ];omega
                           rw[Mt],Ms,by
                         refine⟨?_,λj yu rM Fq=>?_⟩
                         · simp only[List.length_append];have:=ft;omega
                         · have:=jR (off+j) (by simp only at yu;omega) (by simp only at rM;omega) (by simp only at Fq;omega)
                           omega⟩
                       refine⟨_,w',.slice (some ⟨dW.bb,dW.base+off,none⟩) (len+n) cap,?_,⟨_,fI _ _ _,cap,by simp,qh,by simp only;omega⟩,r1,r2⟩
                       rw[ai,Nat.add_assoc,ax];rfl
                      ·
                       obtain⟨bQ,cl⟩:=aj.kill af rfl h2
                       obtain⟨os,cH,fJ⟩:=p8 (P:=P) aj.drew h2 hold
                       exact AZ (ty:=ty) aj h0 rfl hu eU ae a4 ab gk (old:=o) ⟨os,by simp only[Builtin.firstCells];exact cH,fJ⟩ vJ ft (by omega) bQ cl ak
                    · cases h
                  · cases h
              · cases h
          · cases h
   · cases h
 · cases h
end
end aB
namespace aB
open Go
section
variable {P:Program} {μ:bg} {H:J} {w:World}
theorem b4.take{μ:bg}{as:List I}{vs:List Value}(h:b4 μ as vs)(n:Nat):b4 μ (as.take n) (vs.take n):=by
 refine b4.vr (by simp[h.length]) λj a aG=>?_
 rw[List.getElem?_take] at aG⊢
 split at aG
 · rename_i aq;rw[if_pos aq];exact h.get aG
 · cases aG
theorem Fs(aj:bn μ H w){size n m:Nat}{x:I}{br:Value}(ab:a9 μ x br){cs r:List I}(h:hW H size x=some (n,cs))(hm:m<=n)(ai:takeN (m*size) cs=some r):
  ∃us:List Value,(Builtin.firstCells size m br).run P w=.ok ⟨us⟩ w/\b4 μ r us:=by
 obtain⟨aU,rfl⟩:=rG _ _ _ ai
 have ft:=Fl h
 cases x<;>simp only[hW] at h<;>try cases h
 · split at h<;>cases h
   obtain⟨bs,rfl,rfl⟩:=ab
   refine⟨_,?_,(ym μ _).take _⟩
   simp only[Builtin.firstCells,Sem.run_pure]
   congr 1
   apply Array.ext'
   simp[ByteArray.data_extract,List.map_take]
 · cases ab
   exact⟨[],rfl,by simp;rfl⟩
 · rename_i b off len cap
   obtain⟨i,ae,ag⟩:=ab
   have load:∀bX,loadCells H b off (len*size)=some bX->n=len->cs=bX->∀c,∃us:List Value,(Builtin.firstCells size m (.slice (some ⟨i.bb,i.base+off,none⟩) len c)).run P w=.ok ⟨us⟩ w/\b4 μ (cs.take (m*size)) us:=by
    intro bX aq aI g_ c
    subst g_;subst aI
    have Mu:loadCells H b off (m*size)=some (cs.take (m*size)):=by
     unfold loadCells at aq⊢
     split at aq
     · rename_i aV aY cw jQ jR af
       obtain⟨t1,t2⟩:=rG _ _ _ aq
       have hmul:m*size<=n*size:=Nat.mul_le_mul_right _ hm
       have e:∀(k:Nat) (l:List I),k<=l.length->takeN k l=some (l.take k):=by
        intro k
        induction k with
        |zero=>intro l _;simp[takeN]
        |succ k bd=>
         intro l aq
         cases l with
         |nil=>simp at aq
         |cons a l=>simp[takeN,bd l (by simpa using aq)]
       rw[e _ _ (by omega),t2,List.take_take,Nat.min_eq_left hmul]
     · cases aq
    obtain⟨us,aa,ad⟩:=p8 (P:=P) aj ae Mu
    exact⟨us,by simp only[Builtin.firstCells];exact aa,ad⟩
   cases cap with
   |dead=>
    simp only at h
    split at h
    · cases h
      obtain⟨_,a,c,rfl⟩:=ag
      have:m=0:=by omega
      subst this
      exact⟨[],by simp[Builtin.firstCells,_root_.Go.loadCells,loadCellsFrom],by simp;rfl⟩
    · cases h
   |exact c=>
    cases ag
    simp only at h
    split at h
    · rename_i bX aq;cases h;exact load _ aq rfl rfl c
    · cases h
   |aS fP=>
    obtain⟨c,rfl,_⟩:=ag
    simp only at h
    split at h
    · rename_i bX aq;cases h;exact load _ aq rfl rfl c
    · cases h
theorem Mv(aj:bn μ H w){argTypes:Array TypeId}{ty xX:TypeId}(h0:argTypes[0]? =some xX){d s:I}{A2 mJ:Value}(aA:a9 μ d A2)(hs:a9 μ s mJ){v:I}{aT:J}
  (h:xW P H xX d s=some (v,aT)):eT P μ H w (Builtin.copy_ argTypes ty #[A2,mJ]) v aT:=by
 unfold xW at h
 split at h
 · rename_i e hu
   split at h
   · rename_i sz bH
     split at h
     · rename_i n cs gk
       obtain⟨aq,_⟩:=yn (P:=P) aj hs gk
       have mK:∀w:World,(_root_.Go.sizeOf e).run P w=.ok sz w:=λw=>run_sizeOf bH
       have Ft:∀br:Value,br=mJ->(Builtin.firstCells sz 0 mJ).run P w=.ok #[] w:=λbr _=>by
        obtain⟨us,aa,ad⟩:=Fs (P:=P) (m:=0) (r:=[]) aj hs gk (Nat.zero_le _) (by simp[takeN])
        cases us with
        |nil=>exact aa
        |cons a l=>cases ad
       split at h
       · cases h;cases aA
         refine .same aj (v':=.int .i64 0) ?_ rfl
         simp[Builtin.copy_,h0,bN hu,aq,mK,Ft mJ rfl,goInt]
       · rename_i b off len cap
         simp only at h
         obtain⟨i,ae,ag⟩:=aA
         have jS:∃(a:Addr) (c:Nat),A2=.slice (some a) len c/\(cap≠ .dead->a=⟨i.bb,i.base+off,none⟩):=by
          cases cap with
          |exact c=>cases ag;exact⟨_,c,rfl,λ_=>rfl⟩
          |aS fP=>obtain⟨c,rfl,_⟩:=ag;exact⟨_,c,rfl,λ_=>rfl⟩
          |dead=>obtain⟨rfl,a,c,rfl⟩:=ag;exact⟨a,c,rfl,λh=>absurd rfl h⟩
         obtain⟨a,c,rfl,ba⟩:=jS
         split at h
         · rename_i o3
           cases h
           refine .same aj (v':=.int .i64 0) ?_ rfl
           simp[Builtin.copy_,h0,bN hu,aq,mK,o3,Ft mJ rfl,goInt,_root_.Go.storeCells]
         · rename_i o3
           split at h
           · rename_i bX aU
             split at h
             · rename_i aa cf
               cases h
               have A3:cap≠ .dead:=by
                intro e;subst e
                obtain⟨ax,_⟩:=ag
                subst ax;simp[Nat.min_def] at o3
               have:=ba A3
               subst this
               obtain⟨us,aV,aY⟩:=Fs (P:=P) aj hs gk (Nat.min_le_left _ _) aU
               obtain⟨w',ax,ay,bF⟩:=vx (P:=P) aj ae aY cf
               refine⟨μ,w',.int .i64 (Nat.min n len:Nat),?_,rfl,ay,bF⟩
               simp[Builtin.copy_,h0,bN hu,aq,mK,aV,ax,goInt]
             · cases h
           · cases h
       · cases h
     · cases h
   · cases h
 · cases h
theorem Mw(aj:bn μ H w){argTypes:Array TypeId}{ty t:TypeId}(h0:argTypes[0]? =some t){x:I}{br:Value}(ab:a9 μ x br){v:I}{aT:J}
  (h:n0 P H t x=some (v,aT)):eT P μ H w (Builtin.clear_ argTypes ty #[br]) v aT:=by
 unfold n0 at h
 split at h
 · rename_i hu;cases h;cases ab
   exact .same aj (v':=.tuple #[]) (by simp[Builtin.clear_,h0,bN hu]) ⟨[],rfl,rfl⟩
 · rename_i hu;cases h;cases ab
   exact .same aj (v':=.tuple #[]) (by simp[Builtin.clear_,h0,bN hu]) ⟨[],rfl,rfl⟩
 · rename_i hu
   split at h
   · rename_i es c ak
     cases h
     obtain⟨i,ae,rfl⟩:=ab
     obtain⟨ents,ax,ay⟩:=aj.rel _ _ i ak ae
     have cu:i.bb<w.heap.size:=(aj.lt _ _ ae).2
     obtain⟨r1,r2⟩:=aj.update (w':={w with heap:=w.heap.setIfInBounds i.bb (.map #[] c)}) (o':=.map [] c) ak rfl ae (by simp) (λr ai=>by simp[Array.getElem?_setIfInBounds];intro e;exact absurd e.symm ai) rfl rfl rfl
      ⟨[],by simp[cu],rfl⟩
     refine⟨μ,_,.tuple #[],?_,⟨[],rfl,rfl⟩,r1,r2⟩
     simp[Builtin.clear_,h0,bN hu,getObj,setObj,Sem.run,ax]
   · cases h
 · rename_i e b off n cap hu
   split at h
   · rename_i aI
     cases h
     subst aI
     obtain⟨i,ae,ag⟩:=ab
     have:∃a c,br=.slice (some a) 0 c:=by
      cases cap with
      |exact c=>cases ag;exact⟨_,c,rfl⟩
      |aS fP=>obtain⟨c,rfl,_⟩:=ag;exact⟨_,c,rfl⟩
      |dead=>obtain⟨_,a,c,rfl⟩:=ag;exact⟨a,c,rfl⟩
     obtain⟨a,c,rfl⟩:=this
     exact .same aj (v':=.tuple #[]) (by simp[Builtin.clear_,h0,bN hu]) ⟨[],rfl,rfl⟩
   · rename_i aI
     split at h
     · rename_i z a4
       split at h
       · rename_i aa cf
         cases h
         obtain⟨e9,Mx,rfl,af⟩:=k_ (P:=P) (w:=w) a4
         have ie:=L8 n ((jw μ e9).cells af)
         obtain⟨i,ae,ag⟩:=ab
         have:∃c,br=.slice (some ⟨i.bb,i.base+off,none⟩) n c:=by
          cases cap with
          |exact c=>cases ag;exact⟨c,rfl⟩
          |aS fP=>obtain⟨c,rfl,_⟩:=ag;exact⟨c,rfl⟩
          |dead=>obtain⟨h0,_⟩:=ag;exact absurd h0 aI
         obtain⟨c,rfl⟩:=this
         obtain⟨w',ax,ay,bF⟩:=vx (P:=P) aj ae ie cf
         refine⟨μ,w',.tuple #[],?_,⟨[],rfl,rfl⟩,ay,bF⟩
         cases n with
         |zero=>exact absurd rfl aI
         |succ n=>simp[Builtin.clear_,h0,bN hu,Mx,ax]
       · cases h
     · cases h
 · cases h
theorem My(aj:bn μ H w){argTypes:Array TypeId}{ty t:TypeId}(h0:argTypes[0]? =some t){x:I}{br:Value}(ab:a9 μ x br){v:I}(h:bO P H t x=some v):
  eT P μ H w (Builtin.len_ argTypes ty #[br]) v H:=by
 unfold bO at h
 split at h
 · rename_i s hu;cases h
   obtain⟨bs,rfl,rfl⟩:=ab
   refine .same aj (v':=.int .i64 (bs.size:Int)) (by simp[Builtin.len_,h0,bN hu,goInt]) ?_
   have:bs.data.toList.length=bs.size:=Array.length_toList
   rw[this];rfl
 · rename_i n e hu;cases h
   exact .same aj (v':=.int .i64 (n:Int)) (by simp[Builtin.len_,h0,bN hu,goInt]) rfl
 · rename_i e b off n cap hu;cases h
   obtain⟨i,ae,ag⟩:=ab
   have:∃a c,br=.slice a n c:=by
    cases cap with
    |exact c=>cases ag;exact⟨_,c,rfl⟩
    |aS fP=>obtain⟨c,rfl,_⟩:=ag;exact⟨_,c,rfl⟩
    |dead=>obtain⟨rfl,a,c,rfl⟩:=ag;exact⟨_,c,rfl⟩
   obtain⟨a,c,rfl⟩:=this
   exact .same aj (v':=.int .i64 (n:Int)) (by simp[Builtin.len_,h0,bN hu,goInt]) rfl
 · rename_i hu;cases h;cases ab
   exact .same aj (v':=.int .i64 0) (by simp[Builtin.len_,h0,bN hu,goInt]) rfl
 · rename_i hu;cases h;cases ab
   exact .same aj (v':=.int .i64 0) (by simp[Builtin.len_,h0,bN hu,goInt]) rfl
 · rename_i r hu
   split at h
   · rename_i es c ak
     cases h
     obtain⟨i,ae,rfl⟩:=ab
     obtain⟨ents,ax,ay⟩:=aj.rel _ _ i ak ae
     have hlen:es.length=ents.length:=by
      clear ax ak
      induction es generalizing ents with
      |nil=>cases ay;rfl
      |cons e es bd=>obtain⟨m,ms,rfl,_,ad⟩:=ay;simp[bd ms ad]
     refine .same aj (v':=.int .i64 (ents.length:Int)) ?_ (by rw[hlen];rfl)
     simp[Builtin.len_,h0,bN hu,goInt,getObj,Sem.run,ax]
   · cases h
 · rename_i arr hu
   split at h
   · rename_i n e n9;cases h
     exact .same aj (v':=.int .i64 (n:Int)) (by simp[Builtin.len_,h0,bN hu,bN n9,goInt]) rfl
   · cases h
 · cases h
theorem Mz(aj:bn μ H w){argTypes:Array TypeId}{ty t:TypeId}(h0:argTypes[0]? =some t){x:I}{br:Value}(ab:a9 μ x br){v:I}(h:xV P t x=some v):
  eT P μ H w (Builtin.cap_ argTypes ty #[br]) v H:=by
 unfold xV at h
 split at h
 · rename_i n e hu;cases h
   exact .same aj (v':=.int .i64 (n:Int)) (by simp[Builtin.cap_,h0,bN hu,goInt]) rfl
 · rename_i e b off n c hu;cases h
   obtain⟨i,ae,ag⟩:=ab
   cases ag
   exact .same aj (v':=.int .i64 (c:Int)) (by simp[Builtin.cap_,h0,bN hu,goInt]) rfl
 · rename_i hu;cases h;cases ab
   exact .same aj (v':=.int .i64 0) (by simp[Builtin.cap_,h0,bN hu,goInt]) rfl
 · cases h
theorem A4(f:I->I->Option I)(F:Value->Value->Sem Value)(hf:∀x y z br fK,f x y=some z->a9 μ x br->a9 μ y fK->∃e9,(F br fK).run P w=.ok e9 w/\a9 μ z e9):
  ∀(l:List I) (x:I) (br:Value) (c_:List Value) (z:I),a9 μ x br->b4 μ l c_->hM f x l=some z->∃e9,(c_.foldlM F br).run P w=.ok e9 w/\a9 μ z e9
 |[],x,br,c_,z,ab,aq,h=>by
  cases aq;simp[hM] at h;subst h
  exact⟨br,rfl,ab⟩
 |y::l,x,br,c_,z,ab,⟨fK,Fu,e,a2,aq⟩,h=>by
  subst e
  simp only[hM] at h
  split at h
  · rename_i u hu
    obtain⟨MA,r1,r2⟩:=hf x y u br fK hu ab a2
    obtain⟨e9,s1,s2⟩:=A4 f F hf l u MA Fu z r2 aq h
    exact⟨e9,by simp only[List.foldlM_cons,Sem.run_bind,r1,Result.andThen_ok,s1],s2⟩
  · cases h
theorem MB{x y z:I}{br fK:Value}(h:ir x y=some z)(ab:a9 μ x br)(a2:a9 μ y fK):∃e9,(Builtin.min2 br fK).run P w=.ok e9 w/\a9 μ z e9:=by
 unfold ir at h
 split at h
 · split at h
   · rename_i av;cases h;subst av
     cases ab;cases a2
     exact⟨_,rfl,by simp[a9,bD]⟩
   · cases h
 · cases h
theorem MC{x y z:I}{br fK:Value}(h:vd x y=some z)(ab:a9 μ x br)(a2:a9 μ y fK):∃e9,(Builtin.max2 br fK).run P w=.ok e9 w/\a9 μ z e9:=by
 unfold vd at h
 split at h
 · split at h
   · rename_i av;cases h;subst av
     cases ab;cases a2
     exact⟨_,rfl,by simp[a9,bD]⟩
   · cases h
 · cases h
end
end aB
namespace aB
open Go
section
variable {P:Program} {μ:bg} {H:J} {w:World}
theorem Fv:∀(cs:List I) (bs:List UInt8) (us:List Value),my cs=some bs->b4 μ cs us->us=bs.map λb=>.int .u8 (b.toNat:Int)
 |[],bs,us,h,ai=>by cases ai;simp[my] at h;subst h;rfl
 |c::cs,bs,us,h,⟨v,vs,e,aa,ad⟩=>by
  subst e
  unfold my at h
  split at h
  · rename_i heq;cases heq
  · rename_i n l heq
    cases heq
    split at h
    · rename_i r aI ai
      cases h
      cases aa
      rw[Fv cs r vs ai ad]
      simp only[Nat.blt_eq] at aI
      have:n %256=n:=Nat.mod_eq_of_lt aI
      simp[UInt8.toNat_ofNat',this]
    · cases h
  · cases h
theorem Fw(w:World):∀(bs:List UInt8) (acc:ByteArray),(forIn (bs.map λb=>Value.int .u8 (b.toNat:Int)) acc λc s=>
  (match c with
  |.int .u8 n=>pure (ForInStep.yield (s.push (UInt8.ofNat n.toNat)))
  |_=>do stuck "bytesToString: byte expected";pure (ForInStep.yield s):Sem (ForInStep ByteArray))).run P w=.ok ⟨acc.data++bs.toArray⟩ w
 |[],acc=>by simp
 |b::bs,acc=>by
  simp only[List.map_cons,List.forIn_cons,Sem.run_bind,Sem.run_pure,Result.andThen_ok,Fw w bs]
  congr 1
  simp[ByteArray.ext_iff,ByteArray.push]
theorem MD(aj:bn μ H w){b off n:Nat}{cap:ch}(n_:cap≠ .dead){br:Value}(ab:a9 μ (.slice b off n cap) br){cs:List I}(aq:loadCells H b off n=some cs){bs:List UInt8}(af:my cs=some bs):
  eT P μ H w (Conv.bytesToString br) (.str bs) H:=by
 obtain⟨i,ae,ag⟩:=ab
 have:∃c,br=.slice (some ⟨i.bb,i.base+off,none⟩) n c:=by
  cases cap with
  |exact c=>cases ag;exact⟨c,rfl⟩
  |aS fP=>obtain⟨c,rfl,_⟩:=ag;exact⟨c,rfl⟩
  |dead=>exact absurd rfl n_
 obtain⟨c,rfl⟩:=this
 obtain⟨us,aa,ad⟩:=p8 (P:=P) aj ae aq
 have lb:=Fv cs bs us af ad
 subst lb
 refine .same aj (v':=.string ⟨bs.toArray⟩) ?_ ⟨_,rfl,by simp⟩
 simp only[Conv.bytesToString,Sem.run_bind,aa,Result.andThen_ok]
 have e:=Fw (P:=P) w bs ByteArray.empty
 rw[<-List.forIn_toArray] at e
 refine(congrArg (λr=>Result.andThen r _) e).trans ?_
 simp
theorem ME(aj:bn μ H w){e:TypeId}{bs:ByteArray}:
  eT P μ H w (Conv.stringToBytes e bs) (.slice H.n 0 bs.data.toList.length (.aS 1)) (H.push (.cells (cP bs.data.toList) e .aS 0 0)):=by
 have yo:(Question.appendCap bs.size 0 e).forced=false:=rfl
 have bH:bs.data.toList.length=bs.size:=Array.length_toList
 obtain⟨cap,n_,hle⟩:∃cap,(Question.appendCap bs.size 0 e).cut (w.tape w.drawn (Question.appendCap bs.size 0 e))=cap/\bs.size<=cap:=⟨_,rfl,by simp[Question.cut]⟩
 have A5:=aj.drew.nm ⟨w.heap.size,0,cap⟩
 let c:Array Value:=(bs.data.map λb=>.int .u8 b.toNat)++Array.replicate (cap-bs.size) (.int .u8 0)
 have g_:c.size=cap:=by
  have:bs.data.size=bs.size:=rfl
  simp only[c,Array.size_append,Array.size_map,Array.size_replicate,this];omega
 have p9:yd (fH μ H.n ⟨w.heap.size,0,cap⟩) (cP bs.data.toList) c 0:=λj v aG=>by
  obtain⟨u,hu,ai⟩:=(ym μ bs.data.toList).get aG
  refine⟨u,?_,ai.mono A5⟩
  have vK:j<bs.data.size:=by
   rcases Nat.lt_or_ge j bs.data.size with h|h
   · exact h
   · rw[List.getElem?_eq_none (by simpa using h)] at hu;cases hu
  simp only[c,Nat.zero_add]
  rw[Array.getElem?_append_left (by simpa using vK)]
  simpa using hu
 have MF:bn (fH μ H.n ⟨w.heap.size,0,cap⟩) (H.push (.cells (cP bs.data.toList) e .aS 0 0)) (w.drew.alloc (.cells c e))/\b5 μ H w.drew (fH μ H.n ⟨w.heap.size,0,cap⟩) (H.push (.cells (cP bs.data.toList) e .aS 0 0)) (w.drew.alloc (.cells c e)):=
  aj.drew.alloc (.cells (cP bs.data.toList) e .aS 0 0) (.cells c e) cap
  ⟨c,0,0,World.heap_alloc_new _ _,p9,by simp[g_],by
    refine⟨?_,λj _ _ h=>by omega⟩
    rw[ys,bH];exact hle⟩
 obtain⟨r1,r2⟩:=MF
 let cT:World:=(w.drew.alloc (.cells c e)).freeze ⟨w.heap.size,cap,none⟩ 1
 have MG:cT.heap[w.heap.size]? =some (.cells c e (cap,cap+1)):=by
  simp only[cT,World.freeze,if_neg (show¬(1=0) by omega),Array.getElem?_modify]
  have:(w.drew.alloc (.cells c e)).heap[w.heap.size]? =some (.cells c e (0,0)):=World.heap_alloc_new _ _
  rw[this];simp
 have kC:(H.push (.cells (cP bs.data.toList) e .aS 0 0)).get H.n=some (.cells (cP bs.data.toList) e .aS 0 0):=by rw[J.eB,if_pos rfl]
 have cf:bn (fH μ H.n ⟨w.heap.size,0,cap⟩) ((H.push (.cells (cP bs.data.toList) e .aS 0 0)).set H.n (some (.cells (cP bs.data.toList) e .aS 0 0))) cT/\
   b5 (fH μ H.n ⟨w.heap.size,0,cap⟩) (H.push (.cells (cP bs.data.toList) e .aS 0 0)) (w.drew.alloc (.cells c e)) (fH μ H.n ⟨w.heap.size,0,cap⟩) ((H.push (.cells (cP bs.data.toList) e .aS 0 0)).set H.n (some (.cells (cP bs.data.toList) e .aS 0 0))) cT:=
  r1.update kC rfl (fI _ _ _) (by simp[cT,World.freeze]) (λr ai=>by
   simp only[cT,World.freeze,if_neg (show¬(1=0) by omega),Array.getElem?_modify]
   rw[if_neg (λe=>ai e.symm)]) (by simp[cT,World.freeze]) (by simp[cT,World.freeze]) (by simp[cT,World.freeze])
   ⟨c,cap,cap+1,MG,p9,by simp[g_],by
     refine⟨by rw[ys,bH];exact hle,λj yu rM Fq=>by simp only at yu rM;omega⟩⟩
 refine⟨fH μ H.n ⟨w.heap.size,0,cap⟩,cT,.slice (some ⟨w.heap.size,0,none⟩) bs.size cap,?_,⟨⟨w.heap.size,0,cap⟩,fI _ _ _,cap,by simp[bH],by rw[bH];exact hle,by simp⟩,?_,?_⟩
 · simp only[Conv.stringToBytes,Sem.run_bind,run_choose,yo,Bool.false_eq_true,if_false,World.drew_eq,Result.andThen_ok,n_]
   have ax:(_root_.Go.newRow e c).run P w.drew=.ok ⟨w.heap.size,0,none⟩ (w.drew.alloc (.cells c e)):=rfl
   rw[show(_root_.Go.newRow e ((bs.data.map λb=>.int .u8 b.toNat)++Array.replicate (cap-bs.size) (.int .u8 0))).run P w.drew=_ from ax]
   have ay:(w.drew.alloc (.cells c e)).shape? w.heap.size=some (e,cap):=by
    have:(w.drew.alloc (.cells c e)).heap[w.heap.size]? =some (.cells c e (0,0)):=World.heap_alloc_new _ _
    simp only[World.shape?,this,g_]
   simp only[Result.andThen_ok,markStringish,Sem.run_bind,run_shape,ay,run_freeze,Sem.run_pure]
   rfl
 ·
  refine⟨λb o i af ae=>cf.1.rel b o i ?_ ae,λb c' i j af ag=>cf.1.inj b c' i j ?_ ?_,cf.1.lt,λb af=>?_⟩
  · rw[J.b2];split
    · rename_i e;subst e;rw[kC] at af;exact af
    · exact af
  · rw[J.b2];split
    · simp
    · exact af
  · rw[J.b2];split
    · exact⟨_,rfl,rfl⟩
    · exact ag
  · exact r1.bound b af
 · refine b5.trans aj aj.drew b5.drew (b5.trans aj.drew r1 r2 ⟨eF.refl _,cf.2.size,Nat.le_refl _,λ_ _ h=>h,λ_ _ _=>rfl,cf.2.old,λb i h an=>(by rw[h] at an;cases an),λb o i af ai ae=>⟨af,(cf.2.ro b o i af ai ae).2⟩,cf.2.os,cf.2.out,cf.2.tape,cf.2.drawn⟩)
theorem MH{i:dY}{o o':Nat}:(sameAddr ⟨i.bb,i.base+o,none⟩ ⟨i.bb,i.base+o',none⟩).run P w=.ok (Nat.beq o o') w:=by
 simp only[sameAddr,beq_self_eq_true,if_true,Sem.run_pure]
 congr 1
 rw[Bool.eq_iff_iff]
 simp
theorem MI{r r' o o' el qi:Nat}{c c':Array Value}(h:w.heap[r]? =some (.cells c el (0,0)))(an:w.heap[r']? =some (.cells c' qi (0,0)))(dk:r≠r'):
  (sameAddr ⟨r,o,none⟩ ⟨r',o',none⟩).run P w=.ok false w:=by
 have af:(r==r')=false:=beq_eq_false_iff_ne.2 dk
 have f1:∀k,w.frozen? ⟨r,k,none⟩=false:=λk=>by simp[World.frozen?,h]
 have f2:∀k,w.frozen? ⟨r',k,none⟩=false:=λk=>by simp[World.frozen?,an]
 have s1:w.shape? r=some (el,c.size):=by simp[World.shape?,h]
 have s2:w.shape? r'=some (qi,c'.size):=by simp[World.shape?,an]
 simp[sameAddr,af,f1,f2,noView,viewAt,s1,s2,mayBeOne,stringish]
theorem A6(w:World)(D:Nat)(E:TypeId->I->I->Option Bool)(fs:∀t x y b br fK,E t x y=some b->a9 μ x br->a9 μ y fK->(Op.equalIn D t br fK).run P w=.ok b w)
  {xs eS:List I}{rN rO:List Value}(ab:b4 μ xs rN)(a2:b4 μ eS rO):∀(cc:List Field) (b:Bool),eqFields P E xs eS cc=some b->(Op.eqFields D ⟨rN⟩ ⟨rO⟩ cc).run P w=.ok b w
 |[],b,h=>by cases h;rfl
 |f::cc,b,h=>by
  simp only[eqFields] at h
  split at h
  · rename_i aI
    have aI:f.name= "_" :=of_decide_eq_true aI
    have bd:=A6 w D E fs ab a2 cc b h
    simp only[Op.eqFields,aI,ne_eq,not_true_eq_false,if_false]
    exact bd
  · rename_i aI
    have aI:¬(f.name= "_"):=of_decide_eq_false aI
    split at h
    · rename_i a c ba ag
      obtain⟨vL,eO,fY⟩:=qe (P:=P) (w:=w) ab ba
      obtain⟨lR,aV,aY⟩:=qe (P:=P) (w:=w) a2 ag
      split at h
      · rename_i he
        have ai:=fs _ _ _ _ vL lR he fY aY
        have bd:=A6 w D E fs ab a2 cc b h
        simp only[Op.eqFields,ne_eq,aI,not_false_eq_true,if_true,Sem.run_bind,eO,aV,Result.andThen_ok,ai,Bool.not_true,Bool.false_eq_true,if_false]
        exact bd
      · rename_i r ai
        cases b with
        |true=>exact absurd h ai
        |false=>
         have qj:=fs _ _ _ _ vL lR h fY aY
         simp only[Op.eqFields,ne_eq,aI,not_false_eq_true,if_true,Sem.run_bind,eO,aV,Result.andThen_ok,qj,Bool.not_false,Sem.run_pure]
    · cases h
theorem Fx(w:World)(D:Nat){e:TypeId}{sz:Nat}(E:TypeId->I->I->Option Bool)(fs:∀t x y b br fK,E t x y=some b->a9 μ x br->a9 μ y fK->(Op.equalIn D t br fK).run P w=.ok b w){xs eS:List I}{rN rO:List Value}(ab:b4 μ xs rN)(a2:b4 μ eS rO):
  ∀(n i:Nat) (b:Bool),vc P E e sz xs eS n i=some b->(Op.eqItems D e sz ⟨rN⟩ ⟨rO⟩ (List.range' i n)).run P w=.ok b w
 |0,i,b,h=>by simp only[vc] at h;cases h;simp[Op.eqItems]
 |n+1,i,b,h=>by
  simp only[vc] at h
  rw[List.range'_succ]
  split at h
  · rename_i a c ba ag
    obtain⟨vL,eO,fY⟩:=qe (P:=P) (w:=w) ab ba
    obtain⟨lR,aV,aY⟩:=qe (P:=P) (w:=w) a2 ag
    split at h
    · rename_i he
      have ai:=fs _ _ _ _ vL lR he fY aY
      have bd:=Fx w D E fs ab a2 n (i+1) b h
      simp only[Op.eqItems,Sem.run_bind,eO,aV,Result.andThen_ok,ai,Bool.not_true,Bool.false_eq_true,if_false]
      exact bd
    · rename_i r ai
      cases b with
      |true=>exact absurd h ai
      |false=>
       have qj:=fs _ _ _ _ vL lR h fY aY
       simp only[Op.eqItems,Sem.run_bind,eO,aV,Result.andThen_ok,qj,Bool.not_false,if_true,Sem.run_pure]
  · cases h
set_option maxHeartbeats 4000000 in
theorem rP(aj:bn μ H w):∀(d:Nat) (t:TypeId) (x y:I) (b:Bool) (br fK:Value) (D:Nat),d<=D->hz P H d t x y=some b->a9 μ x br->a9 μ y fK->(Op.equalIn D t br fK).run P w=.ok b w
 |0,t,x,y,b,br,fK,D,_,h,_,_=>by simp[hz] at h
 |d+1,t,x,y,b,br,fK,0,aA,_,_,_=>by omega
 |d+1,t,x,y,b,br,fK,D+1,aA,h,ab,a2=>by
  unfold hz at h
  cases hu:P.underlying t with
  |none=>rw[hu] at h;cases h
  |some u=>
   rw[hu] at h
   cases u<;>simp only at h
   case bool=>
    split at h<;>cases h
    cases ab;cases a2
    simp[Op.equalIn,bN hu]
   case int iR=>
    split at h
    · split at h
      · rename_i av;cases h;subst av;cases ab;cases a2
        simp[Op.equalIn,bN hu,a0]
      · cases h
    · cases h
   case string=>
    split at h<;>cases h
    obtain⟨s1,rfl,rfl⟩:=ab
    obtain⟨s2,rfl,rfl⟩:=a2
    rw[n8,<-qc,<-qc,<-beq_toListBytes]
    simp[Op.equalIn,bN hu]
   case pointer e=>
    split at h
    · cases h;cases ab;cases a2;simp[Op.equalIn,bN hu]
    · cases h;cases ab;obtain⟨i,_,rfl⟩:=a2;simp[Op.equalIn,bN hu]
    · cases h;cases a2;obtain⟨i,_,rfl⟩:=ab;simp[Op.equalIn,bN hu]
    · rename_i a i lS j
      split at h
      · rename_i n hs
        obtain⟨tG,A7,rfl⟩:=ab
        obtain⟨iw,yv,rfl⟩:=a2
        have bH:(_root_.Go.sizeOf e).run P w=.ok (n+1) w:=run_sizeOf hs
        have goal:∀r,(sameAddr ⟨tG.bb,tG.base+i,none⟩ ⟨iw.bb,iw.base+j,none⟩).run P w=r->(Op.equalIn (D+1) t (.pointer (some ⟨tG.bb,tG.base+i,none⟩)) (.pointer (some ⟨iw.bb,iw.base+j,none⟩))).run P w=r:=by
         intro r ai
         simp[Op.equalIn,bN hu,bH,ai]
        unfold AG at h
        split at h
        · rename_i rQ
          cases h
          have:=Nat.eq_of_beq_eq_true rQ
          subst this
          rw[A7] at yv;cases yv
          exact goal _ MH
        · rename_i rQ
          split at h
          · rename_i kE qk
            cases h
            obtain⟨c1,_,_,bQ,_,_,cl⟩:=aj.rel _ _ tG kE A7
            obtain⟨c2,_,_,bl,_,_,bB⟩:=aj.rel _ _ iw qk yv
            obtain⟨_,_,rfl,rfl⟩:=cl
            obtain⟨_,_,rfl,rfl⟩:=bB
            refine goal _ (MI bQ bl λe=>?_)
            have:=aj.inj _ _ tG iw (by rw[kE];simp) ⟨_,qk,rfl⟩ A7 yv e
            subst this
            simp at rQ
          · cases h
      · cases h
    · cases h
   case slice e=>
    have fL:∀(b off n:Nat) (c:ch) (v:Value),a9 μ (.slice b off n c) v->∃a m k,v=.slice (some a) m k:=by
     rintro b off n c v ⟨i,_,ag⟩
     cases c with
     |exact c=>cases ag;exact⟨_,_,_,rfl⟩
     |aS fP=>obtain⟨c,rfl,_⟩:=ag;exact⟨_,_,_,rfl⟩
     |dead=>obtain⟨_,a,c,rfl⟩:=ag;exact⟨_,_,_,rfl⟩
    split at h
    · cases h;cases ab;cases a2;simp[Op.equalIn,bN hu]
    · cases h;cases ab;obtain⟨a,m,k,rfl⟩:=fL _ _ _ _ _ a2;simp[Op.equalIn,bN hu]
    · cases h;cases a2;obtain⟨a,m,k,rfl⟩:=fL _ _ _ _ _ ab;simp[Op.equalIn,bN hu]
    · cases h
   case map k e=>
    split at h
    · cases h;cases ab;cases a2;simp[Op.equalIn,bN hu]
    · cases h;cases ab;obtain⟨i,_,rfl⟩:=a2;simp[Op.equalIn,bN hu]
    · cases h;cases a2;obtain⟨i,_,rfl⟩:=ab;simp[Op.equalIn,bN hu]
    · cases h
   case func ps rs v=>
    split at h
    · cases h;cases ab;cases a2;simp[Op.equalIn,bN hu]
    · cases h;cases ab;obtain⟨_,_,rfl,_⟩:=a2;simp[Op.equalIn,bN hu]
    · cases h;cases a2;obtain⟨_,_,rfl,_⟩:=ab;simp[Op.equalIn,bN hu]
    · cases h
   case interface ms=>
    split at h
    · cases h;cases ab;cases a2;simp[Op.equalIn,bN hu]
    · cases h;cases ab;obtain⟨_,rfl,_⟩:=a2;simp[Op.equalIn,bN hu]
    · cases h;cases a2;obtain⟨_,rfl,_⟩:=ab;simp[Op.equalIn,bN hu]
    · rename_i a v lS u
      obtain⟨v1,rfl,r1⟩:=ab
      obtain⟨ig,rfl,r2⟩:=a2
      split at h
      · rename_i rQ
        cases h
        have:a≠lS:=by intro e;subst e;simp at rQ
        simp[Op.equalIn,bN hu,this]
      · rename_i rQ
        have:=Nat.eq_of_beq_eq_true rQ
        subst this
        split at h
        · rename_i X0 yp
          split at h
          · rename_i MJ
            have bd:=rP aj d a v u b v1 ig D (by omega) h r1 r2
            simp[Op.equalIn,bN hu,run_typeInfo yp,MJ,bd]
          · cases h
        · cases h
    · cases h
   case struct cc=>
    split at h
    · rename_i xs eS
      split at h
      · cases h
      · rename_i cf
        obtain⟨rN,rfl,gM⟩:=ab
        obtain⟨rO,rfl,vM⟩:=a2
        have key:=A6 (P:=P) w D (hz P H d) (λt x y b br fK he aa ad=>rP aj d t x y b br fK D (by omega) he aa ad) gM vM cc.toList b h
        have kF:P.fieldsOf t=cc:=by simp[Program.fieldsOf,hu]
        rw[run_equalIn_struct w D t _ _ (by rw[kF];exact hu) cf,kF]
        exact key
    · cases h
   case array n e=>
    split at h
    · rename_i xs eS
      split at h
      · rename_i sz bH
        obtain⟨rN,rfl,gM⟩:=ab
        obtain⟨rO,rfl,vM⟩:=a2
        have ae:∃i,P.info? e=some i/\i.size=sz:=by
         unfold dd at bH
         split at bH
         · rename_i i ae;cases bH;exact⟨i,ae,rfl⟩
         · cases bH
        obtain⟨i,ae,MK⟩:=ae
        have ML:P.cellsOf e=sz:=by unfold Program.cellsOf;rw[ae];exact MK
        rw[run_equalIn_array w D _ _ hu ae,ML,List.range_eq_range']
        exact Fx w D (hz P H d) (λt x y b br fK he aa ad=>rP aj d t x y b br fK D (by omega) he aa ad) gM vM n 0 b h
      · cases h
    · cases h
   all_goals cases h
theorem Fy{u:TypeDesc}{cX:TypeId}(hu:P.underlying cX=some u){k x:I}{kv br:Value}{b:Bool}(av:jq P cX k=true)(h:oT k x=some b)(aa:a9 μ k kv)(ad:a9 μ x br):Instr.sameNow u kv br=some b:=by
 unfold jq at av
 rw[hu] at av
 cases u<;>simp only at av<;>try cases av
 ·
  split at av<;>try cases av
  cases x<;>simp only[oT] at h<;>cases h
  cases aa;cases ad;rfl
 ·
  split at av<;>try cases av
  cases x<;>simp only[oT] at h<;>try cases h
  split at h
  · rename_i e;cases h;subst e;cases aa;cases ad;simp[Instr.sameNow,a0]
  · cases h
 · split at av<;>try cases av
   cases x<;>simp only[oT] at h<;>cases h
   obtain⟨s1,rfl,rfl⟩:=aa
   obtain⟨s2,rfl,rfl⟩:=ad
   simp only[Instr.sameNow]
   rw[n8,<-qc,<-qc,<-beq_toListBytes]
def yw(μ:bg):Option (Nat×I)->Option (Nat×Value)->Prop
 |none,none=>True
 |some (i,a),some (j,v)=>i=j/\a9 μ a v
 |_,_=>False
theorem Fz{H:J}{cX:TypeId}{k x:I}(av:∀cs,k≠ .agg cs):vf P H cX k x=oT k x:=by
 cases k<;>first|rfl|exact absurd rfl (av _)
theorem FA{cX:TypeId}{k:I}(av:∀cs,k≠ .agg cs)(h:n1 P cX k=true):jq P cX k=true:=by
 cases k<;>first|exact h|exact absurd rfl (av _)
theorem FB{H:J}{u:TypeDesc}{cX:TypeId}(hu:P.underlying cX=some u){k:I}{kv:Value}(hs:∀cs,k≠ .agg cs)(av:jq P cX k=true)(aa:a9 μ k kv):∀(es:List fm) (ents:List MapEntry) (i:Nat) (r:Option (Nat×I)),fx μ es ents->kb P H cX k es i=some r->
  ∃r',Instr.findNow u kv ents i=some r'/\yw μ r r'
 |[],_,i,r,he,h=>by
  cases he;simp[kb] at h;subst h
  exact⟨none,rfl,trivial⟩
 |e::es,_,i,r,⟨m,ms,ax,ay,bF⟩,h=>by
  subst ax
  simp only[kb,Fz hs] at h
  split at h
  · rename_i hs
    cases h
    exact⟨some (i,m.val),by simp[Instr.findNow,Fy hu av hs aa ay.1],rfl,ay.2.1⟩
  · rename_i bp
    obtain⟨r',aV,aY⟩:=FB hu hs av aa es ms (i+1) r bF h
    exact⟨r',by simp[Instr.findNow,Fy hu av bp aa ay.1,aV],aY⟩
  · cases h
theorem FC(aj:bn μ H w){cX:TypeId}{cs:List I}{kv:Value}(aa:a9 μ (.agg cs) kv):∀(es:List fm) (ents:List MapEntry) (i:Nat) (r:Option (Nat×I)),fx μ es ents->kb P H cX (.agg cs) es i=some r->
  ∃r',(Instr.findAsking cX kv ents i).run P w=.ok r' w/\yw μ r r'
 |[],_,i,r,he,h=>by
  cases he;simp[kb] at h;subst h
  exact⟨none,rfl,trivial⟩
 |e::es,_,i,r,⟨m,ms,ax,ay,bF⟩,h=>by
  subst ax
  simp only[kb,vf] at h
  split at h
  · rename_i hs
    cases h
    have:=rP (P:=P) aj 8 cX _ _ true kv m.key Op.maxDepth (by decide) hs aa ay.1
    exact⟨some (i,m.val),by simp[Instr.findAsking,Op.equal,this],rfl,ay.2.1⟩
  · rename_i hs
    have:=rP (P:=P) aj 8 cX _ _ false kv m.key Op.maxDepth (by decide) hs aa ay.1
    obtain⟨r',aV,aY⟩:=FC aj aa es ms (i+1) r bF h
    exact⟨r',by simp[Instr.findAsking,Op.equal,this,aV],aY⟩
  · cases h
theorem A8{H:J}{cX:TypeId}{k:I}:∀(es:List fm) (i:Nat) (j:Nat) (v:I),kb P H cX k es i=some (some (j,v))->i<=j/\∃e,es[j-i]? =some e/\e.val=v/\vf P H cX k e.key=some true
 |[],i,j,v,h=>by simp[kb] at h
 |e::es,i,j,v,h=>by
  simp only[kb] at h
  split at h
  · rename_i hs
    cases h;exact⟨Nat.le_refl _,e,by simp,rfl,hs⟩
  · obtain⟨aa,cR,ad,aw⟩:=A8 es (i+1) j v h
    refine⟨by omega,cR,?_,aw⟩
    have:j-i=(j-(i+1))+1:=by omega
    rw[this];simpa using ad
  · cases h
theorem A9{cX:TypeId}{k:I}{kv:Value}(av:jq P cX k=true)(b:Bool)(n:Nat):(Instr.checkKey b (n+1) cX kv).run P w=.ok () w:=by
 unfold jq at av
 cases hu:P.underlying cX with
 |none=>rw[hu] at av;cases av
 |some u=>
  rw[hu] at av
  cases u<;>simp only at av<;>try cases av
  all_goals simp[Instr.checkKey,bN hu]
theorem FD(b:Bool){m n:Nat}(hm:m=n+1){cs:List I}{l:List Value}(aq:b4 μ cs l):∀(cc:List Field),xY P cs cc=true->
  (forIn cc PUnit.unit (λf _=>if f.name≠ "_" then(do let x<-part f.type ⟨l⟩ f.offset;Instr.checkKey b m f.type x;pure (ForInStep.yield PUnit.unit)) else pure (ForInStep.yield PUnit.unit)):Sem PUnit).run P w=.ok PUnit.unit w
 |[],h=>by simp
 |f::cc,h=>by
  unfold xY at h
  split at h
  · rename_i a ba
    split at h
    · rename_i av
      have bd:=FD b hm aq cc h
      obtain⟨u,eO,fY⟩:=qe (P:=P) (w:=w) aq ba
      have ag:=A9 (P:=P) (w:=w) (kv:=u) av b n
      rw[<-hm] at ag
      rw[List.forIn_cons]
      by_cases aI:f.name= "_"
      · simp only[aI,ne_eq,not_true_eq_false,if_false,Sem.run_bind,Sem.run_pure,Result.andThen_ok]
        exact bd
      · simp only[ne_eq,aI,not_false_eq_true,if_true,Sem.run_bind,eO,Result.andThen_ok,ag,Sem.run_pure]
        exact bd
    · cases h
  · cases h
theorem FE(b:Bool){m n:Nat}(hm:m=n+1){e:TypeId}{sz:Nat}(bH:dd P e=some sz){cs:List I}{l:List Value}(aq:b4 μ cs l):∀(k i:Nat),xZ P e sz cs k i=true->
  (forIn (List.range' i k) PUnit.unit (λi _=>do (Instr.checkKey b m e (<-part e ⟨l⟩ (i*(<-_root_.Go.sizeOf e))));pure (ForInStep.yield PUnit.unit)):Sem PUnit).run P w=.ok PUnit.unit w
 |0,i,h=>by simp
 |k+1,i,h=>by
  unfold xZ at h
  split at h
  · rename_i a ba
    split at h
    · rename_i av
      have bd:=FE b hm bH aq k (i+1) h
      obtain⟨u,eO,fY⟩:=qe (P:=P) (w:=w) aq ba
      have ag:=A9 (P:=P) (w:=w) (kv:=u) av b n
      rw[<-hm] at ag
      rw[List.range'_succ,List.forIn_cons]
      simp only[Sem.run_bind,run_sizeOf bH,eO,Result.andThen_ok,ag,Sem.run_pure]
      exact bd
    · cases h
  · cases h
theorem MM{cX:TypeId}{cs:List I}{l:List Value}(aq:b4 μ cs l)(av:n1 P cX (.agg cs)=true)(b:Bool){m n:Nat}(hm:m=n+1):(Instr.checkKey b (m+1) cX (.agg ⟨l⟩)).run P w=.ok () w:=by
 unfold n1 at av
 simp only at av
 split at av
 · rename_i cc hu
   have key:=FD (P:=P) (w:=w) b hm aq cc.toList av
   simp only[Instr.checkKey,Sem.run_bind,bN hu,Result.andThen_ok]
   rw[<-Array.forIn_toList]
   first|exact key|exact Eq.trans (congrArg (λq=>Result.andThen q _) key) rfl|simpa using key
 · rename_i A_ e hu
   split at av
   · rename_i sz bH
     have key:=FE (P:=P) (w:=w) b hm bH aq A_ 0 av
     simp only[Instr.checkKey,Sem.run_bind,bN hu,Result.andThen_ok]
     simp only[Std.Legacy.Range.forIn_eq_forIn_range',Std.Legacy.Range.size,Nat.sub_zero,Nat.add_one_sub_one,Nat.div_one]
     first|exact key|exact Eq.trans (congrArg (λq=>Result.andThen q _) key) rfl|simpa using key
   · cases av
 · cases av
theorem oa{cX:TypeId}{k:I}{kv:Value}(av:n1 P cX k=true)(aa:a9 μ k kv)(b:Bool):(Instr.checkKey b 10000 cX kv).run P w=.ok () w:=by
 by_cases hs:∀cs,k≠ .agg cs
 · exact A9 (FA hs av) b 9999
 · have:∃cs,k=.agg cs:=by
     cases k<;>first|exact⟨_,rfl⟩|exact absurd (λcs h=>by cases h) hs
   obtain⟨cs,rfl⟩:=this
   obtain⟨l,rfl,aq⟩:=aa
   exact MM aq av b (m:=9999) (n:=9998) rfl
theorem ql(aj:bn μ H w){cX:TypeId}{k:I}{kv:Value}(av:n1 P cX k=true)(aa:a9 μ k kv){es:List fm}{ents:List MapEntry}{r:Option (Nat×I)}(he:fx μ es ents)(h:kb P H cX k es 0=some r):
  ∃r',(Instr.findKey cX kv ents).run P w=.ok r' w/\yw μ r r':=by
 by_cases hs:∀cs,k≠ .agg cs
 · have e8:=FA hs av
   cases hu:P.underlying cX with
   |none=>unfold jq at e8;rw[hu] at e8;cases e8
   |some u=>
    obtain⟨r',aV,aY⟩:=FB hu hs e8 aa es ents 0 r he h
    exact⟨r',by simp[Instr.findKey,bN hu,aV],aY⟩
 · have:∃cs,k=.agg cs:=by
     cases k<;>first|exact⟨_,rfl⟩|exact absurd (λcs h=>by cases h) hs
   obtain⟨cs,rfl⟩:=this
   have hu:∃u,P.underlying cX=some u:=by
    unfold n1 at av
    simp only at av
    split at av
    · exact⟨_,by assumption⟩
    · exact⟨_,by assumption⟩
    · cases av
   obtain⟨u,hu⟩:=hu
   obtain⟨r',aV,aY⟩:=FC (P:=P) aj aa es ents 0 r he h
   obtain⟨l,rfl,aq⟩:=aa
   refine⟨r',?_,aY⟩
   have aI:∀(ms:List MapEntry),ms≠[]->Instr.findNow u (.agg ⟨l⟩) ms 0=none:=λms qm=>by
    cases ms with
    |nil=>exact absurd rfl qm
    |cons m ms=>cases u<;>rfl
   cases ents with
   |nil=>
    cases es with
    |nil=>simp only[kb] at h;cases h;cases r' with
     |none=>simp[Instr.findKey,bN hu,Instr.findNow]
     |some y=>exact aY.elim
    |cons e es=>obtain⟨_,_,ag,_⟩:=he;cases ag
   |cons m ms=>
    simp only[Instr.findKey,Sem.run_bind,bN hu,Result.andThen_ok,aI (m::ms) (by simp)]
    exact aV
theorem fx.append:∀{es cc:List fm} {ms aJ:List MapEntry},fx μ es ms->fx μ cc aJ->fx μ (es++cc) (ms++aJ)
 |[],_,_,_,h,an=>by cases h;exact an
 |_::_,_,_,_,⟨m,ms,e,aa,ad⟩,an=>by subst e;exact⟨m,ms++_,rfl,aa,fx.append ad an⟩
theorem fx.get:∀{es:List fm} {ms:List MapEntry} (_:fx μ es ms) {j:Nat} {e:fm},es[j]? =some e->∃m,ms[j]? =some m/\tA μ e m
 |[],_,_,j,e,h=>by simp at h
 |x::es,_,⟨m,ms,e,aa,ad⟩,0,a,h=>by subst e;simp at h;subst h;exact⟨m,rfl,aa⟩
 |x::es,_,⟨m,ms,e,aa,ad⟩,j+1,a,h=>by subst e;simp at h;simpa using fx.get ad h
theorem fx.set{v key:I}{vv kv:Value}(aC:a9 μ v vv)(av:a9 μ key kv):∀(i:Nat) {es:List fm} {ms:List MapEntry},fx μ es ms->fx μ (rz v key i es) (ms.modify i λe=>{e with key:=kv,val:=vv})
 |0,[],_,h=>by cases h;rfl
 |_+1,[],_,h=>by cases h;rfl
 |0,e::es,_,⟨m,ms,cR,aa,ad⟩=>by subst cR;exact⟨_,ms,rfl,⟨av,aC,aa.2.2⟩,ad⟩
 |i+1,e::es,_,⟨m,ms,cR,aa,ad⟩=>by subst cR;exact⟨m,_,rfl,aa,fx.set aC av i ad⟩
theorem fx.del:∀(i:Nat) {es:List fm} {ms:List MapEntry},fx μ es ms->fx μ (AH i es) (ms.eraseIdx i)
 |0,[],_,h=>by cases h;rfl
 |_+1,[],_,h=>by cases h;rfl
 |0,e::es,_,⟨m,ms,cR,aa,ad⟩=>by subst cR;exact ad
 |i+1,e::es,_,⟨m,ms,cR,aa,ad⟩=>by subst cR;exact⟨m,_,rfl,aa,fx.del i ad⟩
theorem vN{r:Nat}{i:dY}{es:List fm}{clock:Nat}(aj:bn μ H w)(ae:μ r=some i)(ak:H.get r=some (.map es clock)):∃ents,w.heap[i.bb]? =some (.map ⟨ents⟩ clock)/\fx μ es ents/\(getObj i.bb).run P w=.ok (.map ⟨ents⟩ clock) w:=by
 obtain⟨ents,ax,ay⟩:=aj.rel _ _ i ak ae
 exact⟨ents,ax,ay,by simp[getObj,Sem.run,ax]⟩
theorem rR{r:Nat}{i:dY}{es qn:List fm}{clock c':Nat}{ents ents':List MapEntry}(aj:bn μ H w)(ae:μ r=some i)(ak:H.get r=some (.map es clock))(he:w.heap[i.bb]? =some (.map ⟨ents⟩ clock))(ai:fx μ qn ents'):
  ∃w',(setObj i.bb (.map ⟨ents'⟩ c')).run P w=.ok () w'/\bn μ (H.set r (some (.map qn c'))) w'/\b5 μ H w μ (H.set r (some (.map qn c'))) w':=by
 have cu:i.bb<w.heap.size:=(aj.lt _ _ ae).2
 obtain⟨r1,r2⟩:=aj.update (w':={w with heap:=w.heap.setIfInBounds i.bb (.map ⟨ents'⟩ c')}) (o':=.map qn c') ak rfl ae (by simp) (λr ai=>by simp[Array.getElem?_setIfInBounds];intro e;exact absurd e.symm ai) rfl rfl rfl
  ⟨ents',by simp[cu],ai⟩
 exact⟨_,by simp[setObj,Sem.run,he],r1,r2⟩
end
end aB
namespace aB
open Go
section
variable {P:Program} {μ:bg} {H:J} {w:World}
theorem FF{hN:TypeId}{ok:Bool}{r:Option (Nat×I)}{r':Option (Nat×Value)}(ai:yw μ r r'){v:I}(h:vh P hN ok r=some v):
  ∃u b,a9 μ v (if ok then .tuple #[u,.bool b] else u)/\((∃j,r'=some (j,u)/\b=true)\/(r'=none/\(zeroValue hN).run P w=.ok u w/\b=false)):=by
 cases r with
 |none=>
  cases r' with
  |some x=>exact ai.elim
  |none=>
   simp only[vh] at h
   split at h
   · rename_i z a4
     cases h
     obtain⟨e9,aV,rfl,_⟩:=k_ (P:=P) (w:=w) a4
     have:=jw μ e9
     refine⟨e9,false,?_,.inr ⟨rfl,aV,rfl⟩⟩
     cases ok
     · exact this
     · exact⟨_,rfl,_,_,rfl,this,_,_,rfl,rfl,rfl⟩
   · cases h
 |some x=>
  cases r' with
  |none=>exact ai.elim
  |some y=>
   obtain⟨i,a⟩:=x
   obtain⟨j,u⟩:=y
   obtain⟨rfl,tH⟩:=ai
   simp only[vh] at h
   cases h
   refine⟨u,true,?_,.inl ⟨_,rfl,rfl⟩⟩
   cases ok
   · exact tH
   · exact⟨_,rfl,_,_,rfl,tH,_,_,rfl,rfl,rfl⟩
theorem MN(aj:bn μ H w){t:TypeId}{m k:I}{ld kv:Value}(hm:a9 μ m ld)(av:a9 μ k kv){ok:Bool}{v:I}(h:x0 P H t m k ok=some v):eT P μ H w (Instr.lookup t ld kv ok) v H:=by
 unfold x0 at h
 split at h
 · rename_i cX hN hu
   split at h
   · rename_i ih
     split at h
     · cases hm
       obtain⟨u,b,aV,aY⟩:=FF (P:=P) (w:=w) (μ:=μ) (r:=none) (r':=none) trivial h
       refine .same aj (v':=if ok then .tuple #[u,.bool b] else u) ?_ aV
       have hf:(Instr.findKey cX kv []).run P w=.ok none w:=by
        obtain⟨r',c9,dJ⟩:=ql (P:=P) (w:=w) (μ:=μ) (es:=[]) (ents:=[]) (r:=none) aj ih av rfl rfl
        cases r' with
        |none=>exact c9
        |some x=>exact dJ.elim
       rcases aY with⟨j,e,_⟩|⟨_,aY,rfl⟩
       · cases e
       · simp[Instr.lookup,bN hu,oa ih av,hf,aY]
     · rename_i r
       split at h
       · rename_i es clock ak
         split at h
         · rename_i cz hf
           obtain⟨i,ae,rfl⟩:=hm
           obtain⟨ents,ax,ay,bF⟩:=vN (P:=P) aj ae ak
           obtain⟨r',c9,dJ⟩:=ql (P:=P) (w:=w) aj ih av ay hf
           obtain⟨u,b,aV,aY⟩:=FF (P:=P) (w:=w) (μ:=μ) dJ h
           refine .same aj (v':=if ok then .tuple #[u,.bool b] else u) ?_ aV
           rcases aY with⟨j,rfl,rfl⟩|⟨rfl,aY,rfl⟩
           · simp[Instr.lookup,bN hu,oa ih av,bF,c9]
           · simp[Instr.lookup,bN hu,oa ih av,bF,c9,aY]
         · cases h
       · cases h
     · cases h
   · cases h
 · cases h
theorem FG{k x:I}{kv br:Value}(n:Nat)(h:oT k x=some true)(aa:a9 μ k kv)(ad:a9 μ x br):Instr.sameBits n br kv=true:=by
 cases k<;>cases x<;>simp only[oT] at h<;>try cases h
 · simp at h;subst h;cases aa;cases ad;simp[Instr.sameBits]
 · split at h
   · rename_i e;subst e
     simp[a0] at h;subst h;cases aa;cases ad;simp[Instr.sameBits]
   · cases h
 · simp only[Option.some.injEq] at h
   obtain⟨s1,rfl,rfl⟩:=aa
   obtain⟨s2,rfl,rfl⟩:=ad
   rw[n8,<-qc,<-qc,<-beq_toListBytes] at h
   have:(s2==s1)=true:=by rw[beq_toListBytes] at h⊢;rw[beq_iff_eq] at h⊢;exact h.symm
   simpa[Instr.sameBits] using this
theorem FH(n:Nat):∀(a b:List I) (rS o4:List Value),ve a b=true->b4 μ a rS->b4 μ b o4->o4.length=rS.length/\(o4.zip rS).all (λ(x,y)=>Instr.sameBits n x y)=true
 |[],[],rS,o4,_,aa,ad=>by cases aa;cases ad;exact⟨rfl,rfl⟩
 |[],_::_,_,_,h,_,_=>by cases h
 |_::_,[],_,_,h,_,_=>by cases h
 |x::a,y::b,_,_,h,⟨u,us,rfl,ig,qo⟩,⟨v,vs,rfl,v1,v2⟩=>by
  unfold ve at h
  split at h
  · rename_i hs
    obtain⟨ax,ay⟩:=FH n a b us vs h qo v2
    refine⟨by simp[ax],?_⟩
    rw[List.zip_cons_cons,List.all_cons,ay,Bool.and_true]
    exact FG n hs ig v1
  · cases h
theorem FI{cX:TypeId}{k x:I}{kv br:Value}(h:vf P H cX k x=some true)(cf:pZ k x=true)(aa:a9 μ k kv)(ad:a9 μ x br):Instr.sameBits 10000 br kv=true:=by
 by_cases hs:∀cs,k≠ .agg cs
 · rw[Fz hs] at h
   exact FG 10000 h aa ad
 · have:∃cs,k=.agg cs:=by
     cases k<;>first|exact⟨_,rfl⟩|exact absurd (λcs h=>by cases h) hs
   obtain⟨a,rfl⟩:=this
   have:∃b,x=.agg b:=by
    cases x<;>first|exact⟨_,rfl⟩|cases cf
   obtain⟨b,rfl⟩:=this
   obtain⟨rS,rfl,qo⟩:=aa
   obtain⟨o4,rfl,v2⟩:=ad
   have MO:ve a b=true:=cf
   obtain⟨ax,ay⟩:=FH (μ:=μ) 9999 a b rS o4 MO qo v2
   show Instr.sameBits (9999+1) (.agg ⟨o4⟩) (.agg ⟨rS⟩)=true
   generalize 9999=n at ay⊢
   simp only[Instr.sameBits]
   rw[ay,Bool.and_true]
   simp[ax]
theorem Ba(l:List MapEntry)(i:Nat)(f:MapEntry->MapEntry):(⟨l⟩:Array MapEntry).modify i f=⟨l.modify i f⟩:=by
 apply Array.ext'
 simp
theorem FJ(aj:bn μ H w){t:TypeId}{m k x:I}{ld kv br:Value}(hm:a9 μ m ld)(av:a9 μ k kv)(ab:a9 μ x br){aT:J}(h:ts P H t m k x=some aT):
  ∃w',(Instr.mapUpdate t ld kv br).run P w=.ok () w'/\bn μ aT w'/\b5 μ H w μ aT w':=by
 unfold ts at h
 split at h
 · rename_i cX hN hu
   split at h
   · rename_i ih
     split at h
     · rename_i r
       split at h
       · rename_i es clock ak
         obtain⟨i,ae,rfl⟩:=hm
         obtain⟨ents,ax,ay,bF⟩:=vN (P:=P) aj ae ak
         split at h
         · rename_i j a hf
           have rT:pZ k (vg j es)=true:=by
            cases ag:pZ k (vg j es) with
            |true=>rfl
            |false=>rw[ag] at h;cases h
           rw[rT] at h
           cases h
           obtain⟨r',c9,dJ⟩:=ql (P:=P) (w:=w) aj ih av ay hf
           cases r' with
           |none=>exact dJ.elim
           |some y=>
            obtain⟨iP,u⟩:=y
            obtain⟨rfl,tH⟩:=dJ
            obtain⟨_,lf,aV,aY,cw⟩:=A8 es 0 j a hf
            obtain⟨lT,eO,fY⟩:=ay.get (by simpa using aV)
            have rT:pZ k lf.key=true:=by
             have:vg j es=lf.key:=by unfold vg;rw[o2,show es[j]? =some lf by simpa using aV]
             rw[<-this];exact rT
            have cf:(Instr.keyThatStays (((ents[j]?).map (·.key)).getD kv) kv).run P w=.ok kv w:=by
             simp only[Instr.keyThatStays,eO,Option.map_some,Option.getD_some,FI cw rT av fY.1,if_true,Sem.run_pure]
            obtain⟨w',dn,fj,jU⟩:=rR (P:=P) (c':=clock) aj ae ak ax (ay.set ab av j)
            refine⟨w',?_,fj,jU⟩
            simp only[Instr.mapUpdate,Sem.run_bind,bN hu,Result.andThen_ok,bF,oa ih av,c9,List.getElem?_toArray,cf,Ba,dn]
         · rename_i hf
           cases h
           obtain⟨r',c9,dJ⟩:=ql (P:=P) (w:=w) aj ih av ay hf
           cases r' with
           |some y=>exact dJ.elim
           |none=>
            obtain⟨w',dn,fj,jU⟩:=rR (P:=P) (c':=clock+1) (ents':=ents++[⟨kv,br,clock⟩]) aj ae ak ax (ay.append (show fx μ [⟨k,x,clock⟩] [⟨kv,br,clock⟩] from⟨_,_,rfl,⟨av,ab,rfl⟩,rfl⟩))
            refine⟨w',?_,fj,jU⟩
            simp only[Instr.mapUpdate,Sem.run_bind,bN hu,Result.andThen_ok,bF,oa ih av,c9,List.push_toArray,dn]
         · cases h
       · cases h
     · cases h
   · cases h
 · cases h
theorem MP(aj:bn μ H w){t:TypeId}{m k:I}{ld kv:Value}(hm:a9 μ m ld)(av:a9 μ k kv){v:I}{aT:J}(h:x1 P H t m k=some (v,aT)):eT P μ H w (Instr.mapEntry t ld kv) v aT:=by
 unfold x1 at h
 split at h
 · rename_i cX hN hu
   split at h
   · rename_i ih
     split at h
     · rename_i r
       split at h
       · rename_i es clock ak
         obtain⟨i,ae,rfl⟩:=hm
         obtain⟨ents,ax,ay,bF⟩:=vN (P:=P) aj ae ak
         split at h
         · rename_i j a hf
           split at h
           · rename_i lf o5
             have rT:pZ k lf.key=true:=by
              cases ag:pZ k lf.key with
              |true=>rfl
              |false=>rw[ag] at h;cases h
             rw[rT] at h
             cases h
             rw[o2] at o5
             obtain⟨r',c9,dJ⟩:=ql (P:=P) (w:=w) aj ih av ay hf
             cases r' with
             |none=>exact dJ.elim
             |some y=>
              obtain⟨iP,u⟩:=y
              obtain⟨rfl,tH⟩:=dJ
              obtain⟨_,FK,aV,aY,cw⟩:=A8 es 0 j a hf
              have:FK=lf:=by
               have FL:es[j]? =some FK:=by simpa using aV
               rw[o5] at FL;cases FL;rfl
              subst this
              obtain⟨lT,eO,fY⟩:=ay.get o5
              have cf:(Instr.keyThatStays (((ents[j]?).map (·.key)).getD kv) kv).run P w=.ok kv w:=by
               simp only[Instr.keyThatStays,eO,Option.map_some,Option.getD_some,FI cw rT av fY.1,if_true,Sem.run_pure]
              have Bb:fx μ (rz a k j es) (ents.modify j λe=>{e with key:=kv}):=by
               have hs:=ay.set (v:=a) (vv:=lT.val) (key:=k) (kv:=kv) (by rw[<-aY];exact fY.2.1) av j
               have:(ents.modify j λe=>{e with key:=kv,val:=lT.val})=(ents.modify j λe=>{e with key:=kv}):=by
                apply List.ext_getElem?
                intro q
                rw[List.getElem?_modify,List.getElem?_modify]
                by_cases bp:j=q
                · subst bp;rw[eO];simp
                · simp[bp]
               rw[<-this];exact hs
              obtain⟨w',dn,fj,jU⟩:=rR (P:=P) (c':=clock) aj ae ak ax Bb
              refine⟨μ,w',.tuple #[u,.int .i64 (lT.born:Int)],?_,⟨_,rfl,_,_,rfl,tH,_,_,rfl,by rw[fY.2.2];rfl,rfl⟩,fj,jU⟩
              rw[eO,Option.map_some,Option.getD_some] at cf
              simp only[Instr.mapEntry,Sem.run_bind,bN hu,Result.andThen_ok,bF,oa ih av,c9,List.getElem?_toArray,eO,Option.map_some,Option.getD_some,cf,Ba,dn,goInt,Sem.run_pure]
           · cases h
         · rename_i hf
           split at h
           · rename_i z a4
             cases h
             obtain⟨e9,vO,rfl,_⟩:=k_ (P:=P) (w:=w) a4
             obtain⟨r',c9,dJ⟩:=ql (P:=P) (w:=w) aj ih av ay hf
             cases r' with
             |some y=>exact dJ.elim
             |none=>
              obtain⟨w',dn,fj,jU⟩:=rR (P:=P) (c':=clock+1) (ents':=ents++[⟨kv,e9,clock⟩]) aj ae ak ax (ay.append (show fx μ [⟨k,nc e9,clock⟩] [⟨kv,e9,clock⟩] from⟨_,_,rfl,⟨av,jw μ e9,rfl⟩,rfl⟩))
              refine⟨μ,w',.tuple #[e9,.int .i64 (clock:Int)],?_,⟨_,rfl,_,_,rfl,jw μ e9,_,_,rfl,rfl,rfl⟩,fj,jU⟩
              simp only[Instr.mapEntry,Sem.run_bind,bN hu,Result.andThen_ok,bF,oa ih av,c9,vO,List.push_toArray,dn,goInt,Sem.run_pure]
           · cases h
         · cases h
       · cases h
     · cases h
   · cases h
 · cases h
theorem FM{born:Int}:∀(es:List fm) (ents:List MapEntry) (i j:Nat) (e:fm),fx μ es ents->vi born es i=some (j,e)->i<=j/\es[j-i]? =some e/\ents.findIdx? (λm=>(m.born:Int)==born)=some (j-i)
 |[],_,i,j,e,_,h=>by simp[vi] at h
 |x::es,_,i,j,e,⟨m,ms,ax,ay,bF⟩,h=>by
  subst ax
  simp only[vi] at h
  have af:a0 (Int.ofNat x.born) born=((m.born:Int)==born):=by rw[ay.2.2];rfl
  split at h
  · rename_i hs
    cases h
    rw[af] at hs
    exact⟨Nat.le_refl _,by simp,by simp[List.findIdx?_cons,hs]⟩
  · rename_i hs
    rw[af] at hs
    obtain⟨aV,aY,cw⟩:=FM es ms (i+1) j e bF h
    have:j-i=(j-(i+1))+1:=by omega
    refine⟨by omega,by rw[this];simpa using aY,?_⟩
    rw[this]
    simp[List.findIdx?_cons,hs,cw]
theorem MQ(aj:bn μ H w){t:TypeId}{m s x:I}{ld mJ br:Value}(hm:a9 μ m ld)(hs:a9 μ s mJ)(ab:a9 μ x br){aT:J}(h:x2 H m s x=some aT):
  ∃w',(Instr.entryStore t ld mJ br).run P w=.ok () w'/\bn μ aT w'/\b5 μ H w μ aT w':=by
 unfold x2 at h
 split at h
 · rename_i r bV born
   split at h
   · rename_i es clock ak
     split at h
     · rename_i j lf af
       cases h
       cases hs
       obtain⟨i,ae,rfl⟩:=hm
       obtain⟨ents,ax,ay,bF⟩:=vN (P:=P) aj ae ak
       obtain⟨_,aV,aY⟩:=FM es ents 0 j lf ay af
       obtain⟨lT,eO,fY⟩:=ay.get (by simpa using aV)
       have Bb:fx μ (rz x lf.key j es) (ents.modify j λe=>{e with val:=br}):=by
        have hs:=ay.set (v:=x) (vv:=br) (key:=lf.key) (kv:=lT.key) ab fY.1 j
        have:(ents.modify j λe=>{e with key:=lT.key,val:=br})=(ents.modify j λe=>{e with val:=br}):=by
         apply List.ext_getElem?
         intro q
         rw[List.getElem?_modify,List.getElem?_modify]
         by_cases bp:j=q
         · subst bp;rw[eO];simp
         · simp[bp]
        rw[<-this];exact hs
       obtain⟨w',dn,fj,jU⟩:=rR (P:=P) (c':=clock) aj ae ak ax Bb
       refine⟨w',?_,fj,jU⟩
       have o6:(⟨ents⟩:Array MapEntry).findIdx? (λe=>(e.born:Int)==born)=some j:=by
        have:=aY
        simp only[Nat.sub_zero] at this
        rw[<-this];simp
       simp only[Instr.entryStore,Sem.run_bind,Result.andThen_ok,bF,asInt,asIntOf,Sem.run_pure,o6,Ba,dn]
     · cases h
   · cases h
 · cases h
theorem MR(aj:bn μ H w){argTypes:Array TypeId}{ty t:TypeId}(h0:argTypes[0]? =some t){m k:I}{ld kv:Value}(hm:a9 μ m ld)(av:a9 μ k kv){v:I}{aT:J}(h:x3 P H t m k=some (v,aT)):
  eT P μ H w (Builtin.delete_ argTypes ty #[ld,kv]) v aT:=by
 unfold x3 at h
 split at h
 · rename_i cX hN hu
   split at h
   · rename_i ih
     split at h
     · cases h;cases hm
       refine .same aj (v':=.tuple #[]) ?_ ⟨[],rfl,rfl⟩
       simp[Builtin.delete_,h0,bN hu,oa ih av]
     · rename_i r
       split at h
       · rename_i es clock ak
         obtain⟨i,ae,rfl⟩:=hm
         obtain⟨ents,ax,ay,bF⟩:=vN (P:=P) aj ae ak
         split at h
         · rename_i j a hf
           cases h
           obtain⟨r',c9,dJ⟩:=ql (P:=P) (w:=w) aj ih av ay hf
           cases r' with
           |none=>exact dJ.elim
           |some y=>
            obtain⟨iP,u⟩:=y
            obtain⟨rfl,tH⟩:=dJ
            obtain⟨w',dn,fj,jU⟩:=rR (P:=P) (c':=clock) aj ae ak ax (ay.del j)
            refine⟨μ,w',.tuple #[],?_,⟨[],rfl,rfl⟩,fj,jU⟩
            have he:(⟨ents⟩:Array MapEntry).eraseIdxIfInBounds j=⟨ents.eraseIdx j⟩:=by
             apply Array.ext'
             simp
            simp[Builtin.delete_,h0,bN hu,oa ih av,bF,c9,he,dn]
         · rename_i hf
           cases h
           obtain⟨r',c9,dJ⟩:=ql (P:=P) (w:=w) aj ih av ay hf
           cases r' with
           |some y=>exact dJ.elim
           |none=>
            obtain⟨w',dn,fj,jU⟩:=rR (P:=P) (c':=clock) aj ae ak ax ay
            refine⟨μ,w',.tuple #[],?_,⟨[],rfl,rfl⟩,fj,jU⟩
            simp[Builtin.delete_,h0,bN hu,oa ih av,bF,c9,dn]
         · cases h
       · cases h
     · cases h
   · cases h
 · cases h
theorem MS(aj:bn μ H w){t:TypeId}:eT P μ H w (Instr.makeMap t none) (.map H.n) (H.push (.map [] 0)):=by
 obtain⟨r1,r2⟩:=aj.alloc (.map [] 0) (.map #[] 0) 0 ⟨[],World.heap_alloc_new _ _,rfl⟩
 exact⟨_,_,.map (some w.heap.size),rfl,⟨_,fI _ _ _,rfl⟩,r1,r2⟩
theorem MT(aj:bn μ H w){t cX hN:TypeId}{k:IntKind}{n:Int}(hu:P.underlying t=some (.map cX hN)):eT P μ H w (Instr.makeMap t (some (.int k n))) (.map H.n) (H.push (.map [] 0)):=by
 obtain⟨r1,r2⟩:=aj.alloc (.map [] 0) (.map #[] 0) 0 ⟨[],World.heap_alloc_new _ _,rfl⟩
 refine⟨_,_,.map (some w.heap.size),?_,⟨_,fI _ _ _,rfl⟩,r1,r2⟩
 simp only[Instr.makeMap,Sem.run_bind,bN hu,Result.andThen_ok,asInt,asIntOf,Sem.run_pure,run_newObj]
 rfl
theorem MU(aj:bn μ H w){t:TypeId}(hu:P.underlying t=some .string){s:List UInt8}{br:Value}(ab:a9 μ (.str s) br):eT P μ H w (Instr.range t br) (.ptr H.n 0) (H.push (.nY s 0)):=by
 obtain⟨bs,rfl,rfl⟩:=ab
 obtain⟨r1,r2⟩:=aj.alloc (.nY bs.data.toList 0) (.stringIter bs 0) 0 ⟨rfl,bs,World.heap_alloc_new _ _,rfl⟩
 refine⟨_,_,.pointer (some ⟨w.heap.size,0,none⟩),?_,⟨_,fI _ _ _,rfl⟩,r1,r2⟩
 simp only[Instr.range,Sem.run_bind,bN hu,Result.andThen_ok,Sem.run_pure,run_newObj]
 rfl
theorem MV(aj:bn μ H w){t cX hN:TypeId}(hu:P.underlying t=some (.map cX hN)){br:Value}(ab:a9 μ .gU br):eT P μ H w (Instr.range t br) (.ptr H.n 0) (H.push (.mapIter none 0 [] 0)):=by
 cases ab
 obtain⟨r1,r2⟩:=aj.alloc (.mapIter none 0 [] 0) (.mapIter none 0 #[] 0) 0 ⟨rfl,World.heap_alloc_new _ _⟩
 refine⟨_,_,.pointer (some ⟨w.heap.size,0,none⟩),?_,⟨_,fI _ _ _,rfl⟩,r1,r2⟩
 simp only[Instr.range,Sem.run_bind,bN hu,Result.andThen_ok,Sem.run_pure,run_newObj]
 rfl
def MW(at':Nat->Nat)(lt:Nat->Bool):Nat×Nat:=
 let cont (k:Nat):Bool:=lt k&&at' k/64==2
 let cE:=at' 0
 if cE<0x80 then(cE,1)
 else if cE/32==6&&cont 1 then
  let c:=(cE %32)*64+at' 1 %64
  if c>=0x80 then(c,2) else(Utf8.runeError,1)
 else if cE/16==14&&cont 1&&cont 2 then
  let c:=(cE %16)*4096+(at' 1 %64)*64+at' 2 %64
  if c>=0x800&&Utf8.valid c then(c,3) else(Utf8.runeError,1)
 else if cE/8==30&&cont 1&&cont 2&&cont 3 then
  let c:=(cE %8)*262144+(at' 1 %64)*4096+(at' 2 %64)*64+at' 3 %64
  if c>=0x10000&&Utf8.valid c then(c,4) else(Utf8.runeError,1)
 else(Utf8.runeError,1)
theorem FN(s:ByteArray)(i:Nat):Utf8.decode s i=MW (λk=>(s.get! (i+k)).toNat) (λk=>decide (i+k<s.size)):=rfl
theorem MX(full:ByteArray)(pos:Nat)(a_:pos<=full.size):Utf8.decode full pos=Utf8.decode ⟨(full.data.toList.drop pos).toArray⟩ 0:=by
 have kF:full.data.toList.length=full.size:=Array.length_toList
 have bH:(⟨(full.data.toList.drop pos).toArray⟩:ByteArray).size=full.size-pos:=by
  show((full.data.toList.drop pos).toArray).size=_
  rw[List.size_toArray,List.length_drop,kF]
 have fi:∀k,full.get! (pos+k)=(⟨(full.data.toList.drop pos).toArray⟩:ByteArray).get! (0+k):=λk=>by
  show full.data[pos+k]! =((full.data.toList.drop pos).toArray)[0+k]!
  rw[Nat.zero_add]
  rw[getElem!_def,getElem!_def]
  have:((full.data.toList.drop pos).toArray)[k]? =full.data[pos+k]? :=by
   rw[List.getElem?_toArray,List.getElem?_drop,Array.getElem?_toList]
  rw[this]
 rw[FN,FN]
 have ba:(λk=>(full.get! (pos+k)).toNat)=(λk=>((⟨(full.data.toList.drop pos).toArray⟩:ByteArray).get! (0+k)).toNat):=by
  funext k;rw[fi k]
 have af:(λk=>decide (pos+k<full.size))=(λk=>decide (0+k<(⟨(full.data.toList.drop pos).toArray⟩:ByteArray).size)):=by
  funext k
  exact decide_eq_decide.2 (by rw[bH];omega)
 rw[ba,af]
theorem MY(aj:bn μ H w){t:TypeId}{it:I}{vP:Value}(ae:a9 μ it vP){b:Bool}{v:I}{aT:J}(h:x4 H it b=some (v,aT)):eT P μ H w (Instr.next vP b t) v aT:=by
 unfold x4 at h
 split at h
 · rename_i r
   obtain⟨i,h2,rfl⟩:=ae
   split at h
   · rename_i s pos ak
     obtain⟨dt,full,ax,ay⟩:=aj.rel _ _ i ak h2
     obtain⟨iw,i0,yx⟩:=i
     simp only at dt;subst dt
     have fi:(getObj iw).run P w=.ok (.stringIter full pos) w:=by simp[getObj,Sem.run,ax]
     have kF:full.data.toList.length=full.size:=Array.length_toList
     have FO:=congrArg List.length ay
     rw[List.length_drop,kF] at FO
     split at h
     · cases h
       have aI:¬pos<full.size:=by simp at FO;omega
       exact .same aj (v':=.tuple #[.bool false]) (by simp[Instr.next,fi,aI]) ⟨_,rfl,_,_,rfl,rfl,rfl⟩
     · rename_i dk
       have cu:pos<full.size:=by
        rcases Nat.lt_or_ge pos full.size with h|h
        · exact h
        · exfalso;apply dk
          exact List.length_eq_zero_iff.1 (by omega)
       have FP:Utf8.decode full pos=AI s:=by rw[MX full pos (by omega),ay];rfl
       generalize AI s=MZ at FP h
       obtain⟨c,wd⟩:=MZ
       cases h
       have M0:iw<w.heap.size:=(aj.lt _ _ h2).2
       obtain⟨r1,r2⟩:=aj.update (w':={w with heap:=w.heap.setIfInBounds iw (.stringIter full (pos+wd))}) (o':=.nY (ho wd s) (pos+wd)) ak rfl h2 (by simp) (λr ai=>by simp[Array.getElem?_setIfInBounds];intro e;exact absurd e.symm ai) rfl rfl rfl
        ⟨rfl,full,by simp[M0],by rw[mE,<-ay,List.drop_drop]⟩
       refine⟨μ,_,.tuple #[.bool true,.int .i64 (pos:Int),.int .i32 (c:Int)],?_,⟨_,rfl,_,_,rfl,rfl,_,_,rfl,rfl,_,_,rfl,rfl,rfl⟩,r1,r2⟩
       have rU:(setObj iw (.stringIter full (pos+wd))).run P w=.ok () {w with heap:=w.heap.setIfInBounds iw (.stringIter full (pos+wd))}:=by simp[setObj,Sem.run,ax]
       simp[Instr.next,fi,cu,FP,rU,goInt]
   · rename_i since seen last ak
     cases h
     obtain⟨dt,ax⟩:=aj.rel _ _ i ak h2
     obtain⟨iw,i0,yx⟩:=i
     simp only at dt;subst dt
     have rV:w.heap[iw]? =some (.mapIter none since ⟨seen⟩ last):=ax
     have fi:(getObj iw).run P w=.ok (.mapIter none since ⟨seen⟩ last) w:=by simp[getObj,Sem.run,rV]
     exact .same aj (v':=.tuple #[.bool false]) (by simp[Instr.next,fi]) ⟨_,rfl,_,_,rfl,rfl,rfl⟩
   · cases h
 · cases h
theorem FQ:∀(es:List fm) (ms:List MapEntry) (b:Nat) (e:fm),fx μ es ms->vj b es=some e->∃m,ms.find? (λx=>x.born==b)=some m/\tA μ e m
 |[],ms,b,e,ai,h=>by simp[vj] at h
 |x::es,ms,b,e,ai,h=>by
  obtain⟨m,M1,rfl,aa,ad⟩:=ai
  unfold vj at h
  rw[List.find?_cons,<-aa.2.2]
  cases af:Nat.beq x.born b with
  |true=>
   rw[af] at h
   cases h
   have:x.born=b:=Nat.eq_of_beq_eq_true af
   rw[this]
   simp only[beq_self_eq_true]
   exact⟨m,rfl,aa⟩
  |false=>
   rw[af] at h
   have:(x.born==b)=false:=by
    cases ag:x.born==b with
    |false=>rfl
    |true=>rw[beq_iff_eq.1 ag] at af;rw[Nat.beq_refl] at af;cases af
   rw[this]
   exact FQ es M1 b e ad h
theorem FR:∀(l:List Nat),x5 l=l.getLast?
 |[]=>rfl
 |[b]=>rfl
 |a::b::l=>by
  show x5 (b::l)=_
  rw[FR (b::l),List.getLast?_cons_cons]
theorem M3(aj:bn μ H w){it:I}{vP:Value}(ae:a9 μ it vP){v:I}(h:x6 H it=some v):eT P μ H w (Instr.entry vP) v H:=by
 unfold x6 at h
 split at h
 · rename_i r
   obtain⟨i,h2,rfl⟩:=ae
   split at h
   · rename_i m since seen last ak
     obtain⟨dt,j,aG,ax⟩:=aj.rel _ _ i ak h2
     obtain⟨iw,i0,yx⟩:=i
     simp only at dt;subst dt
     have rV:w.heap[iw]? =some (.mapIter (some j.bb) since ⟨seen⟩ last):=ax
     split at h
     · rename_i es clock b Bc M4
       obtain⟨ents,f1,f2⟩:=aj.rel _ _ j Bc aG
       split at h
       · rename_i ft
         have ft:clock=last:=Nat.eq_of_beq_eq_true ft
         split at h
         · rename_i e M5
           cases h
           obtain⟨Bd,al,ar⟩:=FQ es ents b e f2 M5
           have fi:(getObj iw).run P w=.ok (.mapIter (some j.bb) since ⟨seen⟩ last) w:=by simp[getObj,Sem.run,rV]
           have M6:(getObj j.bb).run P w=.ok (.map ⟨ents⟩ clock) w:=by simp[getObj,Sem.run,f1]
           have M7:(⟨seen⟩:Array Nat).back?=some b:=by
            rw[<-M4,FR];simp
           have vQ:(⟨ents⟩:Array MapEntry).find? (λx=>x.born==b)=some Bd:=by rw[<-al];simp
           refine .same aj (v':=.tuple #[Bd.key,Bd.val]) ?_ ⟨_,rfl,_,_,rfl,ar.1,_,_,rfl,ar.2.1,rfl⟩
           have dk:(clock !=last)=false:=by simp[ft]
           simp only[Instr.entry,Sem.run_bind,fi,Result.andThen_ok,M7,M6,dk,Bool.false_eq_true,if_false,vQ]
           rfl
         · cases h
       · cases h
     · cases h
   · cases h
 · cases h
end
end aB
namespace aB
open Go
section
variable {P:Program} {μ:bg} {H:J} {w:World}
theorem M8(k:IntKind)(x y:Int){v:I}(h:arith .xor k x y=some v):∃u,(Op.intBits .xor k x y).run P w=.ok u w/\a9 μ v u:=by
 simp only[arith] at h;cases h;exact⟨_,rfl,rfl⟩
theorem M9{x:Value}{b:Bool}(ab:a9 μ (.bool b) x):∃u,(Op.unary .not x).run P w=.ok u w/\a9 μ (.bool (!b)) u:=by
 cases ab;exact⟨_,rfl,rfl⟩
theorem M_{x:Value}{k:IntKind}{n:Int}(ab:a9 μ (.int k n) x):∃u,(Op.unary .neg x).run P w=.ok u w/\a9 μ (.int k (k.wrap (0-n))) u:=by
 cases ab;exact⟨_,rfl,rfl⟩
theorem Na{x:Value}{k:IntKind}{n:Int}{v:I}(ab:a9 μ (.int k n) x)(h:arith .xor k (if k.signed then-1 else k.max) n=some v):∃u,(Op.unary .xor x).run P w=.ok u w/\a9 μ v u:=by
 cases ab;exact M8 k _ n h
def rW:Value->Bool
 |.int _ _|.float _ _|.complex _ _ _|.string _=>true
 |_=>false
theorem binOp_eql(t:TypeId){x y:Value}(h:rW x=false):binOp .eql t x y=(do pure (.bool (<-Op.equal t x y))):=by
 cases x<;>simp[rW] at h<;>cases y<;>rfl
theorem binOp_neq(t:TypeId){x y:Value}(h:rW x=false):binOp .neq t x y=(do pure (.bool (!(<-Op.equal t x y)))):=by
 cases x<;>simp[rW] at h<;>cases y<;>rfl
theorem FT:∀{d:Nat} {t:TypeId} {x y:I} {b:Bool} {br:Value},hz P H d t x y=some b->(∀j a k c,¬(x=.int j a/\y=.int k c))->(∀a c,¬(x=.str a/\y=.str c))->a9 μ x br->rW br=false:=by
 intro d t x y b br h ae hs ab
 cases d with
 |zero=>simp[hz] at h
 |succ d=>
  cases x with
  |bad=>unfold hz at h;split at h<;>simp at h
  |int j a=>
   unfold hz at h
   split at h
   all_goals first
    |(cases y<;>simp at h;done)
    |(cases y<;>simp at h;exact absurd ⟨rfl,rfl⟩ (ae _ _ _ _))
    |cases h
  |str a=>
   unfold hz at h
   split at h
   all_goals first
    |(cases y<;>simp at h;done)
    |(cases y<;>simp at h;exact absurd ⟨rfl,rfl⟩ (hs _ _))
    |cases h
  |bool b=>cases ab;rfl
  |bm=>cases ab;rfl
  |ptr b off=>obtain⟨i,_,rfl⟩:=ab;rfl
  |bf=>cases ab;rfl
  |slice b off n c=>
   obtain⟨i,_,ag⟩:=ab
   cases c with
   |exact c=>cases ag;rfl
   |aS fP=>obtain⟨c,rfl,_⟩:=ag;rfl
   |dead=>obtain⟨_,a,c,rfl⟩:=ag;rfl
  |gU=>cases ab;rfl
  |map r=>obtain⟨i,_,rfl⟩:=ab;rfl
  |e4=>cases ab;rfl
  |fn f a b=>obtain⟨_,_,rfl,_⟩:=ab;rfl
  |b8 l=>obtain⟨i,_,rfl⟩:=ab;rfl
  |ew=>cases ab;rfl
  |iface t x=>obtain⟨_,rfl,_⟩:=ab;rfl
  |agg cs=>obtain⟨_,rfl,_⟩:=ab;rfl
  |aP cs=>obtain⟨_,rfl,_⟩:=ab;rfl
theorem FU{op:BinOp}(h:op≠ .eql)(an:op≠ .neq)(t:TypeId)(jN jO:Operand)(a b:Value):(eqGuard op t jN jO a b).run P w=.ok () w:=by
 cases op<;>first|exact absurd rfl h|exact absurd rfl an|simp[eqGuard]
def qp:Value->Nat
 |.nilIface=>1
 |.agg _=>2
 |_=>0
theorem Be{op:BinOp}(fD:op=.eql\/op=.neq){t:TypeId}{jN jO:Operand}{a b:Value}(h:qp a=0\/qp a≠qp b):(eqGuard op t jN jO a b).run P w=.ok () w:=by
 rcases fD with rfl|rfl<;>(cases a<;>first|rfl|(cases b<;>first|rfl|simp[qp] at h))
def rX:I->Nat
 |.ew=>1
 |.agg _=>2
 |_=>0
theorem FV{x:I}{a:Value}(ab:a9 μ x a)(af:x≠ .bad):qp a=rX x:=by
 cases x with
 |bad=>exact absurd rfl af
 |bool b=>cases ab;rfl
 |int k n=>cases ab;rfl
 |str s=>obtain⟨_,rfl,_⟩:=ab;rfl
 |bm=>cases ab;rfl
 |ptr b off=>obtain⟨i,_,rfl⟩:=ab;rfl
 |bf=>cases ab;rfl
 |slice b off n c=>
  obtain⟨i,_,ag⟩:=ab
  cases c with
  |exact c=>cases ag;rfl
  |aS fP=>obtain⟨c,rfl,_⟩:=ag;rfl
  |dead=>obtain⟨_,a,c,rfl⟩:=ag;rfl
 |gU=>cases ab;rfl
 |map r=>obtain⟨i,_,rfl⟩:=ab;rfl
 |e4=>cases ab;rfl
 |fn f a b=>obtain⟨_,_,rfl,_⟩:=ab;rfl
 |b8 l=>obtain⟨i,_,rfl⟩:=ab;rfl
 |ew=>cases ab;rfl
 |iface t x=>obtain⟨_,rfl,_⟩:=ab;rfl
 |agg cs=>obtain⟨_,rfl,_⟩:=ab;rfl
 |aP cs=>obtain⟨_,rfl,_⟩:=ab;rfl
theorem FW{op:BinOp}(fD:op=.eql\/op=.neq){t:TypeId}{jN jO:Operand}{x y:I}{a b:Value}(ab:a9 μ x a)(a2:a9 μ y b)(FX:x≠ .bad)(Nb:y≠ .bad)(h:pY P t jN jO x y=true):
  (eqGuard op t jN jO a b).run P w=.ok () w:=by
 have FY:=FV ab FX
 have Bf:=FV a2 Nb
 by_cases ai:qp a=0\/qp a≠qp b
 · exact Be fD ai
 · have aa:rX x≠0:=λe=>ai (.inl (FY.trans e))
   have ad:rX x=rX y:=by
    rw[<-FY,<-Bf];exact Classical.byContradiction λe=>ai (.inr e)
   cases x<;>simp[rX] at aa
   · cases y<;>simp[rX] at ad
     cases ab;cases a2
     simp only[pY] at h
     rcases fD with rfl|rfl<;>(cases jN<;>cases jO<;>first|rfl|simp at h)
   · cases y<;>simp[rX] at ad
     obtain⟨bl,rfl,_⟩:=ab
     obtain⟨bB,rfl,_⟩:=a2
     simp only[pY,Bool.not_eq_true'] at h
     rcases fD with rfl|rfl<;>simp[eqGuard,h]
theorem FZ{d:Nat}{t:TypeId}{x y:I}{b:Bool}(h:hz P H d t x y=some b):x≠ .bad/\y≠ .bad:=by
 cases d with
 |zero=>simp[hz] at h
 |succ d=>
  constructor
  · rintro rfl;unfold hz at h;split at h<;>simp at h
  · rintro rfl;unfold hz at h;split at h<;>(try cases x)<;>simp at h
theorem Nc(aj:bn μ H w){op:BinOp}{t yt:TypeId}{jN jO:Operand}{x y v:I}{br fK:Value}(ab:a9 μ x br)(a2:a9 μ y fK)(h:ej P H op t jN jO x y=some v):
  ∃u,(do eqGuard op t jN jO br fK;binOp op t br fK:Sem Value).run P w=.ok u w/\a9 μ v u:=by
 unfold ej at h
 split at h
 · rename_i k a ff b
   cases ab;cases a2
   have ak:(eqGuard op t jN jO (.int k a) (.int ff b)).run P w=.ok () w:=by
    by_cases fD:op=.eql\/op=.neq
    · exact Be fD (.inl rfl)
    · exact FU (λe=>fD (.inl e)) (λe=>fD (.inr e)) t jN jO _ _
   simp only[Sem.run_bind,ak,Result.andThen_ok]
   split at h
   · exact E6 h t
   · exact E6 h t
   · rename_i aa ad
     split at h
     · rename_i av;subst av
       exact LR h ⟨aa,ad⟩ t
     · cases h
 · rename_i a b
   obtain⟨s1,rfl,rfl⟩:=ab
   obtain⟨s2,rfl,rfl⟩:=a2
   have ak:(eqGuard op t jN jO (.string s1) (.string s2)).run P w=.ok () w:=by
    by_cases fD:op=.eql\/op=.neq
    · exact Be fD (.inl rfl)
    · exact FU (λe=>fD (.inl e)) (λe=>fD (.inr e)) t jN jO _ _
   simp only[Sem.run_bind,ak,Result.andThen_ok]
   exact LU h t
 · rename_i dK lg
   split at h
   · split at h
     · rename_i di
       split at h
       · rename_i b he
         cases h
         obtain⟨a5,bt⟩:=FZ he
         have ak:=FW (w:=w) (op:=.eql) (.inl rfl) ab a2 a5 bt di
         have aI:rW br=false:=FT he (λj a k c e=>dK j a k c e.1 e.2) (λa c e=>lg a c e.1 e.2) ab
         have ai:=rP (P:=P) aj 100 t x y b br fK Op.maxDepth (by decide) he ab a2
         refine⟨.bool b,?_,rfl⟩
         simp only[Sem.run_bind,ak,Result.andThen_ok,binOp_eql t aI,Op.equal,ai,Sem.run_pure]
       · cases h
     · cases h
   · split at h
     · rename_i di
       split at h
       · rename_i b he
         cases h
         obtain⟨a5,bt⟩:=FZ he
         have ak:=FW (w:=w) (op:=.neq) (.inr rfl) ab a2 a5 bt di
         have aI:rW br=false:=FT he (λj a k c e=>dK j a k c e.1 e.2) (λa c e=>lg a c e.1 e.2) ab
         have ai:=rP (P:=P) aj 100 t x y b br fK Op.maxDepth (by decide) he ab a2
         refine⟨.bool (!b),?_,rfl⟩
         simp only[Sem.run_bind,ak,Result.andThen_ok,binOp_neq t aI,Op.equal,ai,Sem.run_pure]
       · cases h
     · cases h
   · cases h
theorem Nd{t:TypeId}{d:TypeDesc}(hu:P.underlying t=some d)(dK:∀m,d≠ .interface m){x:I}{br:Value}(ab:a9 μ x br):
  (Instr.makeInterface t br).run P w=.ok (.iface t br) w:=by
 simp only[Instr.makeInterface,Sem.run_bind,bN hu,Result.andThen_ok]
 cases d<;>first|rfl|exact absurd rfl (dK _)
theorem F0{xT as:TypeId}{ok:Bool}{d:TypeDesc}(hu:P.underlying as=some d)(dK:∀m,d≠ .interface m){x:I}{br:Value}(ab:a9 μ x br):
  (∀z,x=.ew->ok=true->ea P as=some z->∃u,(Instr.typeAssert br xT as ok).run P w=.ok u w/\a9 μ (.aP [z,.bool false]) u)/\
  (∀v,x=.iface as v->∃u,(Instr.typeAssert br xT as ok).run P w=.ok u w/\a9 μ (if ok then .aP [v,.bool true] else v) u)/\
  (∀t v z,x=.iface t v->t≠as->ok=true->ea P as=some z->∃u,(Instr.typeAssert br xT as ok).run P w=.ok u w/\a9 μ (.aP [z,.bool false]) u):=by
 refine⟨λz jV di a4=>?_,λv jV=>?_,λt v z jV dk di a4=>?_⟩
 · subst jV;cases ab;subst di
   obtain⟨e9,vO,rfl,_⟩:=k_ (P:=P) (w:=w) a4
   refine⟨.tuple #[e9,.bool false],?_,⟨_,rfl,_,_,rfl,jw μ e9,_,_,rfl,rfl,rfl⟩⟩
   simp only[Instr.typeAssert,Sem.run_bind,bN hu,Result.andThen_ok]
   cases d<;>first|exact absurd rfl (dK _)|simp[vO]
 · subst jV;obtain⟨y,rfl,a2⟩:=ab
   refine⟨if ok then .tuple #[y,.bool true] else y,?_,?_⟩
   · simp only[Instr.typeAssert,Sem.run_bind,bN hu,Result.andThen_ok]
     cases d<;>first|exact absurd rfl (dK _)|simp
   · cases ok
     · exact a2
     · exact⟨_,rfl,_,_,rfl,a2,_,_,rfl,rfl,rfl⟩
 · subst jV;obtain⟨y,rfl,a2⟩:=ab;subst di
   obtain⟨e9,vO,rfl,_⟩:=k_ (P:=P) (w:=w) a4
   refine⟨.tuple #[e9,.bool false],?_,⟨_,rfl,_,_,rfl,jw μ e9,_,_,rfl,rfl,rfl⟩⟩
   simp only[Instr.typeAssert,Sem.run_bind,bN hu,Result.andThen_ok]
   cases d<;>first|exact absurd rfl (dK _)|simp[vO,dk]
theorem Nf{vs:List I}{x:Value}{i:Nat}{v:I}(ab:a9 μ (.aP vs) x)(h:nth i vs=some v):∃u,(Instr.extract x i).run P w=.ok u w/\a9 μ v u:=by
 obtain⟨l,rfl,aq⟩:=ab
 rw[o2] at h
 obtain⟨u,hu,ai⟩:=aq.get h
 refine⟨u,?_,ai⟩
 simp[Instr.extract,hu]
theorem F1{r el:Nat}{c:Array Value}{cz:Nat×Nat}(h:w.heap[r]? =some (.cells c el cz)):(viewAt r).run P w=.ok none w:=by
 simp[viewAt,World.shape?,h]
theorem Ng(aj:bn μ H w){src dst u:TypeId}{b off n:Nat}{cs:List I}{el bk ae:Nat}{k:ey}(hs:P.underlying src=some (.pointer u))(aA:P.underlying dst=some .unsafePointer)
  (a4:dd P u=some (n+1))(ak:H.get b=some (.cells cs el k bk ae))(cu:off<cs.length){x:Value}(ab:a9 μ (.ptr b off) x):(convert src dst x).run P w=.ok x w:=by
 obtain⟨i,ae,rfl⟩:=ab
 obtain⟨c,fg,fh,ax,ay,bF,en⟩:=aj.rel _ _ i ak ae
 obtain⟨v,aC⟩:∃v,cs[off]? =some v:=⟨_,List.getElem?_eq_getElem cu⟩
 obtain⟨Nh,hu,_⟩:=ay off v aC
 have cY:i.base+off<c.size:=by
  rcases Nat.lt_or_ge (i.base+off) c.size with h|h
  · exact h
  · rw[Array.getElem?_eq_none h] at hu;cases hu
 have vE:(Conv.seenAt ⟨i.bb,i.base+off,none⟩).run P w=.ok ⟨i.bb,i.base+off,none⟩ w:=by
  simp[Conv.seenAt,F1 ax]
 have F2:(cellsIn i.bb).run P w=.ok (some c.size) w:=by simp[cellsIn,World.shape?,ax]
 have rI:¬(c.size<=i.base+off):=by omega
 simp[convert,bN hs,bN aA,Conv.unsafePointer,vE,F2,run_sizeOf a4,rI]
theorem Ni(aj:bn μ H w){src dst u:TypeId}{b off n:Nat}{cs:List I}{el bk ae:Nat}(hs:P.underlying src=some .unsafePointer)(aA:P.underlying dst=some (.pointer u))
  (a4:dd P u=some (n+1))(ak:H.get b=some (.cells cs el .own bk ae))(aq:liesAt P P.depth el (cs.length/P.cellsOf el) off u 1=true){x:Value}(ab:a9 μ (.ptr b off) x):(convert src dst x).run P w=.ok x w:=by
 obtain⟨i,ae,rfl⟩:=ab
 obtain⟨c,fg,fh,ax,ay,bF,en,k9,_⟩:=aj.rel _ _ i ak ae
 have ag:c.size=cs.length:=by omega
 have vE:(Conv.seenAt ⟨i.bb,i.base+off,none⟩).run P w=.ok ⟨i.bb,i.base+off,none⟩ w:=by
  simp[Conv.seenAt,F1 ax]
 have Bg:(variablesAt ⟨i.bb,i.base+off,none⟩ u 1).run P w=.ok true w:=by
  simp[variablesAt,World.shape?,ax,en,ag,aq]
 simp[convert,bN hs,bN aA,Conv.unsafePointer,vE,run_sizeOf a4,Bg]
end
end aB
namespace aB
open Go
section
variable {P:Program} {μ:bg} {H:J} {w:World}
theorem F3(aj:bn μ H w){b:Nat}{i:dY}(ae:μ b=some i){cs:List I}{el bk dV:Nat}{k:ey}(ak:H.get b=some (.cells cs el k bk dV)):
  ∀(n off:Nat) (r:List I) (bs:List UInt8) (acc:ByteArray),takeN n (ho off cs)=some r->my r=some bs->
   (loadBytes ⟨i.bb,i.base+off,none⟩ acc n).run P w=.ok ⟨acc.data++bs.toArray⟩ w
 |0,off,r,bs,acc,h,af=>by
  simp only[takeN] at h;cases h
  simp only[my] at af;cases af
  simp[loadBytes]
 |n+1,off,r,bs,acc,h,af=>by
  rw[mE] at h
  cases aA:cs.drop off with
  |nil=>rw[aA] at h;simp[takeN] at h
  |cons a l=>
   rw[aA] at h
   simp only[takeN] at h
   cases aU:takeN n l with
   |none=>rw[aU] at h;cases h
   |some r'=>
    rw[aU] at h;cases h
    unfold my at af
    split at af
    · rename_i heq;cases heq
    · rename_i m ob heq
      cases heq
      split at af
      · rename_i Nj hm gz
        cases af
        have F4:cs[off]? =some (.int .u8 (Int.ofNat m)):=by
         have:=congrArg List.head? aA
         simpa[List.head?_drop] using this
        have aq:l=cs.drop (off+1):=by
         have:=congrArg List.tail aA
         simpa[List.tail_drop] using this.symm
        obtain⟨u,aa,ad⟩:=AP (P:=P) (off:=off) aj ae (show au H b off=some (.int .u8 (Int.ofNat m)) by simp[au,ak,o2,F4])
        cases ad
        have bd:=F3 aj ae ak n (off+1) r' Nj (acc.push (UInt8.ofNat m)) (by rw[mE,<-aq];exact aU) gz
        have e:(⟨i.bb,i.base+off,none⟩:Addr).add 1=⟨i.bb,i.base+(off+1),none⟩:=by simp[Addr.add,Nat.add_assoc]
        simp only[loadBytes,Sem.run_bind,aa,Result.andThen_ok,e]
        refine Eq.trans ?_ (bd.trans ?_)
        · rfl
        · congr 1
          simp[ByteArray.ext_iff,ByteArray.push]
      · cases af
    · cases af
theorem Bh{α:Type}(p:Option Addr)(l:Value)(f:Option Addr->Value->α)(g:Array Value->α):Builtin.unsafeString_.match_3 (λ_=>α) #[.pointer p,l] f g=f p l:=rfl
theorem Nk(argTypes:Array TypeId)(ty pT:TypeId)(h0:argTypes[0]? =some pT)(k:IntKind)(m:Nat)(a:Addr)(u:TypeId)(hu:P.underlying pT=some (.pointer u))(o3:m≠0)(hm:m<=281474976710656)
  {s:ByteArray}(aC:(variablesAt a u m).run P w=.ok true w)(aq:(loadBytes a .empty m).run P w=.ok s w):
  (Builtin.unsafeString_ argTypes ty #[.pointer (some a),.int k (m:Int)]).run P w=.ok (.string s) (w.freeze a m):=by
 have vR:¬((9223372036854775807:Int)<(m:Int)):=by omega
 have hQ:IntKind.i64.max=9223372036854775807:=rfl
 have he:(elemOf pT).run P w=.ok u w:=by simp[elemOf,bN hu]
 have vS:¬((m:Int)<0):=by omega
 delta Builtin.unsafeString_
 rw[Bh]
 simp[asInt,asIntOf,h0,hQ,vR,o3,he,aC,aq,vS]
theorem F5(argTypes:Array TypeId)(ty pT:TypeId)(h0:argTypes[0]? =some pT)(k:IntKind)(p:Option Addr):(Builtin.unsafeString_ argTypes ty #[.pointer p,.int k 0]).run P w=.ok (.string .empty) w:=by
 have hQ:IntKind.i64.max=9223372036854775807:=rfl
 cases p with
 |none=>
  delta Builtin.unsafeString_
  rw[Bh]
  simp[asInt,asIntOf,h0,hQ]
 |some a=>
  delta Builtin.unsafeString_
  rw[Bh]
  simp[asInt,asIntOf,h0,hQ]
theorem yy:P.depth=(2*(P.types.size+Made.depth)+1)+1:=rfl
theorem Nl{e u count off n:Nat}(aa:P.underlyingId e=P.underlyingId u)(hs:P.cellsOf e=1)(af:off+n<=count):liesAt P P.depth e count off u n=true:=by
 have aq:sameLayout P P.depth e u=true:=by rw[yy];simp[sameLayout,aa]
 have ai:rowAt P (sameLayout P P.depth · u) P.depth e count off n=true:=by
  rw[yy]
  unfold rowAt
  simp only[hs,Nat.div_one,Nat.mod_one]
  rw[yy] at aq
  simp[af,aq]
 have:∀d,rowAt P (sameLayout P P.depth · u) P.depth e count off n=true->liesAt P (d+1) e count off u n=true:=λd h=>by
  unfold liesAt;rw[h];rfl
 conv=>lhs;arg 2;rw[yy]
 exact this _ ai
theorem Nm(aj:bn μ H w){argTypes:Array TypeId}{ty pT:TypeId}(h0:argTypes[0]? =some pT){p n v:I}{Bi Bj:Value}(a_:a9 μ p Bi)(aI:a9 μ n Bj){aT:J}(h:oS P H pT p n=some (v,aT)):
  eT P μ H w (Builtin.unsafeString_ argTypes ty #[Bi,Bj]) v aT:=by
 unfold oS at h
 have F6:∀m,fo n=some m->∃k,Bj=.int k (m:Int):=by
  intro m hm
  unfold fo at hm
  split at hm
  · cases hm;cases aI;exact⟨_,rfl⟩
  · cases hm
 split at h
 · rename_i a4
   cases h;cases a_
   obtain⟨k,rfl⟩:=F6 0 a4
   exact .same aj (v':=.string .empty) (F5 argTypes ty pT h0 k none) ⟨.empty,rfl,rfl⟩
 · rename_i b off m hm
   obtain⟨k,rfl⟩:=F6 m hm
   obtain⟨i,ae,rfl⟩:=a_
   split at h
   · rename_i a4
     cases h;subst a4
     exact .same aj (v':=.string .empty) (F5 argTypes ty pT h0 k _) ⟨.empty,rfl,rfl⟩
   · rename_i o3
     split at h
     · rename_i u cs el bV bk dV hu ak
       split at h
       · rename_i ag
         simp only[Bool.and_eq_true,decide_eq_true_eq,Nat.ble_eq] at ag
         obtain⟨⟨⟨c1,c2⟩,c3⟩,c4⟩:=ag
         split at h
         · rename_i r ai
           split at h
           · rename_i bs af
             cases h
             obtain⟨c,fg,fh,ax,ay,bF,en⟩:=aj.rel _ _ i ak ae
             have Nn:=F3 (P:=P) aj ae ak m off r bs .empty ai af
             have hlen:off+m<=cs.length:=by
              rw[mE] at ai
              have:=(rG m _ _ ai).1
              rw[List.length_drop] at this
              omega
             have yi:0<m:=Nat.pos_of_ne_zero o3
             have cY:i.base+off+m<=c.size:=by
              obtain⟨x,ab⟩:∃x,cs[off+m-1]? =some x:=⟨_,List.getElem?_eq_getElem (by omega)⟩
              obtain⟨Nh,p7,_⟩:=ay _ x ab
              rcases Nat.lt_or_ge (i.base+(off+m-1)) c.size with h|h
              · omega
              · rw[Array.getElem?_eq_none h] at p7;cases p7
             have F7:P.cellsOf el=1:=by
              unfold dd at c2
              unfold Program.cellsOf
              cases dV:P.info? el with
              |none=>rw[dV] at c2;cases c2
              |some ii=>rw[dV] at c2;simpa using c2
             have Bg:(variablesAt ⟨i.bb,i.base+off,none⟩ u m).run P w=.ok true w:=by
              have aq:=Nl (P:=P) (e:=el) (u:=u) (count:=c.size/P.cellsOf el) (off:=i.base+off) (n:=m) c1 F7 (by rw[F7];simpa using cY)
              simp[variablesAt,World.shape?,ax,aq]
             have eH:=Nk (P:=P) (w:=w) argTypes ty pT h0 k m _ u hu o3 c3 Bg Nn
             have No:∃cz:Nat×Nat,w.freeze ⟨i.bb,i.base+off,none⟩ m={w with heap:=w.heap.modify i.bb λ
               |.cells c elem (bk,ae)=>.cells c elem (if bk==ae then(i.base+off,i.base+off+m) else(min bk (i.base+off),max ae (i.base+off+m)))
               |o=>o}/\(w.freeze ⟨i.bb,i.base+off,none⟩ m).heap[i.bb]? =some (.cells c el cz):=by
              have:w.freeze ⟨i.bb,i.base+off,none⟩ m={w with heap:=w.heap.modify i.bb λ
               |.cells c elem (bk,ae)=>.cells c elem (if bk==ae then(i.base+off,i.base+off+m) else(min bk (i.base+off),max ae (i.base+off+m)))
               |o=>o}:=by simp[World.freeze,o3];rfl
              refine⟨if fg==fh then(i.base+off,i.base+off+m) else(min fg (i.base+off),max fh (i.base+off+m)),this,?_⟩
              rw[this]
              simp[Array.getElem?_modify,ax]
             obtain⟨⟨f1,f2⟩,aV,aY⟩:=No
             have gV:(cp.cells cs el bV bk dV).mD=false:=by cases bV<;>first|rfl|exact absurd rfl c4
             obtain⟨r1,r2⟩:=aj.update (w':=w.freeze ⟨i.bb,i.base+off,none⟩ m) (o':=.cells cs el .fz bk dV) ak gV ae (by rw[aV];simp) (λr ai=>by rw[aV];simp[Array.getElem?_modify];intro e;exact absurd e.symm ai) (by rw[aV]) (by rw[aV]) (by rw[aV])
              ⟨c,f1,f2,aY,ay,bF,trivial⟩ (hdr:=by rw[aV];exact Nat.le_refl _)
             exact⟨μ,_,.string _,eH,⟨_,rfl,by simp⟩,r1,r2⟩
           · cases h
         · cases h
       · cases h
     · cases h
 · cases h
theorem Np{argTypes:Array TypeId}{ty:TypeId}{x:I}{br:Value}(ab:a9 μ x br):
  (x=.bf->(Builtin.unsafeSliceData_ argTypes ty #[br]).run P w=.ok (.pointer none) w)/\
  (∀b off n c,x=.slice b off n (.exact c)->c≠0->∃u,(Builtin.unsafeSliceData_ argTypes ty #[br]).run P w=.ok u w/\a9 μ (.ptr b off) u)/\
  (∀b off n e,x=.slice b off n (.aS e)->n≠0->∃u,(Builtin.unsafeSliceData_ argTypes ty #[br]).run P w=.ok u w/\a9 μ (.ptr b off) u):=by
 have key:∀(a:Addr) (n c:Nat),c≠0->(Builtin.unsafeSliceData_ argTypes ty #[.slice (some a) n c]).run P w=.ok (.pointer (some a)) w:=λa n c ag=>by
  obtain⟨k,rfl⟩:∃k,c=k+1:=⟨c-1,by omega⟩
  rfl
 refine⟨λh=>?_,λb off n c h ag=>?_,λb off n e h aI=>?_⟩
 · subst h;cases ab;rfl
 · subst h;obtain⟨i,ae,n5⟩:=ab;cases n5
   exact⟨_,key _ n c ag,i,ae,rfl⟩
 · subst h;obtain⟨i,ae,c,rfl,hle,_⟩:=ab
   exact⟨_,key _ n c (by omega),i,ae,rfl⟩
theorem F8{lU:Value}{first aK:List I}{g:Nat}{args:List I}{vs:List Value}(hf:a9 μ (.fn g first aK) lU)(ba:b4 μ args vs):
  ∃cc cs:List Value,(do let d<-Deferred.ofValue lU ⟨vs⟩;invoke d.target d.args:Sem Next).run P w=(callFunc g ⟨cc++vs++cs⟩).run P w/\b4 μ (first++args++aK) (cc++vs++cs)/\
   (Deferred.ofValue lU ⟨vs⟩).run P w=.ok {target:=.fn (.func g) ⟨cs⟩,args:=⟨cc++vs⟩} w:=by
 obtain⟨cc,cs,rfl,aa,ad⟩:=hf
 refine⟨cc,cs,?_,(aa.append ba).append ad,?_⟩
 · simp[Deferred.ofValue,invoke]
 · simp[Deferred.ofValue]
theorem Nq{l:Nat}{lU:Value}{vs:List Value}(hf:a9 μ (.b8 l) lU):
  ∃i,μ l=some i/\(do let d<-Deferred.ofValue lU ⟨vs⟩;invoke d.target d.args:Sem Next).run P w=(Instr.yield i.bb ⟨vs⟩).run P w:=by
 obtain⟨i,ae,rfl⟩:=hf
 exact⟨i,ae,by simp[Deferred.ofValue,invoke]⟩
theorem Nr{t:TypeId}{name:String}{f:Nat}(h:x7 P t name=some f)(v:Value)(n:Nat):(method (n+1) t v name).run P w=.ok (f,v) w:=by
 unfold x7 at h
 split at h
 · rename_i i ae
   split at h
   · rename_i m hm
     have hf:∀q,m.path.isEmpty=q->m.path.isEmpty=q:=λ_ h=>h
     split at h
     all_goals first
      |(cases h;done)
      |(rename_i a_ mL hu
        cases h
        have Ns:m.path.toList=[]:=by simpa using a_
        simp[method,run_typeInfo ae,hm,Ns,follow,mL,receiverAt,bN hu,Place.get]
        done)
   · cases h
 · cases h
end
end aB
namespace aB
open Go
def ix(P:Program)(μ:bg)(H:J)(w:World)(s:Sem Next):e5->Prop
 |.val v aT=>∃aM w' u,(s.run P w=.ok (.value u) w'\/(u=undef/\s.run P w=.ok .skip w'))/\a9 aM v u/\bn aM aT w'/\b5 μ H w aM aT w'
 |.b1 v aT=>aT=H/\∃u,s.run P w=.halt (.panic u) w/\a9 μ v u
 |.call f args aT=>aT=H/\∃vs:List Value,s.run P w=(callFunc f ⟨vs⟩).run P w/\b4 μ args vs
 |.b8 l args aT=>aT=H/\∃i,∃vs:List Value,μ l=some i/\s.run P w=(Instr.yield i.bb ⟨vs⟩).run P w/\b4 μ args vs
 |.jn d=>∃qq,s.run P w=.ok (.defer qq) w/\rE μ d qq
 |.ry=>s.run P w=.ok .recover w
 |.fail _=>True
section
variable {P:Program} {μ:bg} {H:J} {w:World}
theorem ix.iy{s:Sem Value}{v:I}{aT:J}(h:eT P μ H w s v aT):ix P μ H w (do pure (.value (<-s))) (.val v aT):=by
 obtain⟨aM,w',u,aa,ad,aw,aQ⟩:=h
 exact⟨aM,w',u,.inl (by simp[aa]),ad,aw,aQ⟩
theorem ix.of_same(aj:bn μ H w){s:Sem Value}{v:I}(h:∃u,s.run P w=.ok u w/\a9 μ v u):ix P μ H w (do pure (.value (<-s))) (.val v H):=by
 obtain⟨u,aa,ad⟩:=h
 exact⟨μ,w,u,.inl (by simp[aa]),ad,aj,b5.refl _ _ _⟩
theorem ix.yz(aj:bn μ H w){u:Value}{v:I}(h:a9 μ v u){s:Sem Next}(hs:s.run P w=.ok (.value u) w):ix P μ H w s (.val v H):=
 ⟨μ,w,u,.inl hs,h,aj,b5.refl _ _ _⟩
theorem ix.Nt{s:Sem Unit}{aT:J}(h:∃w',s.run P w=.ok () w'/\bn μ aT w'/\b5 μ H w μ aT w'):ix P μ H w (do s;pure .skip) (.val (.aP []) aT):=by
 obtain⟨w',aa,aw,aQ⟩:=h
 exact⟨μ,w',undef,.inr ⟨rfl,by simp[aa]⟩,⟨[],rfl,rfl⟩,aw,aQ⟩
theorem vT(aj:bn μ H w){s:Sem Value}{o:Option I}{ia:String}(h:∀v,o=some v->∃u,s.run P w=.ok u w/\a9 μ v u):ix P μ H w (do pure (.value (<-s))) (fp H ia o):=by
 cases o with
 |none=>trivial
 |some v=>exact .of_same aj (h v rfl)
theorem qs{s:Sem Value}{o:Option I}{ia:String}(h:∀v,o=some v->eT P μ H w s v H):ix P μ H w (do pure (.value (<-s))) (fp H ia o):=by
 cases o with
 |none=>trivial
 |some v=>exact .iy (h v rfl)
theorem rY{s:Sem Value}{o:Option (I×J)}{ia:String}(h:∀v aT,o=some (v,aT)->eT P μ H w s v aT):ix P μ H w (do pure (.value (<-s))) (ky ia o):=by
 cases o with
 |none=>trivial
 |some p=>exact .iy (h p.1 p.2 rfl)
theorem yA{s:Sem Unit}{o:Option J}{ia:String}(h:∀aT,o=some aT->∃w',s.run P w=.ok () w'/\bn μ aT w'/\b5 μ H w μ aT w'):ix P μ H w (do s;pure .skip) (oU ia o):=by
 cases o with
 |none=>trivial
 |some aT=>exact .Nt (h aT rfl)
theorem qt{a:I}{n:Nat}{v:Value}(h:fo a=some n)(aC:a9 μ a v):∃k,v=.int k (n:Int):=by
 unfold fo at h
 split at h
 · cases h;cases aC;exact⟨_,rfl⟩
 · cases h
theorem F9(aj:bn μ H w){f:I}{lU:Value}{args:List I}{vs:List Value}(hf:a9 μ f lU)(ba:b4 μ args vs):
  ix P μ H w (do let d<-Deferred.ofValue lU ⟨vs⟩;invoke d.target d.args) (rA f args H):=by
 unfold rA
 split
 · obtain⟨cc,cs,aa,ad,_⟩:=F8 (P:=P) (w:=w) hf ba
   exact⟨rfl,_,aa,ad⟩
 · obtain⟨i,aa,ad⟩:=Nq (P:=P) (w:=w) (vs:=vs) hf
   exact⟨rfl,i,vs,aa,ad,ba⟩
 · trivial
theorem Nu(aj:bn μ H w){b:Builtin}{ats:Array TypeId}{ty:TypeId}{consts:Array Bool}{vs:List I}{us:List Value}(aC:b4 μ vs us):
  ix P μ H w (builtin b ats ty consts ⟨us⟩) (hP P b ats vs H):=by
 unfold hP
 split
 · rfl
 · cases vs with
   |nil=>trivial
   |cons x l=>
    obtain⟨br,c_,rfl,aa,ad⟩:=aC
    refine vT aj λv h=>?_
    obtain⟨u,aV,aY⟩:=A4 (P:=P) (w:=w) ir Builtin.min2 (λ_ _ _ _ _ h ab a2=>MB h ab a2) l x br c_ v aa ad h
    exact⟨u,by simpa[Builtin.min_] using aV,aY⟩
 · cases vs with
   |nil=>trivial
   |cons x l=>
    obtain⟨br,c_,rfl,aa,ad⟩:=aC
    refine vT aj λv h=>?_
    obtain⟨u,aV,aY⟩:=A4 (P:=P) (w:=w) vd Builtin.max2 (λ_ _ _ _ _ h ab a2=>MC h ab a2) l x br c_ v aa ad h
    exact⟨u,by simpa[Builtin.max_] using aV,aY⟩
 · split
   · rename_i t x h0
     obtain⟨br,c_,rfl,aa,ad⟩:=aC
     cases ad
     split
     · exact qs λv h=>My aj h0 aa h
     · exact qs λv h=>Mz aj h0 aa h
     · exact rY λv aT h=>Mw aj h0 aa h
     · obtain⟨s1,s2,bq⟩:=Np (P:=P) (w:=w) (argTypes:=ats) (ty:=ty) aa
       split
       · exact .of_same aj ⟨_,s1 rfl,rfl⟩
       · split
         · trivial
         · rename_i ag;exact .of_same aj (s2 _ _ _ _ rfl ag)
       · split
         · trivial
         · rename_i ag;exact .of_same aj (bq _ _ _ _ rfl ag)
       · trivial
     · trivial
   · rename_i t x y h0
     obtain⟨br,c_,rfl,aa,fK,Fu,rfl,ad,aw⟩:=aC
     cases aw
     split
     · exact rY λv aT h=>Mp aj h0 aa ad h
     · exact rY λv aT h=>Mv aj h0 aa ad h
     · exact rY λv aT h=>MR aj h0 aa ad h
     · exact rY λv aT h=>Nm aj h0 aa ad h
     · trivial
   · trivial
theorem Nv(aj:bn μ H w){src dst:TypeId}{x:I}{br:Value}(ab:a9 μ x br):
  ix P μ H w (do pure (.value (<-convert src dst br))) (et P src dst x H):=by
 unfold et
 split
 · rename_i iR k bQ n hs aA
   cases ab
   exact .of_same aj ⟨.int k (k.wrap n),by simp[convert,bN hs,bN aA,Conv.intToInt],rfl⟩
 · rename_i iR bQ n hs aA
   cases ab
   exact .of_same aj ⟨.string (Utf8.encode n),by simp[convert,bN hs,bN aA,Conv.intToString],_,rfl,rfl⟩
 · rename_i s hs aA
   obtain⟨t,rfl,rfl⟩:=ab
   exact .of_same aj ⟨.string t,by simp[convert,bN hs,bN aA],_,rfl,rfl⟩
 · rename_i e s hs aA
   obtain⟨t,rfl,rfl⟩:=ab
   split
   · rename_i he
     refine .iy ?_
     have cf:=ME (P:=P) aj (e:=e) (bs:=t)
     obtain⟨aM,w',u,aa,ad,aw,aQ⟩:=cf
     exact⟨aM,w',u,by simp[convert,bN hs,bN aA,bN he,aa],ad,aw,aQ⟩
   · trivial
 · rename_i e hs aA
   have key:P.underlying e=some (.int .u8)->∀a n c,(convert src dst (.slice a n c)).run P w=(Conv.bytesToString (.slice a n c)).run P w:=by
    intro he a n c
    simp[convert,bN hs,bN aA,bN he]
   split
   · rename_i he
     cases ab
     refine .of_same aj ⟨.string .empty,?_,.empty,rfl,rfl⟩
     rw[key he];rfl
   · rename_i b off n he
     split
     · rename_i aI
       subst aI
       obtain⟨i,_,_,a,c,rfl⟩:=ab
       refine .of_same aj ⟨.string .empty,?_,.empty,rfl,rfl⟩
       rw[key he];rfl
     · trivial
   · rename_i b off n c A3 he
     split
     · rename_i cs aq
       split
       · rename_i bs af
         obtain⟨aM,w',u,aa,ad,aw,aQ⟩:=MD (P:=P) aj (by intro e;subst e;exact A3 rfl) ab aq af
         refine .iy ⟨aM,w',u,?_,ad,aw,aQ⟩
         have jS:∃a m k,br=.slice a m k:=by
          obtain⟨i,_,ag⟩:=ab
          cases c with
          |exact c=>cases ag;exact⟨_,_,_,rfl⟩
          |aS fP=>obtain⟨c,rfl,_⟩:=ag;exact⟨_,_,_,rfl⟩
          |dead=>obtain⟨_,a,c,rfl⟩:=ag;exact⟨_,_,_,rfl⟩
         obtain⟨a,m,k,rfl⟩:=jS
         rw[key he];exact aa
       · trivial
     · trivial
   · trivial
 · rename_i u b off hs aA
   split
   · rename_i cs el k bk ae n ak a4
     split
     · rename_i cu
       exact .of_same aj ⟨br,Ng aj hs aA a4 ak (by simpa using cu) ab,ab⟩
     · trivial
   · trivial
 · rename_i u b off hs aA
   split
   · rename_i cs el bk ae n ak a4
     split
     · rename_i ag
       exact .of_same aj ⟨br,Ni aj hs aA a4 ak ag ab,ab⟩
     · trivial
   · trivial
 · trivial
end
end aB
namespace aB
open Go
section
variable {P:Program} {μ:bg} {H:J} {w:World}
theorem F_(aj:bn μ H w){c a b:Operand}{g:Operand->I}{ck:Operand->Value}(ak:∀x,a9 μ (g x) (ck x)){dT:Bool}(ag:g c=.bool dT):
  ix P μ H w (do pure (.value (if<-asBool (ck c) then ck a else ck b))) (.val (if dT then g a else g b) H):=by
 have aa:=ak c
 rw[ag] at aa
 refine .yz aj (u:=if dT then ck a else ck b) ?_ ?_
 · cases dT
   · exact ak b
   · exact ak a
 · have:ck c=.bool dT:=aa
   simp[this,asBool]
theorem yB{g:Operand->I}{ck:Operand->Value}(ak:∀x,a9 μ (g x) (ck x))(args:Array Operand):b4 μ (args.toList.map g) (args.map ck).toList:=by
 rw[Array.toList_map];exact b4.map g ck ak _
theorem Nw(aj:bn μ H w){g:Operand->I}{ck:Operand->Value}(ak:∀x,a9 μ (g x) (ck x))(o:Oper)(x:Operand)(a7:o.op=.nilCheck x):ix P μ H w (execOp ck o) (match g x with
  |.ptr b o=>.val (.ptr b o) H
  |.slice b o n c=>.val (.slice b o n c) H
  |.fn f a b=>.val (.fn f a b) H
  |.iface t v=>.val (.iface t v) H
  |_=>.fail "nilCheck"):=by
 have aa:=ak x
 have e:∀(v:I),g x=v->((∃b o,v=.ptr b o)\/(∃b o n c,v=.slice b o n c)\/(∃f a b,v=.fn f a b)\/∃t y,v=.iface t y)->ix P μ H w (execOp ck o) (.val v H):=by
  intro v aC hs
  have ad:=aa
  rw[aC] at ad
  exact .yz aj ad (LN ad hs o x ck rfl a7)
 split
 · rename_i b o ab;exact e _ ab (.inl ⟨_,_,rfl⟩)
 · rename_i b o n c ab;exact e _ ab (.inr (.inl ⟨_,_,_,_,rfl⟩))
 · rename_i f a b ab;exact e _ ab (.inr (.inr (.inl ⟨_,_,_,rfl⟩)))
 · rename_i t v ab;exact e _ ab (.inr (.inr (.inr ⟨_,_,rfl⟩)))
 · trivial
theorem Nx(aj:bn μ H w){g:Operand->I}{ck:Operand->Value}(ak:∀x,a9 μ (g x) (ck x))(c:Call)(type:TypeId):ix P μ H w (do let d<-resolve ck c type;invoke d.target d.args) (match c.callee with
  |.value f=>rA (g f) (c.args.toList.map g) H
  |.invoke r name=>match g r with
   |.iface t v=>match x7 P t name with
    |some f=>.call f (v::c.args.toList.map g) H
    |none=>.fail ("invoke " ++name)
   |_=>.fail ("invoke " ++name)
  |.builtin b=>hP P b c.argTypes (c.args.toList.map g) H):=by
 have ba:=yB (μ:=μ) ak c.args
 cases ag:c.callee with
 |value f=>
  simp only[resolve,ag]
  exact F9 aj (ak f) ba
 |invoke r name=>
  simp only[]
  split
  · rename_i t v ai
    split
    · rename_i f hm
      have aa:=ak r
      rw[ai] at aa
      obtain⟨y,a2,aC⟩:=aa
      refine⟨rfl,y::(c.args.map ck).toList,?_,⟨_,_,rfl,aC,ba⟩⟩
      have X1:0<Made.depth:=by decide
      obtain⟨n,aI⟩:∃n,P.types.size+Made.depth=n+1:=⟨P.types.size+Made.depth-1,by omega⟩
      have Ny:=Nr (P:=P) (w:=w) hm y n
      have h0:(#[ck r]++c.args.map ck)[0]? =some (ck r):=by rw[Array.getElem?_append_left (by simp)];rfl
      have ad:(#[ck r]++c.args.map ck).extract 1 (#[ck r]++c.args.map ck).size=c.args.map ck:=by
       apply Array.ext'
       simp only[Array.toList_extract,Array.toList_append,Array.toList_map,List.cons_append,List.nil_append,List.extract_eq_take_drop]
       rw[List.take_of_length_le]
       · rfl
       · simp
      have aw:(#[y]++c.args.map ck:Array Value)=⟨y::(c.args.map ck).toList⟩:=by apply Array.ext';simp
      rw[a2] at h0 ad
      simp only[resolve,ag,Sem.run_bind,Sem.run_pure,Result.andThen_ok,invoke,a2,h0,ad,callMethod,run_program,aI,Ny,aw]
    · trivial
  · trivial
 |builtin b=>
  have af:=Nu (P:=P) (b:=b) (ats:=c.argTypes) (ty:=type) (consts:=c.args.map λ|.const _=>true|_=>false) aj ba
  have he:(do let d<-resolve ck c type;invoke d.target d.args:Sem Next)=builtin b c.argTypes type (c.args.map λ|.const _=>true|_=>false) (c.args.map ck):=by
   simp only[resolve,ag];rfl
  rw[he];exact af
set_option maxHeartbeats 4000000 in
theorem Nz(aj:bn μ H w)(o:Oper){g:Operand->I}{ck:Operand->Value}(ak:∀x,a9 μ (g x) (ck x)):ix P μ H w (execOp ck o) (cA P o g H):=by
 obtain⟨dst,op,type,pos,after,guard⟩:=o
 cases op<;>simp only[cA,execOp]
 case move x=>exact .yz aj (ak x) rfl
 case assign x=>exact .yz aj (ak x) rfl
 case pick c a b=>
  split
  · rename_i ag;exact F_ aj ak ag
  · rename_i ag;exact F_ aj ak ag
  · trivial
 case alloc e=>
  split
  · rename_i z a4
    split
    · rename_i b an ai;exact .iy (Lz aj a4 ai)
    · trivial
  · trivial
 case box e x=>
  split
  · rename_i b an ai;exact .iy (LA aj (ak x) ai)
  · trivial
 case build t parts=>
  split
  · rename_i z a4
    split
    · rename_i cc hu
      split
      · rename_i cs e7 hf;exact .iy (LI aj g ck ak a4 hu e7 parts hf)
      · trivial
    · rename_i n e hu
      split
      · rename_i sz hs
        split
        · rename_i cs hf;exact .iy (LK aj g ck ak a4 hu hs parts hf)
        · trivial
      · trivial
    · trivial
  · trivial
 case buildSlice t len parts=>
  split
  · rename_i e hu
    split
    · rename_i sz z hs a4
      split
      · rename_i cs ag hf
        rw[Bool.and_eq_true,Nat.ble_eq,Nat.beq_eq] at ag
        split
        · rename_i b an ai;exact .iy (LL aj g ck ak hu hs a4 ag.1 ag.2 parts hf ai)
        · trivial
      · trivial
    · trivial
  · trivial
 case insert t m k v=>exact yA λaT h=>FJ aj (ak m) (ak k) (ak v) h
 case load t a=>
  split
  · rename_i b off ba
    have aa:=ak a
    rw[ba] at aa
    obtain⟨bl,bB⟩:=LB (P:=P) aj (t:=t) aa
    split
    · rename_i n Bk aI
      split
      · rename_i cs aq;exact .iy (bl n cs Bk aI aq)
      · trivial
    · rename_i Bk
      exact qs λv h=>bB v Bk h
    · trivial
  · trivial
 case store t a v=>
  split
  · rename_i b off ba
    have aa:=ak a
    rw[ba] at aa
    split
    · trivial
    · rename_i n aI NA
      split
      · rename_i aq
        exact yA λaT h=>LC aj aa (ak v) NA aI (by simpa using aq) h
      · trivial
    · trivial
  · trivial
 case ready=>trivial
 case waits=>trivial
 case nilCheck x=>exact Nw aj ak ⟨dst,.nilCheck x,type,pos,after,guard⟩ x rfl
 case binOp op t x y yt=>exact vT aj λv h=>Nc aj (yt:=yt) (ak x) (ak y) h
 case unOp op t x=>
  have aa:=ak x
  split
  · rename_i b ab;rw[ab] at aa;exact .of_same aj (M9 aa)
  · rename_i k n ab;rw[ab] at aa;exact .of_same aj (M_ aa)
  · rename_i k n ab;rw[ab] at aa;exact vT aj λv h=>Na aa h
  · trivial
 case convert src X2 x=>exact Nv aj (ak x)
 case sliceToArrayPointer=>trivial
 case makeInterface t x=>
  split
  · trivial
  · rename_i d dK hu
    refine .of_same aj ⟨.iface t (ck x),Nd hu (λm e=>dK m (e▸rfl)) (ak x),_,rfl,ak x⟩
  · trivial
 case makeFunc fn first aK=>
  split
  · rename_i f
    exact .of_same aj ⟨.func (.func f) (first.map ck) (aK.map ck),rfl,_,_,rfl,yB ak first,yB ak aK⟩
  · trivial
 case makeMap t r=>
  cases r with
  |none=>exact .iy (MS aj)
  |some x=>
   simp only[]
   split
   · rename_i cX hN k n hu ab
     have aa:=ak x
     rw[ab] at aa
     have ad:ck x=.int k n:=aa
     rw[Option.map_some,ad]
     exact .iy (MT aj hu)
   · trivial
 case makeChan=>trivial
 case makeSlice t l c=>
  split
  · rename_i e ob c' hu aq ag
    obtain⟨kl,el⟩:=qt aq (ak l)
    obtain⟨kc,vU⟩:=qt ag (ak c)
    split
    · rename_i i z ae a4
      split
      · rename_i jT
        rw[Bool.and_eq_true,Bool.and_eq_true,Nat.ble_eq,Nat.beq_eq,decide_eq_true_eq] at jT
        split
        · rename_i b an ai
          rw[el,vU]
          exact .iy (LM aj hu ae a4 jT.1.1 jT.1.2 jT.2 ai)
        · trivial
      · trivial
    · trivial
  · trivial
 case slice t x bk ae mx=>
  exact qs λv h=>LZ aj (ak x) (mH.map g ck ak bk) (mH.map g ck ak ae) (mH.map g ck ak mx) h
 case fieldAddr s x f=>
  split
  · rename_i cc b off hu ab
    have aa:=ak x
    rw[ab] at aa
    split
    · rename_i fd hf
      split
      · trivial
      · rename_i n vH aI
        exact .iy (L2 aj hu hf aI (λe=>vH e) aa)
      · trivial
    · trivial
  · trivial
 case field t x f=>
  split
  · rename_i cc cs hu ab
    have aa:=ak x
    rw[ab] at aa
    split
    · rename_i fd hf
      exact qs λv h=>L1 aj hu hf aa h
    · trivial
  · trivial
 case indexAddr t x i=>
  split
  · rename_i n e b off k hu ab ae
    have aa:=ak x
    rw[ab] at aa
    obtain⟨bV,lV⟩:=qt ae (ak i)
    split
    · rename_i sz hs
      split
      · rename_i av;rw[lV];exact .iy (L4 aj hu hs aa av)
      · trivial
    · trivial
  · rename_i e b off n c k hu ab ae
    have aa:=ak x
    rw[ab] at aa
    obtain⟨bV,lV⟩:=qt ae (ak i)
    split
    · rename_i sz hs
      split
      · rename_i av;rw[lV];exact .iy (L3 aj hu hs aa av)
      · trivial
    · trivial
  · trivial
 case index t x i=>
  split
  · rename_i n e cs k hu ab ae
    have aa:=ak x
    rw[ab] at aa
    obtain⟨bV,lV⟩:=qt ae (ak i)
    split
    · rename_i sz hs
      split
      · rename_i av;rw[lV];exact qs λv h=>L5 aj hu hs aa av h
      · trivial
    · trivial
  · rename_i s k hu ab ae
    have aa:=ak x
    rw[ab] at aa
    obtain⟨bV,lV⟩:=qt ae (ak i)
    split
    · rename_i c ag;rw[lV];exact .iy (L6 aj hu aa ag)
    · trivial
  · trivial
 case lookup t x i ok=>exact qs λv h=>MN aj (ak x) (ak i) h
 case mapUpdate t m k v=>exact yA λaT h=>FJ aj (ak m) (ak k) (ak v) h
 case mapEntry t m k=>exact rY λv aT h=>MP aj (ak m) (ak k) h
 case entryStore t m s v=>exact yA λaT h=>MQ aj (ak m) (ak s) (ak v) h
 case range t x=>
  split
  · rename_i s hu ab
    have aa:=ak x
    rw[ab] at aa
    exact .iy (MU aj hu aa)
  · rename_i cX hN hu ab
    have aa:=ak x
    rw[ab] at aa
    exact .iy (MV aj hu aa)
  · rename_i cX hN m hu ab
    have aa:=ak x
    rw[ab] at aa
    split
    · rename_i es c Bc
      obtain⟨i,ae,aC⟩:=aa
      obtain⟨ents,ax,ay⟩:=aj.rel _ _ i Bc ae
      obtain⟨r1,r2⟩:=aj.alloc (.mapIter (some m) c [] c) (.mapIter (some i.bb) c #[] c) 0 ⟨rfl,i,aj.nm _ _ _ ae,World.heap_alloc_new _ _⟩
      refine .iy ⟨_,_,.pointer (some ⟨w.heap.size,0,none⟩),?_,⟨_,fI _ _ _,rfl⟩,r1,r2⟩
      have gN:(getObj i.bb).run P w=.ok (.map ⟨ents⟩ c) w:=by simp[getObj,Sem.run,ax]
      rw[aC]
      simp only[Instr.range,Sem.run_bind,bN hu,Result.andThen_ok,gN,Sem.run_pure,run_newObj]
      rfl
    · trivial
  · trivial
 case next it isStr=>exact rY λv aT h=>MY aj (ak it) h
 case entry it=>exact qs λv h=>M3 aj (ak it) h
 case typeAssert x xT as ok=>
  have aa:=ak x
  split
  · trivial
  · rename_i d dK hu ab
    obtain⟨t1,_,_⟩:=F0 (P:=P) (w:=w) (xT:=xT) (ok:=ok) hu (λm e=>dK m (e▸rfl)) aa
    split
    · rename_i di
      split
      · rename_i z a4;exact .of_same aj (t1 z ab di a4)
      · trivial
    · trivial
  · rename_i d t v dK hu ab
    obtain⟨_,t2,t3⟩:=F0 (P:=P) (w:=w) (xT:=xT) (ok:=ok) hu (λm e=>dK m (e▸rfl)) aa
    split
    · rename_i he;subst he;exact .of_same aj (t2 v ab)
    · rename_i dk
      split
      · rename_i di
        split
        · rename_i z a4;exact .of_same aj (t3 t v z ab dk di a4)
        · trivial
      · trivial
  · trivial
 case extract t i=>
  have aa:=ak t
  split
  · rename_i vs ab
    rw[ab] at aa
    exact vT aj λv h=>Nf aa h
  · trivial
 case call c=>exact Nx aj ak c type
 case go=>trivial
 case defer c=>
  split
  · rename_i f hf
    split
    · rename_i k first aK ab
      have aa:=ak f
      rw[ab] at aa
      obtain⟨cc,cs,_,aw,aQ⟩:=F8 (P:=P) (w:=w) aa (yB ak c.args)
      refine⟨_,?_,.call k _ cs _ aw⟩
      simp only[resolve,hf,Sem.run_bind]
      have Bl:(Deferred.ofValue (ck f) (c.args.map ck)).run P w=.ok {target:=.fn (.func k) ⟨cs⟩,args:=⟨cc++(c.args.map ck).toList⟩} w:=aQ
      rw[Bl];rfl
    · trivial
  · trivial
 case panic x=>
  have aa:=ak x
  split
  · rename_i t v ab
    rw[ab] at aa
    obtain⟨y,a2,aC⟩:=aa
    refine⟨rfl,.iface t y,?_,⟨y,rfl,aC⟩⟩
    rw[a2];rfl
  · trivial
 all_goals trivial
end
end aB
namespace aB
open Go
section
variable {P:Program} {μ:bg} {w:World}
def qu(P:Program)(μ:bg)(w:World)(s:Sem Value)(e:TypeId)(cs:List I)(val:Addr->Value):Prop:=
 ∃us:List Value,b4 μ cs us/\s.run P w=.ok (val ⟨w.heap.size,0,none⟩) (w.alloc (.cells ⟨us⟩ e))
theorem Ga(el:TypeId)(us:List Value):(_root_.Go.newRow el ⟨us⟩).run P w=.ok ⟨w.heap.size,0,none⟩ (w.alloc (.cells ⟨us⟩ el)):=by simp[_root_.Go.newRow]
theorem NB{e:TypeId}{z:I}(a4:ea P e=some z):qu P μ w (Instr.alloc e true (.tuple #[])) e z.cells (λa=>.pointer (some a)):=by
 obtain⟨v,aC,rfl,af⟩:=k_ (w:=w) a4
 refine⟨v.cells.toList,(jw μ v).cells af,?_⟩
 simp[Instr.alloc,aC,newVar,_root_.Go.newRow]
theorem NC{e:TypeId}{x:I}{v:Value}(aC:a9 μ x v)(af:x≠ .bad):qu P μ w (Instr.box e v) e x.cells (λa=>.pointer (some a)):=by
 refine⟨v.cells.toList,aC.cells af,?_⟩
 simp[Instr.box,newVar,_root_.Go.newRow]
theorem ND(g:Operand->I)(ck:Operand->Value)(ak:∀x,a9 μ (g x) (ck x)){t e:TypeId}{len sz:Nat}{z:I}(hu:P.underlying t=some (.slice e))(hs:dd P e=some sz)
  (a4:ea P e=some z)(hle:len*sz<=16777216)(mG:z.cells.length=sz)(parts:Array (Nat×Operand)){cs:List I}
  (hf:iO (λi=>some (i*sz,sz)) (if len*sz=0 then[] else eD len z.cells) (parts.toList.map λp=>(p.1,g p.2))=some cs):
  qu P μ w (Instr.buildSlice t len (parts.map λ(i,x)=>(i,ck x))) e cs (λa=>.slice (some a) len len):=by
 obtain⟨v,aC,rfl,af⟩:=k_ (w:=w) a4
 have ag:=(jw μ v).cells af
 have np:¬(len*sz>2^24):=by omega
 have key:∀zero:Array Value,b4 μ (if len*sz=0 then[] else eD len (nc v).cells) ((Array.range (len*sz)).map (λi=>zero[i %zero.size]!)).toList->
   (∀r:Result Value,r=(match Instr.fill (λi=>some (i*sz,sz)) ((Array.range (len*sz)).map (λi=>zero[i %zero.size]!)) (parts.toList.map λp=>(p.1,ck p.2)) with
    |some cells=>do pure (.slice (some (<-_root_.Go.newRow e cells)) len len)
    |none=>stuck "buildSlice: a part of the wrong size" :Sem Value).run P w->(Instr.buildSlice t len (parts.map λ(i,x)=>(i,ck x))).run P w=r)->
   qu P μ w (Instr.buildSlice t len (parts.map λ(i,x)=>(i,ck x))) e cs (λa=>.slice (some a) len len):=by
  intro zero lO eH
  obtain⟨c',aa,ad⟩:=vy _ g ck ak parts.toList _ cs _ lO hf
  refine⟨c',ad,eH _ ?_⟩
  rw[aa]
  simp[Ga]
 by_cases h0:len*sz=0
 · refine key #[] (by rw[if_pos h0,h0];simp[b4]) λr ai=>?_
   rw[ai]
   simp only[Instr.buildSlice,Sem.run_bind,bN hu,Result.andThen_ok,run_sizeOf hs,if_neg np,if_pos h0,Sem.run_pure,Array.toList_map]
   generalize Instr.fill _ _ _=F
   cases F<;>rfl
 · refine key v.cells (by rw[if_neg h0];exact vB ag mG len) λr ai=>?_
   rw[ai]
   simp only[Instr.buildSlice,Sem.run_bind,bN hu,Result.andThen_ok,run_sizeOf hs,if_neg np,if_neg h0,Sem.run_pure,Array.toList_map,aC]
   generalize Instr.fill _ _ _=F
   cases F<;>rfl
theorem NF{t e:TypeId}{l c:Nat}{i:TypeInfo}{z:I}{kl kc:IntKind}(hu:P.underlying t=some (.slice e))(ae:P.info? e=some i)(a4:ea P e=some z)(qb:l<=c)
  (tD:c*(i.bytes+1)<=1099511627776)(mG:z.cells.length=i.size):
  qu P μ w (Instr.makeSlice t (.int kl l) (.int kc c)) e (if c*i.size=0 then[] else eD c z.cells) (λa=>.slice (some a) l c):=by
 obtain⟨v,aC,rfl,af⟩:=k_ (w:=w) a4
 have ag:=(jw μ v).cells af
 have AQ:c<=1099511627776:=Nat.le_trans (Nat.le_mul_of_pos_right c (by omega)) tD
 have ke:i.bytes*c<=1099511627776:=by
  have:c*i.bytes<=c*(i.bytes+1):=Nat.mul_le_mul_left c (by omega)
  rw[Nat.mul_comm];omega
 have vC:∀n:Nat,n<=1099511627776->IntKind.wrap .i64 (n:Int)=(n:Int):=λn aI=>rH n (by omega)
 have hZ:=vC l (by omega)
 have vD:=vC c AQ
 have rI:¬((c:Int)<0||(i.bytes:Int)*(c:Int)>2^48||(l:Int)<0||(l:Int)>(c:Int))=true:=by
  have aa:((i.bytes:Int)*(c:Int))<=1099511627776:=by
   have h0:((i.bytes*c:Nat):Int)<=1099511627776:=by omega
   rw[Int.natCast_mul] at h0;exact h0
  have ad:(2:Int)^48=281474976710656:=by rfl
  generalize (i.bytes:Int)*(c:Int)=q at aa⊢
  rw[ad]
  simp only[Bool.or_eq_true,decide_eq_true_eq]
  omega
 have key:∀zero:Array Value,b4 μ (if c*i.size=0 then[] else eD c (nc v).cells) ((Array.range (c*i.size)).map (λj=>zero[j %zero.size]!)).toList->
   (Instr.makeSlice t (.int kl l) (.int kc c)).run P w=(do let a<-_root_.Go.newRow e ((Array.range (c*i.size)).map (λj=>zero[j %zero.size]!));pure (.slice (some a) l c):Sem Value).run P w->
   qu P μ w (Instr.makeSlice t (.int kl l) (.int kc c)) e (if c*i.size=0 then[] else eD c (nc v).cells) (λa=>.slice (some a) l c):=by
  intro zero lO eH
  refine⟨_,lO,?_⟩
  rw[eH]
  simp only[Sem.run_bind,Sem.run_pure]
  have aN:=Ga (P:=P) (w:=w) e ((Array.range (c*i.size)).map (λj=>zero[j %zero.size]!)).toList
  have:(⟨((Array.range (c*i.size)).map (λj=>zero[j %zero.size]!)).toList⟩:Array Value)=((Array.range (c*i.size)).map (λj=>zero[j %zero.size]!)):=rfl
  rw[this] at aN
  rw[aN];rfl
 have bH:(_root_.Go.sizeOf e).run P w=.ok i.size w:=by simp[_root_.Go.sizeOf,run_typeInfo ae]
 by_cases h0:c*i.size=0
 · refine key #[] (by rw[if_pos h0,h0];simp[b4]) ?_
   simp only[Instr.makeSlice,Sem.run_bind,bN hu,Result.andThen_ok,asInt,asIntOf,Sem.run_pure,run_typeInfo ae,hZ,vD]
   rw[if_neg rI]
   simp[bH,h0]
 · refine key v.cells (by rw[if_neg h0];exact vB ag mG c) ?_
   simp only[Instr.makeSlice,Sem.run_bind,bN hu,Result.andThen_ok,asInt,asIntOf,Sem.run_pure,run_typeInfo ae,hZ,vD]
   rw[if_neg rI]
   simp[bH,h0,aC]
structure Laid(P:Program)(μ:bg)(w:World)(s:Sem Next)(b:Nat)(v:I)(cN:cp)(u:Value)(X:Obj)(sz:Nat):Prop where
 run:s.run P w=.ok (.value u) (w.alloc X)
 val:∀aM,eF μ aM->aM b=some ⟨w.heap.size,0,sz⟩->a9 aM v u
 obj:∀aM w',eF μ aM->w'.heap[w.heap.size]? =some X->mC aM cN ⟨w.heap.size,0,sz⟩ w'
 ro:cN.mD=false
theorem qu.laid{s:Sem Value}{e:TypeId}{cs:List I}{val:Addr->Value}(h:qu P μ w s e cs val){b:Nat}{v:I}(aC:∀aM sz,aM b=some ⟨w.heap.size,0,sz⟩->a9 aM v (val ⟨w.heap.size,0,none⟩)):
  ∃u X sz,Laid P μ w (do pure (.value (<-s))) b v (.cells cs e .own 0 0) u X sz:=by
 obtain⟨us,aa,ad⟩:=h
 refine⟨_,.cells ⟨us⟩ e,us.length,by simp[ad],λaM _ hm=>aC aM _ hm,λaM w' hle bo=>?_,rfl⟩
 exact⟨⟨us⟩,0,0,bo,λj v aG=>by
  obtain⟨u,hu,ai⟩:=aa.get aG
  exact⟨u,by simpa using hu,ai.mono hle⟩,by simp,rfl,aa.length.symm,rfl,rfl⟩
theorem NG(o:Oper){g:Operand->I}{ck:Operand->Value}(ak:∀x,a9 μ (g x) (ck x)){b:Nat}{v:I}{cN:cp}(h:ju P o.op g b=some (v,cN)):
  ∃u X sz,Laid P μ w (execOp ck o) b v cN u X sz:=by
 obtain⟨dst,op,type,pos,after,guard⟩:=o
 cases op<;>simp only[ju] at h<;>try (cases h;done)
 case alloc e=>
  split at h
  · rename_i z a4
    split at h
    · cases h
      exact(NB a4).laid λaM sz hm=>⟨_,hm,rfl⟩
    · cases h
  · cases h
 case box e x=>
  split at h
  · rename_i e7
    cases h
    have af:g x≠ .bad:=by intro e;rw[e] at e7;simp[I.cells,I.b0] at e7
    exact(NC (ak x) af).laid λaM sz hm=>⟨_,hm,rfl⟩
  · cases h
 case buildSlice t len parts=>
  split at h
  · rename_i e hu
    split at h
    · rename_i sz z hs a4
      split at h
      · rename_i cs ag hf
        rw[Bool.and_eq_true,Nat.ble_eq,Nat.beq_eq] at ag
        split at h
        · cases h
          exact(ND g ck ak hu hs a4 ag.1 ag.2 parts hf).laid λaM sz hm=>⟨_,hm,rfl⟩
        · cases h
      · cases h
    · cases h
  · cases h
 case makeMap t r=>
  cases r with
  |some x=>cases h
  |none=>
   cases h
   exact⟨.map (some w.heap.size),.map #[] 0,0,rfl,λaM _ hm=>⟨_,hm,rfl⟩,λaM w' _ bo=>⟨[],bo,rfl⟩,rfl⟩
 case makeSlice t l c=>
  split at h
  · rename_i e ob c' hu aq ag
    obtain⟨kl,el⟩:=qt aq (ak l)
    obtain⟨kc,vU⟩:=qt ag (ak c)
    split at h
    · rename_i i z ae a4
      split at h
      · rename_i cs jT
        split at h
        · cases h
          rw[Bool.and_eq_true,Bool.and_eq_true,Nat.ble_eq,Nat.beq_eq,decide_eq_true_eq] at jT
          have:=(NF (P:=P) (μ:=μ) (w:=w) (kl:=kl) (kc:=kc) hu ae a4 jT.1.1 jT.1.2 jT.2).laid (b:=b) (v:=.slice b 0 ob (.exact c')) λaM sz hm=>⟨_,hm,rfl⟩
          simp only[execOp,el,vU]
          exact this
        · cases h
      · cases h
    · cases h
  · cases h
end
end aB
namespace aB
open Go
def ha(P:Program)(μ:bg):Prop:=∀g,g<P.globals.size->∃i,μ g=some i/\i.bb=g/\i.base=0
theorem ha.mono{P:Program}{μ aM:bg}(h:ha P μ)(hle:eF μ aM):ha P aM:=λg ak=>let⟨i,aa,ad⟩:=h g ak;⟨i,hle _ _ aa,ad⟩
def Ends(μ:bg)(H:J)(w:World):ao->Ending->World->Prop
 |.ret v aT,e,w'=>∃aM u,e=.returned u/\a9 aM v u/\bn aM aT w'/\b5 μ H w aM aT w'
 |.b1 v aT,e,w'=>∃aM u,e=.panicked [{v:=u,recovered:=false}]/\a9 aM v u/\bn aM aT w'/\b5 μ H w aM aT w'
 |.fail _,_,_=>True
def ao.kG:ao->Bool
 |.fail _=>false
 |_=>true
def tI(P:Program)(f:FuncId)(vs:List Value)(w:World)(R:Ending->World->Prop):Prop:=
 (∃v w',(callFunc f ⟨vs⟩).run P w=.ok (.value v) w'/\R (.returned v) w')\/
 ((callFunc f ⟨vs⟩).run P w=.ok (.enter f ⟨vs⟩) w/\Calls P f ⟨vs⟩ w R)
def qv(P:Program)(m:Machine)(c:Frame)(cs:List Frame)(R:Ending->World->Prop):Prop:=
 ∃e w',R e w'/\match e with
  |.returned v=>Steps P m (lone (c.finish v) cs w')
  |.panicked chain=>Steps P m (lone (c.raise chain) cs w')
  |.outgrown=>False
def Gb(P:Program)(l:Nat)(vs:List Value)(w:World)(R:Ending->World->Prop):Prop:=
 ∃f tmps assign body,(Instr.yield l ⟨vs⟩).run P w=.ok (.round l f tmps assign body) w/\∀c cs,qv P (lone (Frame.round l f tmps assign body .normal) (c::cs) w) c cs R
structure lh(P:Program)(call:aF->List I->J->ao):Prop where
 fn:∀f args H,(call (.fn f) args H).kG=true->∀μ w (vs:List Value),bn μ H w->ha P μ->b4 μ args vs->tI P f vs w (Ends μ H w (call (.fn f) args H))
 b8:∀l args H,(call (.b8 l) args H).kG=true->∀μ w i (vs:List Value),bn μ H w->ha P μ->μ l=some i->b4 μ args vs->Gb P i.bb vs w (Ends μ H w (call (.b8 l) args H))
theorem qv.of_steps{P:Program}{m cM:Machine}{c:Frame}{cs:List Frame}{R:Ending->World->Prop}(h:Steps P m cM)(an:qv P cM c cs R):qv P m c cs R:=by
 obtain⟨e,w',ai,hs⟩:=an
 refine⟨e,w',ai,?_⟩
 cases e with
 |returned v=>exact h.trans hs
 |panicked NH=>exact h.trans hs
 |outgrown=>exact hs.elim
theorem Gc{P:Program}{f:FuncId}{args:Array Value}{w:World}{R:Ending->World->Prop}(gl:∀w',¬R .outgrown w')(h:Calls P f args w R)(c:Frame)(cs:List Frame):
  qv P (lone (Frame.enter P f args .normal) (c::cs) w) c cs R:=by
 obtain⟨e,w',cz,ai,ag,_,aq⟩:=h (c::cs)
 refine⟨e,w',ai,?_⟩
 cases e with
 |returned v=>exact Steps.trans ag (.one (step_leave_returned aq))
 |panicked NH=>exact Steps.trans ag (.one (step_leave_panicked aq))
 |outgrown=>exact(gl _ ai).elim
def hA(μ:bg)(kind:CallKind)(cs0:List Frame):bE->List Frame->Prop
 |.none,cs=>cs=cs0/\∀cz:Frame,cz.kind=kind->tryRecover cz cs0=none
 |.act v,cs=>cs=cs0/\kind=.deferred/\∃c rest u,cs0=c::rest/\c.mode=.panicking [{v:=u,recovered:=false}]/\a9 μ v u
 |.done v,cs=>kind=.deferred/\∃c rest u,cs0=c::rest/\c.mode=.panicking [{v:=u,recovered:=false}]/\a9 μ v u/\cs={c with mode:=.panicking [{v:=u,recovered:=true}]}::rest
theorem hA.mono{μ aM:bg}(hle:eF μ aM){kind:CallKind}{cs0 cs:List Frame}{q:bE}(h:hA μ kind cs0 q cs):hA aM kind cs0 q cs:=by
 cases q with
 |none=>exact h
 |act v=>obtain⟨aa,ad,c,rest,u,aw,aQ,bS⟩:=h;exact⟨aa,ad,c,rest,u,aw,aQ,bS.mono hle⟩
 |done v=>obtain⟨aa,c,rest,u,aw,aQ,bS,dm⟩:=h;exact⟨aa,c,rest,u,aw,aQ,bS.mono hle,dm⟩
section
variable {P:Program} {μ:bg} {H:J} {w:World}
theorem Bm{b:Frame}{a:Act}{ops:Array Oper}{i:Nat}{rest:List Nat}{k:List Item}{cs:List Frame}{s:Sem Next}
  (cf:stepG P true {frame:=b.atR a (.inRegion ops (i::rest)::k),callers:=cs,status:=.running,dying:=none} w=stepG.apply P true (b.atR a (.inRegion ops (i::rest)::k)) cs none s w):
  (∀v w',s.run P w=.ok (.value v) w'->Steps P (lone (b.atR a (.inRegion ops (i::rest)::k)) cs w) (lone ((b.atR a (.inRegion ops (i::rest)::k)).finish v) cs w'))/\
  (∀w',s.run P w=.ok .skip w'->Steps P (lone (b.atR a (.inRegion ops (i::rest)::k)) cs w) (lone ((b.atR a (.inRegion ops (i::rest)::k)).finish undef) cs w'))/\
  (∀u w',s.run P w=.halt (.panic u) w'->Steps P (lone (b.atR a (.inRegion ops (i::rest)::k)) cs w) (lone ((b.atR a (.inRegion ops (i::rest)::k)).raise [{v:=u,recovered:=false}]) cs w'))/\
  (∀d w',s.run P w=.ok (.defer d) w'->Steps P (lone (b.atR a (.inRegion ops (i::rest)::k)) cs w) (lone (b.atR ({a with defers:=d::a.defers}.put ((ops[i]?).bind (·.dst)) undef) (.inRegion ops rest::k)) cs w'))/\
  (∀f args w',s.run P w=.ok (.enter f args) w'->Steps P (lone (b.atR a (.inRegion ops (i::rest)::k)) cs w) (lone (Frame.enter P f args .normal) (b.atR a (.inRegion ops (i::rest)::k)::cs) w'))/\
  (∀l f tmps assign body w',s.run P w=.ok (.round l f tmps assign body) w'->Steps P (lone (b.atR a (.inRegion ops (i::rest)::k)) cs w) (lone (Frame.round l f tmps assign body .normal) (b.atR a (.inRegion ops (i::rest)::k)::cs) w'))/\
  (b.roundOf=none->∀w',s.run P w=.ok .recover w'->∀v bX,tryRecover (b.atR a (.inRegion ops (i::rest)::k)) cs=some (v,bX)->Steps P (lone (b.atR a (.inRegion ops (i::rest)::k)) cs w) (lone ((b.atR a (.inRegion ops (i::rest)::k)).finish v) bX w'))/\
  (b.roundOf=none->∀w',s.run P w=.ok .recover w'->tryRecover (b.atR a (.inRegion ops (i::rest)::k)) cs=none->Steps P (lone (b.atR a (.inRegion ops (i::rest)::k)) cs w) (lone ((b.atR a (.inRegion ops (i::rest)::k)).finish .nilIface) cs w')):=by
 refine⟨λv w' ai=>.one (step_lone_go ?_),λw' ai=>.one (step_lone_go ?_),λu w' ai=>.one (step_lone_go ?_),λd w' ai=>.one (step_lone_go ?_),λf args w' ai=>.one (step_lone_go ?_),λl f tmps assign body w' ai=>.one (step_lone_go ?_),λaf w' ai v bX aU=>.one (step_lone_go ?_),λaf w' ai aU=>.one (step_lone_go ?_)⟩
 · rw[cf];simp[stepG.apply,ai]
 · rw[cf];simp[stepG.apply,ai]
 · rw[cf];simp[stepG.apply,ai]
 · rw[cf]
   have:=Frame.finish_atR b {a with defers:=d::a.defers} ops i rest k undef
   simp only[stepG.apply,Sem.runT_eq,ai,GStep.bare_after]
   exact congrArg (λcz=>GStep.go {frame:=cz,callers:=cs,status:=.running,dying:=none} w') this
 · rw[cf];simp[stepG.apply,ai,Frame.atR]
 · rw[cf];simp[stepG.apply,ai,Frame.atR]
 · rw[cf]
   have gz:(b.atR a (.inRegion ops (i::rest)::k)).roundOf=none:=af
   simp[stepG.apply,ai,gz,aU]
 · rw[cf]
   have gz:(b.atR a (.inRegion ops (i::rest)::k)).roundOf=none:=af
   simp[stepG.apply,ai,gz,aU]
def Bn(P:Program)(μ:bg)(H:J)(w:World)(b:Frame)(a:Act)(ops:Array Oper)(o:Oper)(i:Nat)(rest:List Nat)(k:List Item)(cs0 cs:List Frame):vk->Prop
 |.ok v bx bG aT=>∃aM w' u rZ bX,Steps P (lone (b.atR a (.inRegion ops (i::rest)::k)) cs w) (lone (b.atR {tmps:=(a.put o.dst u).tmps,defers:=rZ} (.inRegion ops rest::k)) bX w')/\
   a9 aM v u/\bn aM aT w'/\b5 μ H w aM aT w'/\fW aM bx rZ/\hA aM b.kind cs0 bG bX
 |.b1 v bx bG aT=>∃aM w' u,Steps P (lone (b.atR a (.inRegion ops (i::rest)::k)) cs w) (lone {b.atR a (.inRegion ops (i::rest)::k) with mode:=.panicking [{v:=u,recovered:=false}]} cs w')/\
   a9 aM v u/\bn aM aT w'/\b5 μ H w aM aT w'/\fW aM bx a.defers/\hA aM b.kind cs0 bG cs
 |.fail _=>True
theorem put_defers(a:Act)(dst:Option Tmp)(u:Value):(a.put dst u).defers=a.defers:=by cases dst<;>rfl
theorem yC(a:Act)(dst:Option Tmp)(u:Value):a.put dst u={tmps:=(a.put dst u).tmps,defers:=a.defers}:=by cases dst<;>rfl
theorem NI(a:Act)(aW:List Deferred)(dst:Option Tmp)(u:Value):({a with defers:=aW}:Act).put dst u={tmps:=(a.put dst u).tmps,defers:=aW}:=by cases dst<;>rfl
theorem Gd{b:Frame}{a:Act}{ops:Array Oper}{o:Oper}{i:Nat}{rest:List Nat}{k:List Item}{cs0 cs:List Frame}(a7:ops[i]? =some o){d:List bP}{q:bE}
  (aA:fW μ d a.defers)(bp:hA μ b.kind cs0 q cs){r:ao}{m:Machine}(hs:Steps P (lone (b.atR a (.inRegion ops (i::rest)::k)) cs w) m)
  (aq:qv P m (b.atR a (.inRegion ops (i::rest)::k)) cs (Ends μ H w r)):Bn P μ H w b a ops o i rest k cs0 cs (vl d q r):=by
 obtain⟨e,w',ai,cf⟩:=aq
 cases r with
 |ret v aT=>
  obtain⟨aM,u,rfl,aa,ad,aw⟩:=ai
  refine⟨aM,w',u,a.defers,cs,hs.trans ?_,aa,ad,aw,aA.mono aw.le,bp.mono aw.le⟩
  have:(b.atR a (.inRegion ops (i::rest)::k)).finish u=b.atR {tmps:=(a.put o.dst u).tmps,defers:=a.defers} (.inRegion ops rest::k):=by
   rw[Frame.finish_atR,a7,<-yC];rfl
  rw[<-this];exact cf
 |b1 v aT=>
  obtain⟨aM,u,rfl,aa,ad,aw⟩:=ai
  exact⟨aM,w',u,hs.trans cf,aa,ad,aw,aA.mono aw.le,bp.mono aw.le⟩
 |fail w=>trivial
theorem yD{r:ao}(h:r.kG=false):∃s,r=.fail s:=by
 cases r with
 |fail s=>exact⟨s,rfl⟩
 |_=>cases h
theorem Bo{r:ao}(ak:r.kG=true):∀w',¬Ends μ H w r .outgrown w':=by
 intro w' h
 cases r with
 |ret v aT=>obtain⟨_,_,e,_⟩:=h;cases e
 |b1 v aT=>obtain⟨_,_,e,_⟩:=h;cases e
 |fail s=>cases ak
theorem Ge{call:aF->List I->J->ao}(ag:lh P call)(aj:bn μ H w)(oc:ha P μ){b:Frame}{a:Act}{ops:Array Oper}{o:Oper}{i:Nat}{rest:List Nat}{k:List Item}{cs0 cs:List Frame}
  (a7:ops[i]? =some o){gd:Option (I×Bool)}(gC:∀od,eb gd=some od->Region.wanted o (yielded ops a.tmps)=od){g:Operand->I}(ak:∀x,a9 μ (g x) (a.eval x)){d:List bP}{q:bE}
  (aA:fW μ d a.defers)(bp:hA μ b.kind cs0 q cs){inR:Bool}(cY:inR=b.roundOf.isSome):Bn P μ H w b a ops o i rest k cs0 cs (dG P inR call gd o g d q H):=by
 unfold dG
 have ns:∀u,(b.atR a (.inRegion ops (i::rest)::k)).finish u=b.atR {tmps:=(a.put o.dst u).tmps,defers:=a.defers} (.inRegion ops rest::k):=λu=>by
  rw[Frame.finish_atR,a7,<-yC];rfl
 split
 · trivial
 · rename_i hw
   have Bp:=gC _ hw
   refine⟨μ,w,undef,a.defers,cs,?_,⟨[],rfl,rfl⟩,aj,b5.refl _ _ _,aA,bp⟩
   have hs:=stepR_op_skip (P:=P) (b:=b) (a:=a) (k:=k) (cs:=cs) (w:=w) (ops:=ops) (i:=i) (rest:=rest) (by simp[a7,Bp])
   rw[a7] at hs
   have he:a.put ((some o).bind (·.dst)) undef={tmps:=(a.put o.dst undef).tmps,defers:=a.defers}:=yC a o.dst undef
   rw[he] at hs
   exact .one hs
 · rename_i hw
   have Bq:=gC _ hw
   have cf:=stepGR_op (P:=P) (b:=b) (a:=a) (k:=k) (cs:=cs) (w:=w) (rest:=rest) a7 Bq
   have fD:=Nz (P:=P) aj o ak
   by_cases Gf:b.roundOf.isSome=true/\∃c,o.op=.defer c
   · obtain⟨ai,c,NJ⟩:=Gf
     have:(∃x,cA P o g H=.jn x)\/∃s,cA P o g H=.fail s:=by
      unfold cA
      rw[NJ]
      simp only
      split
      · split
        · exact .inl ⟨_,rfl⟩
        · exact .inr ⟨_,rfl⟩
      · exact .inr ⟨_,rfl⟩
     rcases this with⟨x,e⟩|⟨s,e⟩
     · rw[e];simp only[cY,ai,if_true];trivial
     · rw[e];trivial
   · have vV:o.semAt b.roundOf a.eval=execOp a.eval o:=by
       cases gV:b.roundOf with
       |none=>rfl
       |some l=>exact Oper.semAt_eq _ _ _ λc e=>Gf ⟨by rw[gV];rfl,c,e⟩
     rw[vV] at cf
     obtain⟨al,ar,aZ,cb,da,e2,hp,kH⟩:=Bm cf
     cases fS:cA P o g H with
     |val v aT=>
      rw[fS] at fD
      obtain⟨aM,w',u,ai,aa,ad,aw⟩:=fD
      refine⟨aM,w',u,a.defers,cs,?_,aa,ad,aw,aA.mono aw.le,bp.mono aw.le⟩
      rw[<-ns]
      rcases ai with ai|⟨rfl,ai⟩
      · exact al _ _ ai
      · exact ar _ ai
     |b1 v aT=>
      rw[fS] at fD
      obtain⟨rfl,u,ai,aa⟩:=fD
      exact⟨μ,w,u,aZ _ _ ai,aa,aj,b5.refl _ _ _,aA,bp⟩
     |call f args aT=>
      rw[fS] at fD
      obtain⟨rfl,vs,ai,aa⟩:=fD
      simp only
      cases bY:(call (.fn f) args aT).kG with
      |false=>obtain⟨s,hs⟩:=yD bY;rw[hs];trivial
      |true=>
       rcases ag.fn f args aT bY μ w vs aj oc aa with⟨v,w',aV,aY⟩|⟨aV,aY⟩
       · rw[<-ai] at aV
         have hs:=al _ _ aV
         cases Gg:call (.fn f) args aT with
         |fail s=>trivial
         |ret v' aE=>
          rw[Gg] at aY
          obtain⟨aM,u,e,ad,aw,aQ⟩:=aY
          cases e
          exact⟨aM,w',_,a.defers,cs,by rw[<-ns];exact hs,ad,aw,aQ,aA.mono aQ.le,bp.mono aQ.le⟩
         |b1 v' aE=>
          rw[Gg] at aY
          obtain⟨aM,u,e,ad,aw,aQ⟩:=aY
          cases e
       · rw[<-ai] at aV
         have hs:=da _ _ _ aV
         exact Gd a7 aA bp hs (Gc (Bo bY) aY _ _)
     |b8 l args aT=>
      rw[fS] at fD
      obtain⟨rfl,dW,vs,aq,ai,aa⟩:=fD
      simp only
      cases bY:(call (.b8 l) args aT).kG with
      |false=>obtain⟨s,hs⟩:=yD bY;rw[hs];trivial
      |true=>
       obtain⟨f,tmps,as,cj,aV,aY⟩:=ag.b8 l args aT bY μ w dW vs aj oc aq aa
       rw[<-ai] at aV
       have hs:=e2 _ _ _ _ _ _ aV
       exact Gd a7 aA bp hs (aY _ _)
     |jn x=>
      rw[fS] at fD
      obtain⟨qq,ai,aa⟩:=fD
      simp only
      split
      · trivial
      · refine⟨μ,w,undef,qq::a.defers,cs,?_,⟨[],rfl,rfl⟩,aj,b5.refl _ _ _,⟨_,_,rfl,aa,aA⟩,bp⟩
        have hs:=cb _ _ ai
        rw[a7] at hs
        have he:({a with defers:=qq::a.defers}:Act).put ((some o).bind (·.dst)) undef={tmps:=(a.put o.dst undef).tmps,defers:=qq::a.defers}:=NI a _ o.dst undef
        rw[he] at hs
        exact hs
     |ry=>
      rw[fS] at fD
      have ai:(execOp a.eval o).run P w=.ok .recover w:=fD
      simp only
      split
      · trivial
      · rename_i yq
        have vW:b.roundOf=none:=by
         cases gV:b.roundOf with
         |none=>rfl
         |some l=>rw[gV] at cY;exact absurd cY yq
        have av:(b.atR a (.inRegion ops (i::rest)::k)).kind=b.kind:=rfl
        split
        · obtain⟨rfl,aU⟩:=bp
          refine⟨μ,w,.nilIface,a.defers,cs,?_,rfl,aj,b5.refl _ _ _,aA,⟨rfl,aU⟩⟩
          rw[<-ns]
          exact kH vW _ ai (aU _ av)
        · have yE:=bp
          obtain⟨lW,c,rs,u,ax,ay,bF,rfl⟩:=bp
          refine⟨μ,w,.nilIface,a.defers,_,?_,rfl,aj,b5.refl _ _ _,aA,yE⟩
          rw[<-ns]
          refine kH vW _ ai ?_
          have vX:(b.atR a (.inRegion ops (i::rest)::k)).kind=.deferred:=av.trans lW
          simp only[tryRecover,vX]
        · obtain⟨rfl,lW,c,rs,u,ax,ay,bF⟩:=bp
          subst ax
          refine⟨μ,w,u,a.defers,{c with mode:=.panicking [{v:=u,recovered:=true}]}::rs,?_,bF,aj,b5.refl _ _ _,aA,⟨lW,c,rs,u,rfl,ay,bF,rfl⟩⟩
          rw[<-ns]
          refine hp vW _ ai _ _ ?_
          have vX:(b.atR a (.inRegion ops (i::rest)::k)).kind=.deferred:=av.trans lW
          simp only[tryRecover,vX,ay]
     |fail s=>trivial
end
end aB
