/-
  THE ABSTRACT EVALUATOR (operations): a deterministic semantics of loaded code, and the proof that its runs are runs of the program in the model, whatever the tape draws. No condition.
-/
import Derived.Test.YtfooahfebojldaaGreatDoorAea
import Derived.ChangeKeysEq
import Derived.Laws.StructEq
import Derived.AtR
set_option linter.unusedVariables false
set_option linter.unusedSimpArgs false
namespace ay
open Go
section
variable {P:Program} {μ:bl} {H:aa} {w:World}
theorem AY{b off n:Nat}{cs:List J}(h:loadCells H b off n=some cs):cs.length=n:=by
 unfold loadCells at h
 split at h
 · obtain⟨ab,rfl⟩:=s7 _ _ _ h
   simp;omega
 · cases h
theorem AZ:∀l:List UInt8,(cy l).length=l.length
 |[]=>rfl
 |_::l=>by simp[cy,AZ l]
theorem I4{size n:Nat}{x:J}{cs:List J}(h:hP H size x=some (n,cs)):cs.length=n*size:=by
 cases x<;>simp only[hP] at h<;>try cases h
 · split at h<;>cases h
   rw[AZ];simp
 · simp
 · rename_i b off len cap
   cases cap with
   |dead=>
    simp only at h
    split at h
    · cases h;simp
    · cases h
   |exact c=>
    simp only at h
    split at h
    · rename_i bS aw;cases h;exact AY aw
    · cases h
   |aM gG=>
    simp only at h
    split at h
    · rename_i bS aw;cases h;exact AY aw
    · cases h
theorem Rr(aj:bm μ H w){argTypes:Array TypeId}{ty sT:TypeId}(h0:argTypes[0]? =some sT){s x:J}{np br:Value}(hs:bd μ s np)(ad:bd μ x br){v:J}{aZ:aa}
  (h:gl P H sT argTypes[1]? s x=some (v,aZ)):fs P μ H w (Builtin.append_ argTypes ty #[np,br]) v aZ:=by
 unfold gl at h
 split at h
 · rename_i e hu fL
   split at h
   · rename_i i z af a0
     split at h
     · cases h
     · rename_i n cs gU
       obtain⟨aw,us,lY,lo⟩:=AS (P:=P) aj ad gU
       have hd:=I4 gU
       cases s<;>(try simp only at h)<;>try cases h
       ·
        cases hs
        cases n with
        |zero=>
         cases h
         have:=xO (P:=P) (ty:=ty) h0 rfl hu fL af (base:=none) (sLen:=0) (sCap:=0) aw lY (by omega)
         exact .same aj this rfl
        |succ n=>
         have ao:kY H e i.bytes i.size (0+(n+1)) z ([]++cs) 0=some (v,aZ):=by simpa using h
         exact DW aj h0 rfl hu fL af a0 ad gU (old:=[]) ⟨[],rfl,rfl⟩ (by simp) hd (by omega) aj (b4.refl _ _ _) ao
       · rename_i b off len cap
         obtain⟨eB,iS,ah⟩:=hs
         cases cap with
         |dead=>cases h
         |exact cap=>
          cases ah
          simp only at h
          split at h
          · rename_i hle
            have hle:=Nat.le_of_ble_eq_true hle
            have ai:=xO (P:=P) (ty:=ty) h0 rfl hu fL af (base:=some ⟨eB.bg,eB.base+off,none⟩) (sLen:=len) (sCap:=cap) aw lY hle
            simp only[add_plain] at ai
            split at h
            · cases h
              have DY:us=[]:=by
               have ab:=hd;have ae:=lo.length
               cases us with
               |nil=>rfl
               |cons a l=>simp at ab ae;omega
              subst DY
              refine .same aj (v':=.slice (some ⟨eB.bg,eB.base+off,none⟩) len cap) ?_ ⟨eB,iS,rfl⟩
              rw[ai];simp[_root_.Go.storeCells]
            · split at h
              · rename_i ab cr
                cases h
                obtain⟨w',aE,aC,bu⟩:=xC (P:=P) aj iS lo cr
                refine⟨μ,w',.slice (some ⟨eB.bg,eB.base+off,none⟩) (len+n) cap,?_,⟨eB,iS,rfl⟩,aC,bu⟩
                rw[ai,Nat.add_assoc,aE];rfl
              · cases h
          · rename_i hle
            have cx:cap<len+n:=by
             rcases Nat.lt_or_ge cap (len+n) with h|h
             · exact h
             · rw[xK h] at hle;cases hle
            split at h
            · rename_i old hold
              obtain⟨os,cT,dE⟩:=rz (P:=P) aj.drew iS hold
              exact DW aj h0 rfl hu fL af a0 ad gU (old:=old) ⟨os,by simp only[Builtin.firstCells];exact cT,dE⟩ (AY hold) hd cx aj (b4.refl _ _ _) h
            · cases h
         |aM gG=>
          obtain⟨cap,rfl,rD,bE⟩:=ah
          simp only at h
          split at h
          · rename_i kF
            simp only[Bool.and_eq_true,Nat.blt_eq] at kF
            have Rs:=Nat.eq_of_beq_eq_true kF.1
            subst Rs
            have AN:=kF.2
            split at h
            · cases h
              have ai:=xO (P:=P) (ty:=ty) h0 rfl hu fL af (base:=some ⟨eB.bg,eB.base+off,none⟩) (sLen:=len) (sCap:=cap) aw lY (by omega)
              simp only[add_plain] at ai
              have DY:us=[]:=by
               have ab:=hd;have ae:=lo.length
               cases us with
               |nil=>rfl
               |cons a l=>simp at ab ae;omega
              subst DY
              refine .same aj (v':=.slice (some ⟨eB.bg,eB.base+off,none⟩) len cap) ?_ ⟨eB,iS,cap,rfl,rD,bE⟩
              rw[ai];simp[_root_.Go.storeCells]
            · split at h
              · rename_i old el aW eQ ag
                have Rt:=aj.rel b _ eB ag iS
                obtain⟨c,fO,fP,aR,aT,bP,eR,ll⟩:=Rt
                split at h
                · rename_i rJ
                  have rJ:=Nat.le_of_ble_eq_true rJ
                  split at h
                  · rename_i ab cr
                    cases h
                    have pg:len+n<=cap:=by
                     have:(len+n)*i.size<=cap*i.size:=by omega
                     exact Nat.le_of_mul_le_mul_right this AN
                    have ai:=xO (P:=P) (ty:=ty) h0 rfl hu fL af (base:=some ⟨eB.bg,eB.base+off,none⟩) (sLen:=len) (sCap:=cap) aw lY pg
                    simp only[add_plain] at ai
                    obtain⟨w',aE,aC,bu⟩:=xC (P:=P) aj iS lo cr
                    refine⟨μ,w',.slice (some ⟨eB.bg,eB.base+off,none⟩) (len+n) cap,?_,⟨eB,iS,cap,rfl,pg,bE⟩,aC,bu⟩
                    rw[ai,Nat.add_assoc,aE];rfl
                  · cases h
                · split at h
                  · rename_i o I5 hold
                    simp only[Bool.and_eq_true] at I5
                    obtain⟨kf,xQ⟩:=I5
                    have kf:=Nat.le_of_ble_eq_true kf
                    have xQ:=Nat.eq_of_beq_eq_true xQ
                    subst xQ
                    have ao:=h
                    unfold kY at h
                    split at h
                    · rename_i I6
                      simp only[Bool.and_eq_true] at I6
                      obtain⟨⟨ta,n_⟩,fI⟩:=I6
                      cases h
                      have xP:=AY hold
                      by_cases rJ:len+n<=cap
                      ·
                       have ai:=xO (P:=P) (ty:=ty) h0 rfl hu fL af (base:=some ⟨eB.bg,eB.base+off,none⟩) (sLen:=len) (sCap:=cap) aw lY rJ
                       simp only[add_plain] at ai
                       have hmul:(len+n)*i.size<=cap*i.size:=Nat.mul_le_mul_right _ rJ
                       have I3:(len+n)*i.size=len*i.size+n*i.size:=Nat.add_mul _ _ _
                       have rE:us.length=n*i.size:=by rw[<-lo.length];exact hd
                       obtain⟨w',c',aE,aC,bu,cX,gJ,eK,eE,fQ,gT⟩:=IJ P eB.bg (eB.base+(off+len*i.size)) us w 0 c el fO fP aR
                        (lo.xA λa a5=>Rg fI a (List.mem_append_right _ a5)) (by omega) (λj vx vy ⟨f1,f2⟩=>by
                         have:=ll (j-eB.base) (by omega) (by omega) (by omega)
                         omega)
                       have Ru:eB.base+off+(eB.size-off)=c'.size:=by rw[fQ,<-bP,<-bE];omega
                       obtain⟨ba,bt⟩:=aj.Ra (w':=w') (o':=.cells (o++cs) el .aM 0 (eQ-off)) ag rfl iS cX bu gJ eK eE.1 (eB.base+off) (eB.size-off) (hdr:=Nat.le_of_eq eE.2.symm)
                        ⟨c',fO,fP,aC,λj a aI=>by
                         show∃u,c'[eB.base+off+j]? =some u/\_
                         rw[gT]
                         by_cases mo:j<o.length
                         · rw[List.getElem?_append_left mo] at aI
                           rw[if_neg (by omega)]
                           unfold loadCells at hold
                           rw[ag] at hold
                           simp only at hold
                           rw[ni] at hold
                           obtain⟨t1,rfl⟩:=s7 _ _ _ hold
                           rw[List.getElem?_take] at aI
                           split at aI
                           · rw[List.getElem?_drop] at aI
                             obtain⟨u,vz,pf⟩:=aT (off+j) a aI
                             exact⟨u,by rw[Nat.add_assoc];exact vz,pf.mono (aj.n6 _)⟩
                           · cases aI
                         · rw[List.getElem?_append_right (by omega)] at aI
                           have I7:j-o.length<cs.length:=by
                            rcases Nat.lt_or_ge (j-o.length) cs.length with h|h
                            · exact h
                            · rw[List.getElem?_eq_none h] at aI;cases aI
                           have acO:=lo.length
                           rw[if_pos (by omega)]
                           obtain⟨u,vz,pf⟩:=lo.get aI
                           refine⟨u,?_,pf.mono (aj.n6 _)⟩
                           rw[<-vz]
                           have Rv:eB.base+off+j-(eB.base+(off+len*i.size)+0)=j-o.length:=by rw[xP];omega
                           rw[Rv],Ru,by
                         refine⟨?_,λj vx vy I8=>?_⟩
                         · simp only[List.length_append];have:=hd;omega
                         · have:=ll (off+j) (by simp only at vx;omega) (by simp only at vy;omega) (by simp only at I8;omega)
                           omega⟩
                       refine⟨_,w',.slice (some ⟨eB.bg,eB.base+off,none⟩) (len+n) cap,?_,⟨_,gz _ _ _,cap,by simp,rJ,by simp only;omega⟩,ba,bt⟩
                       rw[ai,Nat.add_assoc,aE];rfl
                      ·
                       obtain⟨bz,bA⟩:=aj.kill ag rfl iS
                       obtain⟨os,cT,dE⟩:=rz (P:=P) aj.drew iS hold
                       exact DW (ty:=ty) aj h0 rfl hu fL af a0 ad gU (old:=o) ⟨os,by simp only[Builtin.firstCells];exact cT,dE⟩ xP hd (by omega) bz bA ao
                    · cases h
                  · cases h
              · cases h
          · cases h
   · cases h
 · cases h
end
end ay
namespace ay
open Go
section
variable {P:Program} {μ:bl} {H:aa} {w:World}
theorem b9.take{μ:bl}{as:List J}{vs:List Value}(h:b9 μ as vs)(n:Nat):b9 μ (as.take n) (vs.take n):=by
 refine b9.xz (by simp[h.length]) λj a aI=>?_
 rw[List.getElem?_take] at aI⊢
 split at aI
 · rename_i aw;rw[if_pos aw];exact h.get aI
 · cases aI
theorem I9(aj:bm μ H w){size n m:Nat}{x:J}{br:Value}(ad:bd μ x br){cs r:List J}(h:hP H size x=some (n,cs))(hm:m<=n)(ai:takeN (m*size) cs=some r):
  ∃us:List Value,(Builtin.firstCells size m br).run P w=.ok ⟨us⟩ w/\b9 μ r us:=by
 obtain⟨a2,rfl⟩:=s7 _ _ _ ai
 have hd:=I4 h
 cases x<;>simp only[hP] at h<;>try cases h
 · split at h<;>cases h
   obtain⟨bs,rfl,rfl⟩:=ad
   refine⟨_,?_,(AR μ _).take _⟩
   simp only[Builtin.firstCells,Sem.run_pure]
   congr 1
   apply Array.ext'
   simp[ByteArray.data_extract,List.map_take]
 · cases ad
   exact⟨[],rfl,by simp;rfl⟩
 · rename_i b off len cap
   obtain⟨i,af,ah⟩:=ad
   have load:∀bS,loadCells H b off (len*size)=some bS->n=len->cs=bS->∀c,∃us:List Value,(Builtin.firstCells size m (.slice (some ⟨i.bg,i.base+off,none⟩) len c)).run P w=.ok ⟨us⟩ w/\b9 μ (cs.take (m*size)) us:=by
    intro bS aw aJ iR c
    subst iR;subst aJ
    have Rw:loadCells H b off (m*size)=some (cs.take (m*size)):=by
     unfold loadCells at aw⊢
     split at aw
     · rename_i aR aT bP eR ll ag
       obtain⟨t1,t2⟩:=s7 _ _ _ aw
       have hmul:m*size<=n*size:=Nat.mul_le_mul_right _ hm
       have e:∀(k:Nat) (l:List J),k<=l.length->takeN k l=some (l.take k):=by
        intro k
        induction k with
        |zero=>intro l _;simp[takeN]
        |succ k bp=>
         intro l aw
         cases l with
         |nil=>simp at aw
         |cons a l=>simp[takeN,bp l (by simpa using aw)]
       rw[e _ _ (by omega),t2,List.take_take,Nat.min_eq_left hmul]
     · cases aw
    obtain⟨us,ab,ae⟩:=rz (P:=P) aj af Rw
    exact⟨us,by simp only[Builtin.firstCells];exact ab,ae⟩
   cases cap with
   |dead=>
    simp only at h
    split at h
    · cases h
      obtain⟨_,a,c,rfl⟩:=ah
      have:m=0:=by omega
      subst this
      exact⟨[],by simp[Builtin.firstCells,_root_.Go.loadCells,loadCellsFrom],by simp;rfl⟩
    · cases h
   |exact c=>
    cases ah
    simp only at h
    split at h
    · rename_i bS aw;cases h;exact load _ aw rfl rfl c
    · cases h
   |aM gG=>
    obtain⟨c,rfl,_⟩:=ah
    simp only at h
    split at h
    · rename_i bS aw;cases h;exact load _ aw rfl rfl c
    · cases h
theorem Rx(aj:bm μ H w){argTypes:Array TypeId}{ty Aq:TypeId}(h0:argTypes[0]? =some Aq){d s:J}{DZ np:Value}(aq:bd μ d DZ)(hs:bd μ s np){v:J}{aZ:aa}
  (h:Ap P H Aq d s=some (v,aZ)):fs P μ H w (Builtin.copy_ argTypes ty #[DZ,np]) v aZ:=by
 unfold Ap at h
 split at h
 · rename_i e hu
   split at h
   · rename_i sz bE
     split at h
     · rename_i n cs gU
       obtain⟨aw,_⟩:=AS (P:=P) aj hs gU
       have nq:∀w:World,(_root_.Go.sizeOf e).run P w=.ok sz w:=λw=>run_sizeOf bE
       have I_:∀br:Value,br=np->(Builtin.firstCells sz 0 np).run P w=.ok #[] w:=λbr _=>by
        obtain⟨us,ab,ae⟩:=I9 (P:=P) (m:=0) (r:=[]) aj hs gU (Nat.zero_le _) (by simp[takeN])
        cases us with
        |nil=>exact ab
        |cons a l=>cases ae
       split at h
       · cases h;cases aq
         refine .same aj (v':=.int .i64 0) ?_ rfl
         simp[Builtin.copy_,h0,bO hu,aw,nq,I_ np rfl,goInt]
       · rename_i b off len cap
         simp only at h
         obtain⟨i,af,ah⟩:=aq
         have od:∃(a:Addr) (c:Nat),DZ=.slice (some a) len c/\(cap≠ .dead->a=⟨i.bg,i.base+off,none⟩):=by
          cases cap with
          |exact c=>cases ah;exact⟨_,c,rfl,λ_=>rfl⟩
          |aM gG=>obtain⟨c,rfl,_⟩:=ah;exact⟨_,c,rfl,λ_=>rfl⟩
          |dead=>obtain⟨rfl,a,c,rfl⟩:=ah;exact⟨a,c,rfl,λh=>absurd rfl h⟩
         obtain⟨a,c,rfl,a5⟩:=od
         split at h
         · rename_i qq
           cases h
           refine .same aj (v':=.int .i64 0) ?_ rfl
           simp[Builtin.copy_,h0,bO hu,aw,nq,qq,I_ np rfl,goInt,_root_.Go.storeCells]
         · rename_i qq
           split at h
           · rename_i bS a2
             split at h
             · rename_i ab cr
               cases h
               have D0:cap≠ .dead:=by
                intro e;subst e
                obtain⟨aE,_⟩:=ah
                subst aE;simp[Nat.min_def] at qq
               have:=a5 D0
               subst this
               obtain⟨us,aR,aT⟩:=I9 (P:=P) aj hs gU (Nat.min_le_left _ _) a2
               obtain⟨w',aE,aC,bu⟩:=xC (P:=P) aj af aT cr
               refine⟨μ,w',.int .i64 (Nat.min n len:Nat),?_,rfl,aC,bu⟩
               simp[Builtin.copy_,h0,bO hu,aw,nq,aR,aE,goInt]
             · cases h
           · cases h
       · cases h
     · cases h
   · cases h
 · cases h
theorem Ry(aj:bm μ H w){argTypes:Array TypeId}{ty t:TypeId}(h0:argTypes[0]? =some t){x:J}{br:Value}(ad:bd μ x br){v:J}{aZ:aa}
  (h:o7 P H t x=some (v,aZ)):fs P μ H w (Builtin.clear_ argTypes ty #[br]) v aZ:=by
 unfold o7 at h
 split at h
 · rename_i hu;cases h;cases ad
   exact .same aj (v':=.tuple #[]) (by simp[Builtin.clear_,h0,bO hu]) ⟨[],rfl,rfl⟩
 · rename_i hu;cases h;cases ad
   exact .same aj (v':=.tuple #[]) (by simp[Builtin.clear_,h0,bO hu]) ⟨[],rfl,rfl⟩
 · rename_i hu
   split at h
   · rename_i es c ao
     cases h
     obtain⟨i,af,rfl⟩:=ad
     obtain⟨ents,aE,aC⟩:=aj.rel _ _ i ao af
     have cx:i.bg<w.heap.size:=(aj.lt _ _ af).2
     obtain⟨ba,bt⟩:=aj.update (w':={w with heap:=w.heap.setIfInBounds i.bg (.map #[] c)}) (o':=.map [] c) ao rfl af (by simp) (λr ai=>by simp[Array.getElem?_setIfInBounds];intro e;exact absurd e.symm ai) rfl rfl rfl
      ⟨[],by simp[cx],rfl⟩
     refine⟨μ,_,.tuple #[],?_,⟨[],rfl,rfl⟩,ba,bt⟩
     simp[Builtin.clear_,h0,bO hu,getObj,setObj,Sem.run,aE]
   · cases h
 · rename_i e b off n cap hu
   split at h
   · rename_i aJ
     cases h
     subst aJ
     obtain⟨i,af,ah⟩:=ad
     have:∃a c,br=.slice (some a) 0 c:=by
      cases cap with
      |exact c=>cases ah;exact⟨_,c,rfl⟩
      |aM gG=>obtain⟨c,rfl,_⟩:=ah;exact⟨_,c,rfl⟩
      |dead=>obtain⟨_,a,c,rfl⟩:=ah;exact⟨a,c,rfl⟩
     obtain⟨a,c,rfl⟩:=this
     exact .same aj (v':=.tuple #[]) (by simp[Builtin.clear_,h0,bO hu]) ⟨[],rfl,rfl⟩
   · rename_i aJ
     split at h
     · rename_i z a0
       split at h
       · rename_i ab cr
         cases h
         obtain⟨fK,Rz,rfl,ag⟩:=lW (P:=P) (w:=w) a0
         have jk:=Q9 n ((ke μ fK).cells ag)
         obtain⟨i,af,ah⟩:=ad
         have:∃c,br=.slice (some ⟨i.bg,i.base+off,none⟩) n c:=by
          cases cap with
          |exact c=>cases ah;exact⟨c,rfl⟩
          |aM gG=>obtain⟨c,rfl,_⟩:=ah;exact⟨c,rfl⟩
          |dead=>obtain⟨h0,_⟩:=ah;exact absurd h0 aJ
         obtain⟨c,rfl⟩:=this
         obtain⟨w',aE,aC,bu⟩:=xC (P:=P) aj af jk cr
         refine⟨μ,w',.tuple #[],?_,⟨[],rfl,rfl⟩,aC,bu⟩
         cases n with
         |zero=>exact absurd rfl aJ
         |succ n=>simp[Builtin.clear_,h0,bO hu,Rz,aE]
       · cases h
     · cases h
 · cases h
theorem RA(aj:bm μ H w){argTypes:Array TypeId}{ty t:TypeId}(h0:argTypes[0]? =some t){x:J}{br:Value}(ad:bd μ x br){v:J}(h:cO P H t x=some v):
  fs P μ H w (Builtin.len_ argTypes ty #[br]) v H:=by
 unfold cO at h
 split at h
 · rename_i s hu;cases h
   obtain⟨bs,rfl,rfl⟩:=ad
   refine .same aj (v':=.int .i64 (bs.size:Int)) (by simp[Builtin.len_,h0,bO hu,goInt]) ?_
   have:bs.data.toList.length=bs.size:=Array.length_toList
   rw[this];rfl
 · rename_i n e hu;cases h
   exact .same aj (v':=.int .i64 (n:Int)) (by simp[Builtin.len_,h0,bO hu,goInt]) rfl
 · rename_i e b off n cap hu;cases h
   obtain⟨i,af,ah⟩:=ad
   have:∃a c,br=.slice a n c:=by
    cases cap with
    |exact c=>cases ah;exact⟨_,c,rfl⟩
    |aM gG=>obtain⟨c,rfl,_⟩:=ah;exact⟨_,c,rfl⟩
    |dead=>obtain⟨rfl,a,c,rfl⟩:=ah;exact⟨_,c,rfl⟩
   obtain⟨a,c,rfl⟩:=this
   exact .same aj (v':=.int .i64 (n:Int)) (by simp[Builtin.len_,h0,bO hu,goInt]) rfl
 · rename_i hu;cases h;cases ad
   exact .same aj (v':=.int .i64 0) (by simp[Builtin.len_,h0,bO hu,goInt]) rfl
 · rename_i hu;cases h;cases ad
   exact .same aj (v':=.int .i64 0) (by simp[Builtin.len_,h0,bO hu,goInt]) rfl
 · rename_i r hu
   split at h
   · rename_i es c ao
     cases h
     obtain⟨i,af,rfl⟩:=ad
     obtain⟨ents,aE,aC⟩:=aj.rel _ _ i ao af
     have hlen:es.length=ents.length:=by
      clear aE ao
      induction es generalizing ents with
      |nil=>cases aC;rfl
      |cons e es bp=>obtain⟨m,ms,rfl,_,ae⟩:=aC;simp[bp ms ae]
     refine .same aj (v':=.int .i64 (ents.length:Int)) ?_ (by rw[hlen];rfl)
     simp[Builtin.len_,h0,bO hu,goInt,getObj,Sem.run,aE]
   · cases h
 · rename_i arr hu
   split at h
   · rename_i n e pf;cases h
     exact .same aj (v':=.int .i64 (n:Int)) (by simp[Builtin.len_,h0,bO hu,bO pf,goInt]) rfl
   · cases h
 · cases h
theorem RB(aj:bm μ H w){argTypes:Array TypeId}{ty t:TypeId}(h0:argTypes[0]? =some t){x:J}{br:Value}(ad:bd μ x br){v:J}(h:Ao P t x=some v):
  fs P μ H w (Builtin.cap_ argTypes ty #[br]) v H:=by
 unfold Ao at h
 split at h
 · rename_i n e hu;cases h
   exact .same aj (v':=.int .i64 (n:Int)) (by simp[Builtin.cap_,h0,bO hu,goInt]) rfl
 · rename_i e b off n c hu;cases h
   obtain⟨i,af,ah⟩:=ad
   cases ah
   exact .same aj (v':=.int .i64 (c:Int)) (by simp[Builtin.cap_,h0,bO hu,goInt]) rfl
 · rename_i hu;cases h;cases ad
   exact .same aj (v':=.int .i64 0) (by simp[Builtin.cap_,h0,bO hu,goInt]) rfl
 · cases h
theorem D1(f:J->J->Option J)(F:Value->Value->Sem Value)(hf:∀x y z br gA,f x y=some z->bd μ x br->bd μ y gA->∃fK,(F br gA).run P w=.ok fK w/\bd μ z fK):
  ∀(l:List J) (x:J) (br:Value) (dz:List Value) (z:J),bd μ x br->b9 μ l dz->iA f x l=some z->∃fK,(dz.foldlM F br).run P w=.ok fK w/\bd μ z fK
 |[],x,br,dz,z,ad,aw,h=>by
  cases aw;simp[iA] at h;subst h
  exact⟨br,rfl,ad⟩
 |y::l,x,br,dz,z,ad,⟨gA,tb,e,a6,aw⟩,h=>by
  subst e
  simp only[iA] at h
  split at h
  · rename_i u hu
    obtain⟨lZ,ba,bt⟩:=hf x y u br gA hu ad a6
    obtain⟨fK,s1,s2⟩:=D1 f F hf l u lZ tb z bt aw h
    exact⟨fK,by simp only[List.foldlM_cons,Sem.run_bind,ba,Result.andThen_ok,s1],s2⟩
  · cases h
theorem RC{x y z:J}{br gA:Value}(h:jy x y=some z)(ad:bd μ x br)(a6:bd μ y gA):∃fK,(Builtin.min2 br gA).run P w=.ok fK w/\bd μ z fK:=by
 unfold jy at h
 split at h
 · split at h
   · rename_i au;cases h;subst au
     cases ad;cases a6
     exact⟨_,rfl,by simp[bd,dZ]⟩
   · cases h
 · cases h
theorem RD{x y z:J}{br gA:Value}(h:xl x y=some z)(ad:bd μ x br)(a6:bd μ y gA):∃fK,(Builtin.max2 br gA).run P w=.ok fK w/\bd μ z fK:=by
 unfold xl at h
 split at h
 · split at h
   · rename_i au;cases h;subst au
     cases ad;cases a6
     exact⟨_,rfl,by simp[bd,dZ]⟩
   · cases h
 · cases h
end
end ay
namespace ay
open Go
section
variable {P:Program} {μ:bl} {H:aa} {w:World}
theorem Ja:∀(cs:List J) (bs:List UInt8) (us:List Value),nc cs=some bs->b9 μ cs us->us=bs.map λb=>.int .u8 (b.toNat:Int)
 |[],bs,us,h,ai=>by cases ai;simp[nc] at h;subst h;rfl
 |c::cs,bs,us,h,⟨v,vs,e,ab,ae⟩=>by
  subst e
  unfold nc at h
  split at h
  · rename_i heq;cases heq
  · rename_i n l heq
    cases heq
    split at h
    · rename_i r aJ ai
      cases h
      cases ab
      rw[Ja cs r vs ai ae]
      simp only[Nat.blt_eq] at aJ
      have:n %256=n:=Nat.mod_eq_of_lt aJ
      simp[UInt8.toNat_ofNat',this]
    · cases h
  · cases h
theorem Jb(w:World):∀(bs:List UInt8) (acc:ByteArray),(forIn (bs.map λb=>Value.int .u8 (b.toNat:Int)) acc λc s=>
  (match c with
  |.int .u8 n=>pure (ForInStep.yield (s.push (UInt8.ofNat n.toNat)))
  |_=>do stuck "bytesToString: byte expected";pure (ForInStep.yield s):Sem (ForInStep ByteArray))).run P w=.ok ⟨acc.data++bs.toArray⟩ w
 |[],acc=>by simp
 |b::bs,acc=>by
  simp only[List.map_cons,List.forIn_cons,Sem.run_bind,Sem.run_pure,Result.andThen_ok,Jb w bs]
  congr 1
  simp[ByteArray.ext_iff,ByteArray.push]
theorem RE(aj:bm μ H w){b off n:Nat}{cap:cj}(pg:cap≠ .dead){br:Value}(ad:bd μ (.slice b off n cap) br){cs:List J}(aw:loadCells H b off n=some cs){bs:List UInt8}(ag:nc cs=some bs):
  fs P μ H w (Conv.bytesToString br) (.str bs) H:=by
 obtain⟨i,af,ah⟩:=ad
 have:∃c,br=.slice (some ⟨i.bg,i.base+off,none⟩) n c:=by
  cases cap with
  |exact c=>cases ah;exact⟨c,rfl⟩
  |aM gG=>obtain⟨c,rfl,_⟩:=ah;exact⟨c,rfl⟩
  |dead=>exact absurd rfl pg
 obtain⟨c,rfl⟩:=this
 obtain⟨us,ab,ae⟩:=rz (P:=P) aj af aw
 have lY:=Ja cs bs us ag ae
 subst lY
 refine .same aj (v':=.string ⟨bs.toArray⟩) ?_ ⟨_,rfl,by simp⟩
 simp only[Conv.bytesToString,Sem.run_bind,ab,Result.andThen_ok]
 have e:=Jb (P:=P) w bs ByteArray.empty
 rw[<-List.forIn_toArray] at e
 refine(congrArg (λr=>Result.andThen r _) e).trans ?_
 simp
theorem RF(aj:bm μ H w){e:TypeId}{bs:ByteArray}:
  fs P μ H w (Conv.stringToBytes e bs) (.slice H.n 0 bs.data.toList.length (.aM 1)) (H.push (.cells (cy bs.data.toList) e .aM 0 0)):=by
 have AT:(Question.appendCap bs.size 0 e).forced=false:=rfl
 have bE:bs.data.toList.length=bs.size:=Array.length_toList
 obtain⟨cap,pg,hle⟩:∃cap,(Question.appendCap bs.size 0 e).cut (w.tape w.drawn (Question.appendCap bs.size 0 e))=cap/\bs.size<=cap:=⟨_,rfl,by simp[Question.cut]⟩
 have D2:=aj.drew.n6 ⟨w.heap.size,0,cap⟩
 let c:Array Value:=(bs.data.map λb=>.int .u8 b.toNat)++Array.replicate (cap-bs.size) (.int .u8 0)
 have iR:c.size=cap:=by
  have:bs.data.size=bs.size:=rfl
  simp only[c,Array.size_append,Array.size_map,Array.size_replicate,this];omega
 have rA:DI (gy μ H.n ⟨w.heap.size,0,cap⟩) (cy bs.data.toList) c 0:=λj v aI=>by
  obtain⟨u,hu,ai⟩:=(AR μ bs.data.toList).get aI
  refine⟨u,?_,ai.mono D2⟩
  have DX:j<bs.data.size:=by
   rcases Nat.lt_or_ge j bs.data.size with h|h
   · exact h
   · rw[List.getElem?_eq_none (by simpa using h)] at hu;cases hu
  simp only[c,Nat.zero_add]
  rw[Array.getElem?_append_left (by simpa using DX)]
  simpa using hu
 have RG:bm (gy μ H.n ⟨w.heap.size,0,cap⟩) (H.push (.cells (cy bs.data.toList) e .aM 0 0)) (w.drew.alloc (.cells c e))/\b4 μ H w.drew (gy μ H.n ⟨w.heap.size,0,cap⟩) (H.push (.cells (cy bs.data.toList) e .aM 0 0)) (w.drew.alloc (.cells c e)):=
  aj.drew.alloc (.cells (cy bs.data.toList) e .aM 0 0) (.cells c e) cap
  ⟨c,0,0,World.heap_alloc_new _ _,rA,by simp[iR],by
    refine⟨?_,λj _ _ h=>by omega⟩
    rw[AZ,bE];exact hle⟩
 obtain⟨ba,bt⟩:=RG
 let cp:World:=(w.drew.alloc (.cells c e)).freeze ⟨w.heap.size,cap,none⟩ 1
 have RH:cp.heap[w.heap.size]? =some (.cells c e (cap,cap+1)):=by
  simp only[cp,World.freeze,if_neg (show¬(1=0) by omega),Array.getElem?_modify]
  have:(w.drew.alloc (.cells c e)).heap[w.heap.size]? =some (.cells c e (0,0)):=World.heap_alloc_new _ _
  rw[this];simp
 have ln:(H.push (.cells (cy bs.data.toList) e .aM 0 0)).get H.n=some (.cells (cy bs.data.toList) e .aM 0 0):=by rw[aa.eD,if_pos rfl]
 have cr:bm (gy μ H.n ⟨w.heap.size,0,cap⟩) ((H.push (.cells (cy bs.data.toList) e .aM 0 0)).set H.n (some (.cells (cy bs.data.toList) e .aM 0 0))) cp/\
   b4 (gy μ H.n ⟨w.heap.size,0,cap⟩) (H.push (.cells (cy bs.data.toList) e .aM 0 0)) (w.drew.alloc (.cells c e)) (gy μ H.n ⟨w.heap.size,0,cap⟩) ((H.push (.cells (cy bs.data.toList) e .aM 0 0)).set H.n (some (.cells (cy bs.data.toList) e .aM 0 0))) cp:=
  ba.update ln rfl (gz _ _ _) (by simp[cp,World.freeze]) (λr ai=>by
   simp only[cp,World.freeze,if_neg (show¬(1=0) by omega),Array.getElem?_modify]
   rw[if_neg (λe=>ai e.symm)]) (by simp[cp,World.freeze]) (by simp[cp,World.freeze]) (by simp[cp,World.freeze])
   ⟨c,cap,cap+1,RH,rA,by simp[iR],by
     refine⟨by rw[AZ,bE];exact hle,λj vx vy I8=>by simp only at vx vy;omega⟩⟩
 refine⟨gy μ H.n ⟨w.heap.size,0,cap⟩,cp,.slice (some ⟨w.heap.size,0,none⟩) bs.size cap,?_,⟨⟨w.heap.size,0,cap⟩,gz _ _ _,cap,by simp[bE],by rw[bE];exact hle,by simp⟩,?_,?_⟩
 · simp only[Conv.stringToBytes,Sem.run_bind,run_choose,AT,Bool.false_eq_true,if_false,World.drew_eq,Result.andThen_ok,pg]
   have aE:(_root_.Go.newRow e c).run P w.drew=.ok ⟨w.heap.size,0,none⟩ (w.drew.alloc (.cells c e)):=rfl
   rw[show(_root_.Go.newRow e ((bs.data.map λb=>.int .u8 b.toNat)++Array.replicate (cap-bs.size) (.int .u8 0))).run P w.drew=_ from aE]
   have aC:(w.drew.alloc (.cells c e)).shape? w.heap.size=some (e,cap):=by
    have:(w.drew.alloc (.cells c e)).heap[w.heap.size]? =some (.cells c e (0,0)):=World.heap_alloc_new _ _
    simp only[World.shape?,this,iR]
   simp only[Result.andThen_ok,markStringish,Sem.run_bind,run_shape,aC,run_freeze,Sem.run_pure]
   rfl
 ·
  refine⟨λb o i ag af=>cr.1.rel b o i ?_ af,λb c' i j ag ah=>cr.1.inj b c' i j ?_ ?_,cr.1.lt,λb ag=>?_⟩
  · rw[aa.bH];split
    · rename_i e;subst e;rw[ln] at ag;exact ag
    · exact ag
  · rw[aa.bH];split
    · simp
    · exact ag
  · rw[aa.bH];split
    · exact⟨_,rfl,rfl⟩
    · exact ah
  · exact ba.bound b ag
 · refine b4.trans aj aj.drew b4.drew (b4.trans aj.drew ba bt ⟨fa.refl _,cr.2.size,Nat.le_refl _,λ_ _ h=>h,λ_ _ _=>rfl,cr.2.old,λb i h an=>(by rw[h] at an;cases an),λb o i ag ai af=>⟨ag,(cr.2.ro b o i ag ai af).2⟩,cr.2.os,cr.2.out,cr.2.tape,cr.2.drawn⟩)
theorem RI{i:eX}{o o':Nat}:(sameAddr ⟨i.bg,i.base+o,none⟩ ⟨i.bg,i.base+o',none⟩).run P w=.ok (Nat.beq o o') w:=by
 simp only[sameAddr,beq_self_eq_true,if_true,Sem.run_pure]
 congr 1
 rw[Bool.eq_iff_iff]
 simp
theorem RJ{r r' o o' el rK:Nat}{c c':Array Value}(h:w.heap[r]? =some (.cells c el (0,0)))(an:w.heap[r']? =some (.cells c' rK (0,0)))(dK:r≠r'):
  (sameAddr ⟨r,o,none⟩ ⟨r',o',none⟩).run P w=.ok false w:=by
 have ag:(r==r')=false:=beq_eq_false_iff_ne.2 dK
 have f1:∀k,w.frozen? ⟨r,k,none⟩=false:=λk=>by simp[World.frozen?,h]
 have f2:∀k,w.frozen? ⟨r',k,none⟩=false:=λk=>by simp[World.frozen?,an]
 have s1:w.shape? r=some (el,c.size):=by simp[World.shape?,h]
 have s2:w.shape? r'=some (rK,c'.size):=by simp[World.shape?,an]
 simp[sameAddr,ag,f1,f2,noView,viewAt,s1,s2,mayBeOne,stringish]
theorem D3(w:World)(D:Nat)(E:TypeId->J->J->Option Bool)(fY:∀t x y b br gA,E t x y=some b->bd μ x br->bd μ y gA->(Op.equalIn D t br gA).run P w=.ok b w)
  {xs ys:List J}{rL tc:List Value}(ad:b9 μ xs rL)(a6:b9 μ ys tc):∀(ct:List Field) (b:Bool),eqFields P E xs ys ct=some b->(Op.eqFields D ⟨rL⟩ ⟨tc⟩ ct).run P w=.ok b w
 |[],b,h=>by cases h;rfl
 |f::ct,b,h=>by
  simp only[eqFields] at h
  split at h
  · rename_i aJ
    have aJ:f.name= "_" :=of_decide_eq_true aJ
    have bp:=D3 w D E fY ad a6 ct b h
    simp only[Op.eqFields,aJ,ne_eq,not_true_eq_false,if_false]
    exact bp
  · rename_i aJ
    have aJ:¬(f.name= "_"):=of_decide_eq_false aJ
    split at h
    · rename_i a c a5 ah
      obtain⟨xR,di,da⟩:=rH (P:=P) (w:=w) ad a5
      obtain⟨iT,aR,aT⟩:=rH (P:=P) (w:=w) a6 ah
      split at h
      · rename_i he
        have ai:=fY _ _ _ _ xR iT he da aT
        have bp:=D3 w D E fY ad a6 ct b h
        simp only[Op.eqFields,ne_eq,aJ,not_false_eq_true,if_true,Sem.run_bind,di,aR,Result.andThen_ok,ai,Bool.not_true,Bool.false_eq_true,if_false]
        exact bp
      · rename_i r ai
        cases b with
        |true=>exact absurd h ai
        |false=>
         have rM:=fY _ _ _ _ xR iT h da aT
         simp only[Op.eqFields,ne_eq,aJ,not_false_eq_true,if_true,Sem.run_bind,di,aR,Result.andThen_ok,rM,Bool.not_false,Sem.run_pure]
    · cases h
theorem Jc(w:World)(D:Nat){e:TypeId}{sz:Nat}(E:TypeId->J->J->Option Bool)(fY:∀t x y b br gA,E t x y=some b->bd μ x br->bd μ y gA->(Op.equalIn D t br gA).run P w=.ok b w){xs ys:List J}{rL tc:List Value}(ad:b9 μ xs rL)(a6:b9 μ ys tc):
  ∀(n i:Nat) (b:Bool),xk P E e sz xs ys n i=some b->(Op.eqItems D e sz ⟨rL⟩ ⟨tc⟩ (List.range' i n)).run P w=.ok b w
 |0,i,b,h=>by simp only[xk] at h;cases h;simp[Op.eqItems]
 |n+1,i,b,h=>by
  simp only[xk] at h
  rw[List.range'_succ]
  split at h
  · rename_i a c a5 ah
    obtain⟨xR,di,da⟩:=rH (P:=P) (w:=w) ad a5
    obtain⟨iT,aR,aT⟩:=rH (P:=P) (w:=w) a6 ah
    split at h
    · rename_i he
      have ai:=fY _ _ _ _ xR iT he da aT
      have bp:=Jc w D E fY ad a6 n (i+1) b h
      simp only[Op.eqItems,Sem.run_bind,di,aR,Result.andThen_ok,ai,Bool.not_true,Bool.false_eq_true,if_false]
      exact bp
    · rename_i r ai
      cases b with
      |true=>exact absurd h ai
      |false=>
       have rM:=fY _ _ _ _ xR iT h da aT
       simp only[Op.eqItems,Sem.run_bind,di,aR,Result.andThen_ok,rM,Bool.not_false,if_true,Sem.run_pure]
  · cases h
set_option maxHeartbeats 4000000 in
theorem td(aj:bm μ H w):∀(d:Nat) (t:TypeId) (x y:J) (b:Bool) (br gA:Value) (D:Nat),d<=D->ic P H d t x y=some b->bd μ x br->bd μ y gA->(Op.equalIn D t br gA).run P w=.ok b w
 |0,t,x,y,b,br,gA,D,_,h,_,_=>by simp[ic] at h
 |d+1,t,x,y,b,br,gA,0,aq,_,_,_=>by omega
 |d+1,t,x,y,b,br,gA,D+1,aq,h,ad,a6=>by
  unfold ic at h
  cases hu:P.underlying t with
  |none=>rw[hu] at h;cases h
  |some u=>
   rw[hu] at h
   cases u<;>simp only at h
   case bool=>
    split at h<;>cases h
    cases ad;cases a6
    simp[Op.equalIn,bO hu]
   case int te=>
    split at h
    · split at h
      · rename_i au;cases h;subst au;cases ad;cases a6
        simp[Op.equalIn,bO hu,de]
      · cases h
    · cases h
   case string=>
    split at h<;>cases h
    obtain⟨s1,rfl,rfl⟩:=ad
    obtain⟨s2,rfl,rfl⟩:=a6
    rw[nk,<-rG,<-rG,<-beq_toListBytes]
    simp[Op.equalIn,bO hu]
   case pointer e=>
    split at h
    · cases h;cases ad;cases a6;simp[Op.equalIn,bO hu]
    · cases h;cases ad;obtain⟨i,_,rfl⟩:=a6;simp[Op.equalIn,bO hu]
    · cases h;cases a6;obtain⟨i,_,rfl⟩:=ad;simp[Op.equalIn,bO hu]
    · rename_i a i b' j
      split at h
      · rename_i n hs
        obtain⟨vA,D4,rfl⟩:=ad
        obtain⟨jD,A0,rfl⟩:=a6
        have bE:(_root_.Go.sizeOf e).run P w=.ok (n+1) w:=run_sizeOf hs
        have goal:∀r,(sameAddr ⟨vA.bg,vA.base+i,none⟩ ⟨jD.bg,jD.base+j,none⟩).run P w=r->(Op.equalIn (D+1) t (.pointer (some ⟨vA.bg,vA.base+i,none⟩)) (.pointer (some ⟨jD.bg,jD.base+j,none⟩))).run P w=r:=by
         intro r ai
         simp[Op.equalIn,bO hu,bE,ai]
        unfold DC at h
        split at h
        · rename_i oe
          cases h
          have:=Nat.eq_of_beq_eq_true oe
          subst this
          rw[D4] at A0;cases A0
          exact goal _ RI
        · rename_i oe
          split at h
          · rename_i ig gB
            cases h
            obtain⟨c1,_,_,bz,_,_,bA⟩:=aj.rel _ _ vA ig D4
            obtain⟨c2,_,_,bD,_,_,bT⟩:=aj.rel _ _ jD gB A0
            obtain⟨_,_,rfl,rfl⟩:=bA
            obtain⟨_,_,rfl,rfl⟩:=bT
            refine goal _ (RJ bz bD λe=>?_)
            have:=aj.inj _ _ vA jD (by rw[ig];simp) ⟨_,gB,rfl⟩ D4 A0 e
            subst this
            simp at oe
          · cases h
      · cases h
    · cases h
   case slice e=>
    have ih:∀(b off n:Nat) (c:cj) (v:Value),bd μ (.slice b off n c) v->∃a m k,v=.slice (some a) m k:=by
     rintro b off n c v ⟨i,_,ah⟩
     cases c with
     |exact c=>cases ah;exact⟨_,_,_,rfl⟩
     |aM gG=>obtain⟨c,rfl,_⟩:=ah;exact⟨_,_,_,rfl⟩
     |dead=>obtain⟨_,a,c,rfl⟩:=ah;exact⟨_,_,_,rfl⟩
    split at h
    · cases h;cases ad;cases a6;simp[Op.equalIn,bO hu]
    · cases h;cases ad;obtain⟨a,m,k,rfl⟩:=ih _ _ _ _ _ a6;simp[Op.equalIn,bO hu]
    · cases h;cases a6;obtain⟨a,m,k,rfl⟩:=ih _ _ _ _ _ ad;simp[Op.equalIn,bO hu]
    · cases h
   case map k e=>
    split at h
    · cases h;cases ad;cases a6;simp[Op.equalIn,bO hu]
    · cases h;cases ad;obtain⟨i,_,rfl⟩:=a6;simp[Op.equalIn,bO hu]
    · cases h;cases a6;obtain⟨i,_,rfl⟩:=ad;simp[Op.equalIn,bO hu]
    · cases h
   case func ps rs v=>
    split at h
    · cases h;cases ad;cases a6;simp[Op.equalIn,bO hu]
    · cases h;cases ad;obtain⟨_,_,rfl,_⟩:=a6;simp[Op.equalIn,bO hu]
    · cases h;cases a6;obtain⟨_,_,rfl,_⟩:=ad;simp[Op.equalIn,bO hu]
    · cases h
   case interface ms=>
    split at h
    · cases h;cases ad;cases a6;simp[Op.equalIn,bO hu]
    · cases h;cases ad;obtain⟨_,rfl,_⟩:=a6;simp[Op.equalIn,bO hu]
    · cases h;cases a6;obtain⟨_,rfl,_⟩:=ad;simp[Op.equalIn,bO hu]
    · rename_i a v b' u
      obtain⟨v1,rfl,ba⟩:=ad
      obtain⟨D5,rfl,bt⟩:=a6
      split at h
      · rename_i oe
        cases h
        have:a≠b':=by intro e;subst e;simp at oe
        simp[Op.equalIn,bO hu,this]
      · rename_i oe
        have:=Nat.eq_of_beq_eq_true oe
        subst this
        split at h
        · rename_i acP AU
          split at h
          · rename_i RK
            have bp:=td aj d a v u b v1 D5 D (by omega) h ba bt
            simp[Op.equalIn,bO hu,run_typeInfo AU,RK,bp]
          · cases h
        · cases h
    · cases h
   case struct ct=>
    split at h
    · rename_i xs ys
      split at h
      · cases h
      · rename_i cr
        obtain⟨rL,rfl,h2⟩:=ad
        obtain⟨tc,rfl,mq⟩:=a6
        have key:=D3 (P:=P) w D (ic P H d) (λt x y b br gA he ab ae=>td aj d t x y b br gA D (by omega) he ab ae) h2 mq ct.toList b h
        have nr:P.fieldsOf t=ct:=by simp[Program.fieldsOf,hu]
        rw[run_equalIn_struct w D t _ _ (by rw[nr];exact hu) cr,nr]
        exact key
    · cases h
   case array n e=>
    split at h
    · rename_i xs ys
      split at h
      · rename_i sz bE
        obtain⟨rL,rfl,h2⟩:=ad
        obtain⟨tc,rfl,mq⟩:=a6
        have af:∃i,P.info? e=some i/\i.size=sz:=by
         unfold dm at bE
         split at bE
         · rename_i i af;cases bE;exact⟨i,af,rfl⟩
         · cases bE
        obtain⟨i,af,RL⟩:=af
        have RM:P.cellsOf e=sz:=by unfold Program.cellsOf;rw[af];exact RL
        rw[run_equalIn_array w D _ _ hu af,RM,List.range_eq_range']
        exact Jc w D (ic P H d) (λt x y b br gA he ab ae=>td aj d t x y b br gA D (by omega) he ab ae) h2 mq n 0 b h
      · cases h
    · cases h
   all_goals cases h
theorem Jd{u:TypeDesc}{c7:TypeId}(hu:P.underlying c7=some u){k x:J}{kv br:Value}{b:Bool}(au:n1 P c7 k=true)(h:qe k x=some b)(ab:bd μ k kv)(ae:bd μ x br):Instr.sameNow u kv br=some b:=by
 unfold n1 at au
 rw[hu] at au
 cases u<;>simp only at au<;>try cases au
 ·
  split at au<;>try cases au
  cases x<;>simp only[qe] at h<;>cases h
  cases ab;cases ae;rfl
 ·
  split at au<;>try cases au
  cases x<;>simp only[qe] at h<;>try cases h
  split at h
  · rename_i e;cases h;subst e;cases ab;cases ae;simp[Instr.sameNow,de]
  · cases h
 · split at au<;>try cases au
   cases x<;>simp only[qe] at h<;>cases h
   obtain⟨s1,rfl,rfl⟩:=ab
   obtain⟨s2,rfl,rfl⟩:=ae
   simp only[Instr.sameNow]
   rw[nk,<-rG,<-rG,<-beq_toListBytes]
def A1(μ:bl):Option (Nat×J)->Option (Nat×Value)->Prop
 |none,none=>True
 |some (i,a),some (j,v)=>i=j/\bd μ a v
 |_,_=>False
theorem Je{H:aa}{c7:TypeId}{k x:J}(au:∀cs,k≠ .agg cs):xn P H c7 k x=qe k x:=by
 cases k<;>first|rfl|exact absurd rfl (au _)
theorem Jf{c7:TypeId}{k:J}(au:∀cs,k≠ .agg cs)(h:o8 P c7 k=true):n1 P c7 k=true:=by
 cases k<;>first|exact h|exact absurd rfl (au _)
theorem Jg{H:aa}{u:TypeDesc}{c7:TypeId}(hu:P.underlying c7=some u){k:J}{kv:Value}(hs:∀cs,k≠ .agg cs)(au:n1 P c7 k=true)(ab:bd μ k kv):∀(es:List fW) (ents:List MapEntry) (i:Nat) (r:Option (Nat×J)),gf μ es ents->kZ P H c7 k es i=some r->
  ∃r',Instr.findNow u kv ents i=some r'/\A1 μ r r'
 |[],_,i,r,he,h=>by
  cases he;simp[kZ] at h;subst h
  exact⟨none,rfl,trivial⟩
 |e::es,_,i,r,⟨m,ms,aE,aC,bu⟩,h=>by
  subst aE
  simp only[kZ,Je hs] at h
  split at h
  · rename_i hs
    cases h
    exact⟨some (i,m.val),by simp[Instr.findNow,Jd hu au hs ab aC.1],rfl,aC.2.1⟩
  · rename_i a1
    obtain⟨r',aR,aT⟩:=Jg hu hs au ab es ms (i+1) r bu h
    exact⟨r',by simp[Instr.findNow,Jd hu au a1 ab aC.1,aR],aT⟩
  · cases h
theorem Jh(aj:bm μ H w){c7:TypeId}{cs:List J}{kv:Value}(ab:bd μ (.agg cs) kv):∀(es:List fW) (ents:List MapEntry) (i:Nat) (r:Option (Nat×J)),gf μ es ents->kZ P H c7 (.agg cs) es i=some r->
  ∃r',(Instr.findAsking c7 kv ents i).run P w=.ok r' w/\A1 μ r r'
 |[],_,i,r,he,h=>by
  cases he;simp[kZ] at h;subst h
  exact⟨none,rfl,trivial⟩
 |e::es,_,i,r,⟨m,ms,aE,aC,bu⟩,h=>by
  subst aE
  simp only[kZ,xn] at h
  split at h
  · rename_i hs
    cases h
    have:=td (P:=P) aj 8 c7 _ _ true kv m.key Op.maxDepth (by decide) hs ab aC.1
    exact⟨some (i,m.val),by simp[Instr.findAsking,Op.equal,this],rfl,aC.2.1⟩
  · rename_i hs
    have:=td (P:=P) aj 8 c7 _ _ false kv m.key Op.maxDepth (by decide) hs ab aC.1
    obtain⟨r',aR,aT⟩:=Jh aj ab es ms (i+1) r bu h
    exact⟨r',by simp[Instr.findAsking,Op.equal,this,aR],aT⟩
  · cases h
theorem D6{H:aa}{c7:TypeId}{k:J}:∀(es:List fW) (i:Nat) (j:Nat) (v:J),kZ P H c7 k es i=some (some (j,v))->i<=j/\∃e,es[j-i]? =some e/\e.val=v/\xn P H c7 k e.key=some true
 |[],i,j,v,h=>by simp[kZ] at h
 |e::es,i,j,v,h=>by
  simp only[kZ] at h
  split at h
  · rename_i hs
    cases h;exact⟨Nat.le_refl _,e,by simp,rfl,hs⟩
  · obtain⟨ab,cI,ae,av⟩:=D6 es (i+1) j v h
    refine⟨by omega,cI,?_,av⟩
    have:j-i=(j-(i+1))+1:=by omega
    rw[this];simpa using ae
  · cases h
theorem D7{c7:TypeId}{k:J}{kv:Value}(au:n1 P c7 k=true)(b:Bool)(n:Nat):(Instr.checkKey b (n+1) c7 kv).run P w=.ok () w:=by
 unfold n1 at au
 cases hu:P.underlying c7 with
 |none=>rw[hu] at au;cases au
 |some u=>
  rw[hu] at au
  cases u<;>simp only at au<;>try cases au
  all_goals simp[Instr.checkKey,bO hu]
theorem Ji(b:Bool){m n:Nat}(hm:m=n+1){cs:List J}{l:List Value}(aw:b9 μ cs l):∀(ct:List Field),Ar P cs ct=true->
  (forIn ct PUnit.unit (λf _=>if f.name≠ "_" then(do let x<-part f.type ⟨l⟩ f.offset;Instr.checkKey b m f.type x;pure (ForInStep.yield PUnit.unit)) else pure (ForInStep.yield PUnit.unit)):Sem PUnit).run P w=.ok PUnit.unit w
 |[],h=>by simp
 |f::ct,h=>by
  unfold Ar at h
  split at h
  · rename_i a a5
    split at h
    · rename_i au
      have bp:=Ji b hm aw ct h
      obtain⟨u,di,da⟩:=rH (P:=P) (w:=w) aw a5
      have ah:=D7 (P:=P) (w:=w) (kv:=u) au b n
      rw[<-hm] at ah
      rw[List.forIn_cons]
      by_cases aJ:f.name= "_"
      · simp only[aJ,ne_eq,not_true_eq_false,if_false,Sem.run_bind,Sem.run_pure,Result.andThen_ok]
        exact bp
      · simp only[ne_eq,aJ,not_false_eq_true,if_true,Sem.run_bind,di,Result.andThen_ok,ah,Sem.run_pure]
        exact bp
    · cases h
  · cases h
theorem Jj(b:Bool){m n:Nat}(hm:m=n+1){e:TypeId}{sz:Nat}(bE:dm P e=some sz){cs:List J}{l:List Value}(aw:b9 μ cs l):∀(k i:Nat),As P e sz cs k i=true->
  (forIn (List.range' i k) PUnit.unit (λi _=>do (Instr.checkKey b m e (<-part e ⟨l⟩ (i*(<-_root_.Go.sizeOf e))));pure (ForInStep.yield PUnit.unit)):Sem PUnit).run P w=.ok PUnit.unit w
 |0,i,h=>by simp
 |k+1,i,h=>by
  unfold As at h
  split at h
  · rename_i a a5
    split at h
    · rename_i au
      have bp:=Jj b hm bE aw k (i+1) h
      obtain⟨u,di,da⟩:=rH (P:=P) (w:=w) aw a5
      have ah:=D7 (P:=P) (w:=w) (kv:=u) au b n
      rw[<-hm] at ah
      rw[List.range'_succ,List.forIn_cons]
      simp only[Sem.run_bind,run_sizeOf bE,di,Result.andThen_ok,ah,Sem.run_pure]
      exact bp
    · cases h
  · cases h
theorem RN{c7:TypeId}{cs:List J}{l:List Value}(aw:b9 μ cs l)(au:o8 P c7 (.agg cs)=true)(b:Bool){m n:Nat}(hm:m=n+1):(Instr.checkKey b (m+1) c7 (.agg ⟨l⟩)).run P w=.ok () w:=by
 unfold o8 at au
 simp only at au
 split at au
 · rename_i ct hu
   have key:=Ji (P:=P) (w:=w) b hm aw ct.toList au
   simp only[Instr.checkKey,Sem.run_bind,bO hu,Result.andThen_ok]
   rw[<-Array.forIn_toList]
   first|exact key|exact Eq.trans (congrArg (λq=>Result.andThen q _) key) rfl|simpa using key
 · rename_i ij e hu
   split at au
   · rename_i sz bE
     have key:=Jj (P:=P) (w:=w) b hm bE aw ij 0 au
     simp only[Instr.checkKey,Sem.run_bind,bO hu,Result.andThen_ok]
     simp only[Std.Legacy.Range.forIn_eq_forIn_range',Std.Legacy.Range.size,Nat.sub_zero,Nat.add_one_sub_one,Nat.div_one]
     first|exact key|exact Eq.trans (congrArg (λq=>Result.andThen q _) key) rfl|simpa using key
   · cases au
 · cases au
theorem ph{c7:TypeId}{k:J}{kv:Value}(au:o8 P c7 k=true)(ab:bd μ k kv)(b:Bool):(Instr.checkKey b 10000 c7 kv).run P w=.ok () w:=by
 by_cases hs:∀cs,k≠ .agg cs
 · exact D7 (Jf hs au) b 9999
 · have:∃cs,k=.agg cs:=by
     cases k<;>first|exact⟨_,rfl⟩|exact absurd (λcs h=>by cases h) hs
   obtain⟨cs,rfl⟩:=this
   obtain⟨l,rfl,aw⟩:=ab
   exact RN aw au b (m:=9999) (n:=9998) rfl
theorem rN(aj:bm μ H w){c7:TypeId}{k:J}{kv:Value}(au:o8 P c7 k=true)(ab:bd μ k kv){es:List fW}{ents:List MapEntry}{r:Option (Nat×J)}(he:gf μ es ents)(h:kZ P H c7 k es 0=some r):
  ∃r',(Instr.findKey c7 kv ents).run P w=.ok r' w/\A1 μ r r':=by
 by_cases hs:∀cs,k≠ .agg cs
 · have fJ:=Jf hs au
   cases hu:P.underlying c7 with
   |none=>unfold n1 at fJ;rw[hu] at fJ;cases fJ
   |some u=>
    obtain⟨r',aR,aT⟩:=Jg hu hs fJ ab es ents 0 r he h
    exact⟨r',by simp[Instr.findKey,bO hu,aR],aT⟩
 · have:∃cs,k=.agg cs:=by
     cases k<;>first|exact⟨_,rfl⟩|exact absurd (λcs h=>by cases h) hs
   obtain⟨cs,rfl⟩:=this
   have hu:∃u,P.underlying c7=some u:=by
    unfold o8 at au
    simp only at au
    split at au
    · exact⟨_,by assumption⟩
    · exact⟨_,by assumption⟩
    · cases au
   obtain⟨u,hu⟩:=hu
   obtain⟨r',aR,aT⟩:=Jh (P:=P) aj ab es ents 0 r he h
   obtain⟨l,rfl,aw⟩:=ab
   refine⟨r',?_,aT⟩
   have aJ:∀(ms:List MapEntry),ms≠[]->Instr.findNow u (.agg ⟨l⟩) ms 0=none:=λms RO=>by
    cases ms with
    |nil=>exact absurd rfl RO
    |cons m ms=>cases u<;>rfl
   cases ents with
   |nil=>
    cases es with
    |nil=>simp only[kZ] at h;cases h;cases r' with
     |none=>simp[Instr.findKey,bO hu,Instr.findNow]
     |some y=>exact aT.elim
    |cons e es=>obtain⟨_,_,ah,_⟩:=he;cases ah
   |cons m ms=>
    simp only[Instr.findKey,Sem.run_bind,bO hu,Result.andThen_ok,aJ (m::ms) (by simp)]
    exact aR
theorem gf.append:∀{es ct:List fW} {ms ns:List MapEntry},gf μ es ms->gf μ ct ns->gf μ (es++ct) (ms++ns)
 |[],_,_,_,h,an=>by cases h;exact an
 |_::_,_,_,_,⟨m,ms,e,ab,ae⟩,an=>by subst e;exact⟨m,ms++_,rfl,ab,gf.append ae an⟩
theorem gf.get:∀{es:List fW} {ms:List MapEntry} (_:gf μ es ms) {j:Nat} {e:fW},es[j]? =some e->∃m,ms[j]? =some m/\vq μ e m
 |[],_,_,j,e,h=>by simp at h
 |x::es,_,⟨m,ms,e,ab,ae⟩,0,a,h=>by subst e;simp at h;subst h;exact⟨m,rfl,ab⟩
 |x::es,_,⟨m,ms,e,ab,ae⟩,j+1,a,h=>by subst e;simp at h;simpa using gf.get ae h
theorem gf.set{v key:J}{vv kv:Value}(aH:bd μ v vv)(au:bd μ key kv):∀(i:Nat) {es:List fW} {ms:List MapEntry},gf μ es ms->gf μ (sX v key i es) (ms.modify i λe=>{e with key:=kv,val:=vv})
 |0,[],_,h=>by cases h;rfl
 |_+1,[],_,h=>by cases h;rfl
 |0,e::es,_,⟨m,ms,cI,ab,ae⟩=>by subst cI;exact⟨_,ms,rfl,⟨au,aH,ab.2.2⟩,ae⟩
 |i+1,e::es,_,⟨m,ms,cI,ab,ae⟩=>by subst cI;exact⟨m,_,rfl,ab,gf.set aH au i ae⟩
theorem gf.del:∀(i:Nat) {es:List fW} {ms:List MapEntry},gf μ es ms->gf μ (DD i es) (ms.eraseIdx i)
 |0,[],_,h=>by cases h;rfl
 |_+1,[],_,h=>by cases h;rfl
 |0,e::es,_,⟨m,ms,cI,ab,ae⟩=>by subst cI;exact ae
 |i+1,e::es,_,⟨m,ms,cI,ab,ae⟩=>by subst cI;exact⟨m,_,rfl,ab,gf.del i ae⟩
theorem xS{r:Nat}{i:eX}{es:List fW}{clock:Nat}(aj:bm μ H w)(af:μ r=some i)(ao:H.get r=some (.map es clock)):∃ents,w.heap[i.bg]? =some (.map ⟨ents⟩ clock)/\gf μ es ents/\(getObj i.bg).run P w=.ok (.map ⟨ents⟩ clock) w:=by
 obtain⟨ents,aE,aC⟩:=aj.rel _ _ i ao af
 exact⟨ents,aE,aC,by simp[getObj,Sem.run,aE]⟩
theorem tf{r:Nat}{i:eX}{es rO:List fW}{clock c':Nat}{ents ents':List MapEntry}(aj:bm μ H w)(af:μ r=some i)(ao:H.get r=some (.map es clock))(he:w.heap[i.bg]? =some (.map ⟨ents⟩ clock))(ai:gf μ rO ents'):
  ∃w',(setObj i.bg (.map ⟨ents'⟩ c')).run P w=.ok () w'/\bm μ (H.set r (some (.map rO c'))) w'/\b4 μ H w μ (H.set r (some (.map rO c'))) w':=by
 have cx:i.bg<w.heap.size:=(aj.lt _ _ af).2
 obtain⟨ba,bt⟩:=aj.update (w':={w with heap:=w.heap.setIfInBounds i.bg (.map ⟨ents'⟩ c')}) (o':=.map rO c') ao rfl af (by simp) (λr ai=>by simp[Array.getElem?_setIfInBounds];intro e;exact absurd e.symm ai) rfl rfl rfl
  ⟨ents',by simp[cx],ai⟩
 exact⟨_,by simp[setObj,Sem.run,he],ba,bt⟩
end
end ay
namespace ay
open Go
section
variable {P:Program} {μ:bl} {H:aa} {w:World}
theorem Jk{iB:TypeId}{ok:Bool}{r:Option (Nat×J)}{r':Option (Nat×Value)}(ai:A1 μ r r'){v:J}(h:xp P iB ok r=some v):
  ∃u b,bd μ v (if ok then .tuple #[u,.bool b] else u)/\((∃j,r'=some (j,u)/\b=true)\/(r'=none/\(zeroValue iB).run P w=.ok u w/\b=false)):=by
 cases r with
 |none=>
  cases r' with
  |some x=>exact ai.elim
  |none=>
   simp only[xp] at h
   split at h
   · rename_i z a0
     cases h
     obtain⟨fK,aR,rfl,_⟩:=lW (P:=P) (w:=w) a0
     have:=ke μ fK
     refine⟨fK,false,?_,.inr ⟨rfl,aR,rfl⟩⟩
     cases ok
     · exact this
     · exact⟨_,rfl,_,_,rfl,this,_,_,rfl,rfl,rfl⟩
   · cases h
 |some x=>
  cases r' with
  |none=>exact ai.elim
  |some y=>
   obtain⟨i,a⟩:=x
   obtain⟨j,u⟩:=y
   obtain⟨rfl,vB⟩:=ai
   simp only[xp] at h
   cases h
   refine⟨u,true,?_,.inl ⟨_,rfl,rfl⟩⟩
   cases ok
   · exact vB
   · exact⟨_,rfl,_,_,rfl,vB,_,_,rfl,rfl,rfl⟩
theorem RP(aj:bm μ H w){t:TypeId}{m k:J}{l0 kv:Value}(hm:bd μ m l0)(au:bd μ k kv){ok:Bool}{v:J}(h:At P H t m k ok=some v):fs P μ H w (Instr.lookup t l0 kv ok) v H:=by
 unfold At at h
 split at h
 · rename_i c7 iB hu
   split at h
   · rename_i jl
     split at h
     · cases hm
       obtain⟨u,b,aR,aT⟩:=Jk (P:=P) (w:=w) (μ:=μ) (r:=none) (r':=none) trivial h
       refine .same aj (v':=if ok then .tuple #[u,.bool b] else u) ?_ aR
       have hf:(Instr.findKey c7 kv []).run P w=.ok none w:=by
        obtain⟨r',ds,eu⟩:=rN (P:=P) (w:=w) (μ:=μ) (es:=[]) (ents:=[]) (r:=none) aj jl au rfl rfl
        cases r' with
        |none=>exact ds
        |some x=>exact eu.elim
       rcases aT with⟨j,e,_⟩|⟨_,aT,rfl⟩
       · cases e
       · simp[Instr.lookup,bO hu,ph jl au,hf,aT]
     · rename_i r
       split at h
       · rename_i es clock ao
         split at h
         · rename_i b0 hf
           obtain⟨i,af,rfl⟩:=hm
           obtain⟨ents,aE,aC,bu⟩:=xS (P:=P) aj af ao
           obtain⟨r',ds,eu⟩:=rN (P:=P) (w:=w) aj jl au aC hf
           obtain⟨u,b,aR,aT⟩:=Jk (P:=P) (w:=w) (μ:=μ) eu h
           refine .same aj (v':=if ok then .tuple #[u,.bool b] else u) ?_ aR
           rcases aT with⟨j,rfl,rfl⟩|⟨rfl,aT,rfl⟩
           · simp[Instr.lookup,bO hu,ph jl au,bu,ds]
           · simp[Instr.lookup,bO hu,ph jl au,bu,ds,aT]
         · cases h
       · cases h
     · cases h
   · cases h
 · cases h
theorem Jl{k x:J}{kv br:Value}(n:Nat)(h:qe k x=some true)(ab:bd μ k kv)(ae:bd μ x br):Instr.sameBits n br kv=true:=by
 cases k<;>cases x<;>simp only[qe] at h<;>try cases h
 · simp at h;subst h;cases ab;cases ae;simp[Instr.sameBits]
 · split at h
   · rename_i e;subst e
     simp[de] at h;subst h;cases ab;cases ae;simp[Instr.sameBits]
   · cases h
 · simp only[Option.some.injEq] at h
   obtain⟨s1,rfl,rfl⟩:=ab
   obtain⟨s2,rfl,rfl⟩:=ae
   rw[nk,<-rG,<-rG,<-beq_toListBytes] at h
   have:(s2==s1)=true:=by rw[beq_toListBytes] at h⊢;rw[beq_iff_eq] at h⊢;exact h.symm
   simpa[Instr.sameBits] using this
theorem Jm(n:Nat):∀(a b:List J) (rP rQ:List Value),xm a b=true->b9 μ a rP->b9 μ b rQ->rQ.length=rP.length/\(rQ.zip rP).all (λ(x,y)=>Instr.sameBits n x y)=true
 |[],[],rP,rQ,_,ab,ae=>by cases ab;cases ae;exact⟨rfl,rfl⟩
 |[],_::_,_,_,h,_,_=>by cases h
 |_::_,[],_,_,h,_,_=>by cases h
 |x::a,y::b,_,_,h,⟨u,us,rfl,D5,A2⟩,⟨v,vs,rfl,v1,v2⟩=>by
  unfold xm at h
  split at h
  · rename_i hs
    obtain⟨aE,aC⟩:=Jm n a b us vs h A2 v2
    refine⟨by simp[aE],?_⟩
    rw[List.zip_cons_cons,List.all_cons,aC,Bool.and_true]
    exact Jl n hs D5 v1
  · cases h
theorem Jn{c7:TypeId}{k x:J}{kv br:Value}(h:xn P H c7 k x=some true)(cr:rl k x=true)(ab:bd μ k kv)(ae:bd μ x br):Instr.sameBits 10000 br kv=true:=by
 by_cases hs:∀cs,k≠ .agg cs
 · rw[Je hs] at h
   exact Jl 10000 h ab ae
 · have:∃cs,k=.agg cs:=by
     cases k<;>first|exact⟨_,rfl⟩|exact absurd (λcs h=>by cases h) hs
   obtain⟨a,rfl⟩:=this
   have:∃b,x=.agg b:=by
    cases x<;>first|exact⟨_,rfl⟩|cases cr
   obtain⟨b,rfl⟩:=this
   obtain⟨rP,rfl,A2⟩:=ab
   obtain⟨rQ,rfl,v2⟩:=ae
   have RQ:xm a b=true:=cr
   obtain⟨aE,aC⟩:=Jm (μ:=μ) 9999 a b rP rQ RQ A2 v2
   show Instr.sameBits (9999+1) (.agg ⟨rQ⟩) (.agg ⟨rP⟩)=true
   generalize 9999=n at aC⊢
   simp only[Instr.sameBits]
   rw[aC,Bool.and_true]
   simp[aE]
theorem D8(l:List MapEntry)(i:Nat)(f:MapEntry->MapEntry):(⟨l⟩:Array MapEntry).modify i f=⟨l.modify i f⟩:=by
 apply Array.ext'
 simp
theorem Jo(aj:bm μ H w){t:TypeId}{m k x:J}{l0 kv br:Value}(hm:bd μ m l0)(au:bd μ k kv)(ad:bd μ x br){aZ:aa}(h:vk P H t m k x=some aZ):
  ∃w',(Instr.mapUpdate t l0 kv br).run P w=.ok () w'/\bm μ aZ w'/\b4 μ H w μ aZ w':=by
 unfold vk at h
 split at h
 · rename_i c7 iB hu
   split at h
   · rename_i jl
     split at h
     · rename_i r
       split at h
       · rename_i es clock ao
         obtain⟨i,af,rfl⟩:=hm
         obtain⟨ents,aE,aC,bu⟩:=xS (P:=P) aj af ao
         split at h
         · rename_i j a hf
           have tg:rl k (xo j es)=true:=by
            cases ah:rl k (xo j es) with
            |true=>rfl
            |false=>rw[ah] at h;cases h
           rw[tg] at h
           cases h
           obtain⟨r',ds,eu⟩:=rN (P:=P) (w:=w) aj jl au aC hf
           cases r' with
           |none=>exact eu.elim
           |some y=>
            obtain⟨jS,u⟩:=y
            obtain⟨rfl,vB⟩:=eu
            obtain⟨_,kG,aR,aT,bP⟩:=D6 es 0 j a hf
            obtain⟨th,di,da⟩:=aC.get (by simpa using aR)
            have tg:rl k kG.key=true:=by
             have:xo j es=kG.key:=by unfold xo;rw[qn,show es[j]? =some kG by simpa using aR]
             rw[<-this];exact tg
            have cr:(Instr.keyThatStays (((ents[j]?).map (·.key)).getD kv) kv).run P w=.ok kv w:=by
             simp only[Instr.keyThatStays,di,Option.map_some,Option.getD_some,Jn bP tg au da.1,if_true,Sem.run_pure]
            obtain⟨w',dI,eS,kg⟩:=tf (P:=P) (c':=clock) aj af ao aE (aC.set ad au j)
            refine⟨w',?_,eS,kg⟩
            simp only[Instr.mapUpdate,Sem.run_bind,bO hu,Result.andThen_ok,bu,ph jl au,ds,List.getElem?_toArray,cr,D8,dI]
         · rename_i hf
           cases h
           obtain⟨r',ds,eu⟩:=rN (P:=P) (w:=w) aj jl au aC hf
           cases r' with
           |some y=>exact eu.elim
           |none=>
            obtain⟨w',dI,eS,kg⟩:=tf (P:=P) (c':=clock+1) (ents':=ents++[⟨kv,br,clock⟩]) aj af ao aE (aC.append (show gf μ [⟨k,x,clock⟩] [⟨kv,br,clock⟩] from⟨_,_,rfl,⟨au,ad,rfl⟩,rfl⟩))
            refine⟨w',?_,eS,kg⟩
            simp only[Instr.mapUpdate,Sem.run_bind,bO hu,Result.andThen_ok,bu,ph jl au,ds,List.push_toArray,dI]
         · cases h
       · cases h
     · cases h
   · cases h
 · cases h
theorem RR(aj:bm μ H w){t:TypeId}{m k:J}{l0 kv:Value}(hm:bd μ m l0)(au:bd μ k kv){v:J}{aZ:aa}(h:Au P H t m k=some (v,aZ)):fs P μ H w (Instr.mapEntry t l0 kv) v aZ:=by
 unfold Au at h
 split at h
 · rename_i c7 iB hu
   split at h
   · rename_i jl
     split at h
     · rename_i r
       split at h
       · rename_i es clock ao
         obtain⟨i,af,rfl⟩:=hm
         obtain⟨ents,aE,aC,bu⟩:=xS (P:=P) aj af ao
         split at h
         · rename_i j a hf
           split at h
           · rename_i kG qs
             have tg:rl k kG.key=true:=by
              cases ah:rl k kG.key with
              |true=>rfl
              |false=>rw[ah] at h;cases h
             rw[tg] at h
             cases h
             rw[qn] at qs
             obtain⟨r',ds,eu⟩:=rN (P:=P) (w:=w) aj jl au aC hf
             cases r' with
             |none=>exact eu.elim
             |some y=>
              obtain⟨jS,u⟩:=y
              obtain⟨rfl,vB⟩:=eu
              obtain⟨_,Jp,aR,aT,bP⟩:=D6 es 0 j a hf
              have:Jp=kG:=by
               have Jq:es[j]? =some Jp:=by simpa using aR
               rw[qs] at Jq;cases Jq;rfl
              subst this
              obtain⟨th,di,da⟩:=aC.get qs
              have cr:(Instr.keyThatStays (((ents[j]?).map (·.key)).getD kv) kv).run P w=.ok kv w:=by
               simp only[Instr.keyThatStays,di,Option.map_some,Option.getD_some,Jn bP tg au da.1,if_true,Sem.run_pure]
              have D9:gf μ (sX a k j es) (ents.modify j λe=>{e with key:=kv}):=by
               have hs:=aC.set (v:=a) (vv:=th.val) (key:=k) (kv:=kv) (by rw[<-aT];exact da.2.1) au j
               have:(ents.modify j λe=>{e with key:=kv,val:=th.val})=(ents.modify j λe=>{e with key:=kv}):=by
                apply List.ext_getElem?
                intro q
                rw[List.getElem?_modify,List.getElem?_modify]
                by_cases a1:j=q
                · subst a1;rw[di];simp
                · simp[a1]
               rw[<-this];exact hs
              obtain⟨w',dI,eS,kg⟩:=tf (P:=P) (c':=clock) aj af ao aE D9
              refine⟨μ,w',.tuple #[u,.int .i64 (th.born:Int)],?_,⟨_,rfl,_,_,rfl,vB,_,_,rfl,by rw[da.2.2];rfl,rfl⟩,eS,kg⟩
              rw[di,Option.map_some,Option.getD_some] at cr
              simp only[Instr.mapEntry,Sem.run_bind,bO hu,Result.andThen_ok,bu,ph jl au,ds,List.getElem?_toArray,di,Option.map_some,Option.getD_some,cr,D8,dI,goInt,Sem.run_pure]
           · cases h
         · rename_i hf
           split at h
           · rename_i z a0
             cases h
             obtain⟨fK,xU,rfl,_⟩:=lW (P:=P) (w:=w) a0
             obtain⟨r',ds,eu⟩:=rN (P:=P) (w:=w) aj jl au aC hf
             cases r' with
             |some y=>exact eu.elim
             |none=>
              obtain⟨w',dI,eS,kg⟩:=tf (P:=P) (c':=clock+1) (ents':=ents++[⟨kv,fK,clock⟩]) aj af ao aE (aC.append (show gf μ [⟨k,n0 fK,clock⟩] [⟨kv,fK,clock⟩] from⟨_,_,rfl,⟨au,ke μ fK,rfl⟩,rfl⟩))
              refine⟨μ,w',.tuple #[fK,.int .i64 (clock:Int)],?_,⟨_,rfl,_,_,rfl,ke μ fK,_,_,rfl,rfl,rfl⟩,eS,kg⟩
              simp only[Instr.mapEntry,Sem.run_bind,bO hu,Result.andThen_ok,bu,ph jl au,ds,xU,List.push_toArray,dI,goInt,Sem.run_pure]
           · cases h
         · cases h
       · cases h
     · cases h
   · cases h
 · cases h
theorem Jr{born:Int}:∀(es:List fW) (ents:List MapEntry) (i j:Nat) (e:fW),gf μ es ents->xq born es i=some (j,e)->i<=j/\es[j-i]? =some e/\ents.findIdx? (λm=>(m.born:Int)==born)=some (j-i)
 |[],_,i,j,e,_,h=>by simp[xq] at h
 |x::es,_,i,j,e,⟨m,ms,aE,aC,bu⟩,h=>by
  subst aE
  simp only[xq] at h
  have ag:de (Int.ofNat x.born) born=((m.born:Int)==born):=by rw[aC.2.2];rfl
  split at h
  · rename_i hs
    cases h
    rw[ag] at hs
    exact⟨Nat.le_refl _,by simp,by simp[List.findIdx?_cons,hs]⟩
  · rename_i hs
    rw[ag] at hs
    obtain⟨aR,aT,bP⟩:=Jr es ms (i+1) j e bu h
    have:j-i=(j-(i+1))+1:=by omega
    refine⟨by omega,by rw[this];simpa using aT,?_⟩
    rw[this]
    simp[List.findIdx?_cons,hs,bP]
theorem RS(aj:bm μ H w){t:TypeId}{m s x:J}{l0 np br:Value}(hm:bd μ m l0)(hs:bd μ s np)(ad:bd μ x br){aZ:aa}(h:Av H m s x=some aZ):
  ∃w',(Instr.entryStore t l0 np br).run P w=.ok () w'/\bm μ aZ w'/\b4 μ H w μ aZ w':=by
 unfold Av at h
 split at h
 · rename_i r cd born
   split at h
   · rename_i es clock ao
     split at h
     · rename_i j kG ag
       cases h
       cases hs
       obtain⟨i,af,rfl⟩:=hm
       obtain⟨ents,aE,aC,bu⟩:=xS (P:=P) aj af ao
       obtain⟨_,aR,aT⟩:=Jr es ents 0 j kG aC ag
       obtain⟨th,di,da⟩:=aC.get (by simpa using aR)
       have D9:gf μ (sX x kG.key j es) (ents.modify j λe=>{e with val:=br}):=by
        have hs:=aC.set (v:=x) (vv:=br) (key:=kG.key) (kv:=th.key) ad da.1 j
        have:(ents.modify j λe=>{e with key:=th.key,val:=br})=(ents.modify j λe=>{e with val:=br}):=by
         apply List.ext_getElem?
         intro q
         rw[List.getElem?_modify,List.getElem?_modify]
         by_cases a1:j=q
         · subst a1;rw[di];simp
         · simp[a1]
        rw[<-this];exact hs
       obtain⟨w',dI,eS,kg⟩:=tf (P:=P) (c':=clock) aj af ao aE D9
       refine⟨w',?_,eS,kg⟩
       have xV:(⟨ents⟩:Array MapEntry).findIdx? (λe=>(e.born:Int)==born)=some j:=by
        have:=aT
        simp only[Nat.sub_zero] at this
        rw[<-this];simp
       simp only[Instr.entryStore,Sem.run_bind,Result.andThen_ok,bu,asInt,asIntOf,Sem.run_pure,xV,D8,dI]
     · cases h
   · cases h
 · cases h
theorem RT(aj:bm μ H w){argTypes:Array TypeId}{ty t:TypeId}(h0:argTypes[0]? =some t){m k:J}{l0 kv:Value}(hm:bd μ m l0)(au:bd μ k kv){v:J}{aZ:aa}(h:Aw P H t m k=some (v,aZ)):
  fs P μ H w (Builtin.delete_ argTypes ty #[l0,kv]) v aZ:=by
 unfold Aw at h
 split at h
 · rename_i c7 iB hu
   split at h
   · rename_i jl
     split at h
     · cases h;cases hm
       refine .same aj (v':=.tuple #[]) ?_ ⟨[],rfl,rfl⟩
       simp[Builtin.delete_,h0,bO hu,ph jl au]
     · rename_i r
       split at h
       · rename_i es clock ao
         obtain⟨i,af,rfl⟩:=hm
         obtain⟨ents,aE,aC,bu⟩:=xS (P:=P) aj af ao
         split at h
         · rename_i j a hf
           cases h
           obtain⟨r',ds,eu⟩:=rN (P:=P) (w:=w) aj jl au aC hf
           cases r' with
           |none=>exact eu.elim
           |some y=>
            obtain⟨jS,u⟩:=y
            obtain⟨rfl,vB⟩:=eu
            obtain⟨w',dI,eS,kg⟩:=tf (P:=P) (c':=clock) aj af ao aE (aC.del j)
            refine⟨μ,w',.tuple #[],?_,⟨[],rfl,rfl⟩,eS,kg⟩
            have he:(⟨ents⟩:Array MapEntry).eraseIdxIfInBounds j=⟨ents.eraseIdx j⟩:=by
             apply Array.ext'
             simp
            simp[Builtin.delete_,h0,bO hu,ph jl au,bu,ds,he,dI]
         · rename_i hf
           cases h
           obtain⟨r',ds,eu⟩:=rN (P:=P) (w:=w) aj jl au aC hf
           cases r' with
           |some y=>exact eu.elim
           |none=>
            obtain⟨w',dI,eS,kg⟩:=tf (P:=P) (c':=clock) aj af ao aE aC
            refine⟨μ,w',.tuple #[],?_,⟨[],rfl,rfl⟩,eS,kg⟩
            simp[Builtin.delete_,h0,bO hu,ph jl au,bu,ds,dI]
         · cases h
       · cases h
     · cases h
   · cases h
 · cases h
theorem RU(aj:bm μ H w){t:TypeId}:fs P μ H w (Instr.makeMap t none) (.map H.n) (H.push (.map [] 0)):=by
 obtain⟨ba,bt⟩:=aj.alloc (.map [] 0) (.map #[] 0) 0 ⟨[],World.heap_alloc_new _ _,rfl⟩
 exact⟨_,_,.map (some w.heap.size),rfl,⟨_,gz _ _ _,rfl⟩,ba,bt⟩
theorem RV(aj:bm μ H w){t c7 iB:TypeId}{k:IntKind}{n:Int}(hu:P.underlying t=some (.map c7 iB)):fs P μ H w (Instr.makeMap t (some (.int k n))) (.map H.n) (H.push (.map [] 0)):=by
 obtain⟨ba,bt⟩:=aj.alloc (.map [] 0) (.map #[] 0) 0 ⟨[],World.heap_alloc_new _ _,rfl⟩
 refine⟨_,_,.map (some w.heap.size),?_,⟨_,gz _ _ _,rfl⟩,ba,bt⟩
 simp only[Instr.makeMap,Sem.run_bind,bO hu,Result.andThen_ok,asInt,asIntOf,Sem.run_pure,run_newObj]
 rfl
theorem RW(aj:bm μ H w){t:TypeId}(hu:P.underlying t=some .string){s:List UInt8}{br:Value}(ad:bd μ (.str s) br):fs P μ H w (Instr.range t br) (.ptr H.n 0) (H.push (.o4 s 0)):=by
 obtain⟨bs,rfl,rfl⟩:=ad
 obtain⟨ba,bt⟩:=aj.alloc (.o4 bs.data.toList 0) (.stringIter bs 0) 0 ⟨rfl,bs,World.heap_alloc_new _ _,rfl⟩
 refine⟨_,_,.pointer (some ⟨w.heap.size,0,none⟩),?_,⟨_,gz _ _ _,rfl⟩,ba,bt⟩
 simp only[Instr.range,Sem.run_bind,bO hu,Result.andThen_ok,Sem.run_pure,run_newObj]
 rfl
theorem RX(aj:bm μ H w){t c7 iB:TypeId}(hu:P.underlying t=some (.map c7 iB)){br:Value}(ad:bd μ .hz br):fs P μ H w (Instr.range t br) (.ptr H.n 0) (H.push (.mapIter none 0 [] 0)):=by
 cases ad
 obtain⟨ba,bt⟩:=aj.alloc (.mapIter none 0 [] 0) (.mapIter none 0 #[] 0) 0 ⟨rfl,World.heap_alloc_new _ _⟩
 refine⟨_,_,.pointer (some ⟨w.heap.size,0,none⟩),?_,⟨_,gz _ _ _,rfl⟩,ba,bt⟩
 simp only[Instr.range,Sem.run_bind,bO hu,Result.andThen_ok,Sem.run_pure,run_newObj]
 rfl
def RY(at':Nat->Nat)(lt:Nat->Bool):Nat×Nat:=
 let cont (k:Nat):Bool:=lt k&&at' k/64==2
 let cF:=at' 0
 if cF<0x80 then(cF,1)
 else if cF/32==6&&cont 1 then
  let c:=(cF %32)*64+at' 1 %64
  if c>=0x80 then(c,2) else(Utf8.runeError,1)
 else if cF/16==14&&cont 1&&cont 2 then
  let c:=(cF %16)*4096+(at' 1 %64)*64+at' 2 %64
  if c>=0x800&&Utf8.valid c then(c,3) else(Utf8.runeError,1)
 else if cF/8==30&&cont 1&&cont 2&&cont 3 then
  let c:=(cF %8)*262144+(at' 1 %64)*4096+(at' 2 %64)*64+at' 3 %64
  if c>=0x10000&&Utf8.valid c then(c,4) else(Utf8.runeError,1)
 else(Utf8.runeError,1)
theorem Js(s:ByteArray)(i:Nat):Utf8.decode s i=RY (λk=>(s.get! (i+k)).toNat) (λk=>decide (i+k<s.size)):=rfl
theorem RZ(full:ByteArray)(pos:Nat)(aY:pos<=full.size):Utf8.decode full pos=Utf8.decode ⟨(full.data.toList.drop pos).toArray⟩ 0:=by
 have nr:full.data.toList.length=full.size:=Array.length_toList
 have bE:(⟨(full.data.toList.drop pos).toArray⟩:ByteArray).size=full.size-pos:=by
  show((full.data.toList.drop pos).toArray).size=_
  rw[List.size_toArray,List.length_drop,nr]
 have fR:∀k,full.get! (pos+k)=(⟨(full.data.toList.drop pos).toArray⟩:ByteArray).get! (0+k):=λk=>by
  show full.data[pos+k]! =((full.data.toList.drop pos).toArray)[0+k]!
  rw[Nat.zero_add]
  rw[getElem!_def,getElem!_def]
  have:((full.data.toList.drop pos).toArray)[k]? =full.data[pos+k]? :=by
   rw[List.getElem?_toArray,List.getElem?_drop,Array.getElem?_toList]
  rw[this]
 rw[Js,Js]
 have a5:(λk=>(full.get! (pos+k)).toNat)=(λk=>((⟨(full.data.toList.drop pos).toArray⟩:ByteArray).get! (0+k)).toNat):=by
  funext k;rw[fR k]
 have ag:(λk=>decide (pos+k<full.size))=(λk=>decide (0+k<(⟨(full.data.toList.drop pos).toArray⟩:ByteArray).size)):=by
  funext k
  exact decide_eq_decide.2 (by rw[bE];omega)
 rw[a5,ag]
theorem R0(aj:bm μ H w){t:TypeId}{it:J}{xW:Value}(af:bd μ it xW){b:Bool}{v:J}{aZ:aa}(h:Ax H it b=some (v,aZ)):fs P μ H w (Instr.next xW b t) v aZ:=by
 unfold Ax at h
 split at h
 · rename_i r
   obtain⟨i,iS,rfl⟩:=af
   split at h
   · rename_i s pos ao
     obtain⟨dW,full,aE,aC⟩:=aj.rel _ _ i ao iS
     obtain⟨jD,i0,A3⟩:=i
     simp only at dW;subst dW
     have fR:(getObj jD).run P w=.ok (.stringIter full pos) w:=by simp[getObj,Sem.run,aE]
     have nr:full.data.toList.length=full.size:=Array.length_toList
     have Jt:=congrArg List.length aC
     rw[List.length_drop,nr] at Jt
     split at h
     · cases h
       have aJ:¬pos<full.size:=by simp at Jt;omega
       exact .same aj (v':=.tuple #[.bool false]) (by simp[Instr.next,fR,aJ]) ⟨_,rfl,_,_,rfl,rfl,rfl⟩
     · rename_i dK
       have cx:pos<full.size:=by
        rcases Nat.lt_or_ge pos full.size with h|h
        · exact h
        · exfalso;apply dK
          exact List.length_eq_zero_iff.1 (by omega)
       have vC:Utf8.decode full pos=DE s:=by rw[RZ full pos (by omega),aC];rfl
       generalize DE s=mr at vC h
       obtain⟨c,wd⟩:=mr
       cases h
       have R1:jD<w.heap.size:=(aj.lt _ _ iS).2
       obtain⟨ba,bt⟩:=aj.update (w':={w with heap:=w.heap.setIfInBounds jD (.stringIter full (pos+wd))}) (o':=.o4 (iO wd s) (pos+wd)) ao rfl iS (by simp) (λr ai=>by simp[Array.getElem?_setIfInBounds];intro e;exact absurd e.symm ai) rfl rfl rfl
        ⟨rfl,full,by simp[R1],by rw[ni,<-aC,List.drop_drop]⟩
       refine⟨μ,_,.tuple #[.bool true,.int .i64 (pos:Int),.int .i32 (c:Int)],?_,⟨_,rfl,_,_,rfl,rfl,_,_,rfl,rfl,_,_,rfl,rfl,rfl⟩,ba,bt⟩
       have ti:(setObj jD (.stringIter full (pos+wd))).run P w=.ok () {w with heap:=w.heap.setIfInBounds jD (.stringIter full (pos+wd))}:=by simp[setObj,Sem.run,aE]
       simp[Instr.next,fR,cx,vC,ti,goInt]
   · rename_i since seen last ao
     cases h
     obtain⟨dW,aE⟩:=aj.rel _ _ i ao iS
     obtain⟨jD,i0,A3⟩:=i
     simp only at dW;subst dW
     have xX:w.heap[jD]? =some (.mapIter none since ⟨seen⟩ last):=aE
     have fR:(getObj jD).run P w=.ok (.mapIter none since ⟨seen⟩ last) w:=by simp[getObj,Sem.run,xX]
     exact .same aj (v':=.tuple #[.bool false]) (by simp[Instr.next,fR]) ⟨_,rfl,_,_,rfl,rfl,rfl⟩
   · cases h
 · cases h
theorem Ju:∀(es:List fW) (ms:List MapEntry) (b:Nat) (e:fW),gf μ es ms->xr b es=some e->∃m,ms.find? (λx=>x.born==b)=some m/\vq μ e m
 |[],ms,b,e,ai,h=>by simp[xr] at h
 |x::es,ms,b,e,ai,h=>by
  obtain⟨m,R2,rfl,ab,ae⟩:=ai
  unfold xr at h
  rw[List.find?_cons,<-ab.2.2]
  cases ag:Nat.beq x.born b with
  |true=>
   rw[ag] at h
   cases h
   have:x.born=b:=Nat.eq_of_beq_eq_true ag
   rw[this]
   simp only[beq_self_eq_true]
   exact⟨m,rfl,ab⟩
  |false=>
   rw[ag] at h
   have:(x.born==b)=false:=by
    cases ah:x.born==b with
    |false=>rfl
    |true=>rw[beq_iff_eq.1 ah] at ag;rw[Nat.beq_refl] at ag;cases ag
   rw[this]
   exact Ju es R2 b e ae h
theorem Jv:∀(l:List Nat),Ay l=l.getLast?
 |[]=>rfl
 |[b]=>rfl
 |a::b::l=>by
  show Ay (b::l)=_
  rw[Jv (b::l),List.getLast?_cons_cons]
theorem R3(aj:bm μ H w){it:J}{xW:Value}(af:bd μ it xW){v:J}(h:Az H it=some v):fs P μ H w (Instr.entry xW) v H:=by
 unfold Az at h
 split at h
 · rename_i r
   obtain⟨i,iS,rfl⟩:=af
   split at h
   · rename_i m since seen last ao
     obtain⟨dW,j,aI,aE⟩:=aj.rel _ _ i ao iS
     obtain⟨jD,i0,A3⟩:=i
     simp only at dW;subst dW
     have xX:w.heap[jD]? =some (.mapIter (some j.bg) since ⟨seen⟩ last):=aE
     split at h
     · rename_i es clock b D_ R4
       obtain⟨ents,f1,f2⟩:=aj.rel _ _ j D_ aI
       split at h
       · rename_i hd
         have hd:clock=last:=Nat.eq_of_beq_eq_true hd
         split at h
         · rename_i e R5
           cases h
           obtain⟨Ea,al,ak⟩:=Ju es ents b e f2 R5
           have fR:(getObj jD).run P w=.ok (.mapIter (some j.bg) since ⟨seen⟩ last) w:=by simp[getObj,Sem.run,xX]
           have R6:(getObj j.bg).run P w=.ok (.map ⟨ents⟩ clock) w:=by simp[getObj,Sem.run,f1]
           have R7:(⟨seen⟩:Array Nat).back?=some b:=by
            rw[<-R4,Jv];simp
           have xY:(⟨ents⟩:Array MapEntry).find? (λx=>x.born==b)=some Ea:=by rw[<-al];simp
           refine .same aj (v':=.tuple #[Ea.key,Ea.val]) ?_ ⟨_,rfl,_,_,rfl,ak.1,_,_,rfl,ak.2.1,rfl⟩
           have dK:(clock !=last)=false:=by simp[hd]
           simp only[Instr.entry,Sem.run_bind,fR,Result.andThen_ok,R7,R6,dK,Bool.false_eq_true,if_false,xY]
           rfl
         · cases h
       · cases h
     · cases h
   · cases h
 · cases h
end
end ay
namespace ay
open Go
section
variable {P:Program} {μ:bl} {H:aa} {w:World}
theorem R8(k:IntKind)(x y:Int){v:J}(h:arith .xor k x y=some v):∃u,(Op.intBits .xor k x y).run P w=.ok u w/\bd μ v u:=by
 simp only[arith] at h;cases h;exact⟨_,rfl,rfl⟩
theorem R9{x:Value}{b:Bool}(ad:bd μ (.bool b) x):∃u,(Op.unary .not x).run P w=.ok u w/\bd μ (.bool (!b)) u:=by
 cases ad;exact⟨_,rfl,rfl⟩
theorem R_{x:Value}{k:IntKind}{n:Int}(ad:bd μ (.int k n) x):∃u,(Op.unary .neg x).run P w=.ok u w/\bd μ (.int k (k.wrap (0-n))) u:=by
 cases ad;exact⟨_,rfl,rfl⟩
theorem Sa{x:Value}{k:IntKind}{n:Int}{v:J}(ad:bd μ (.int k n) x)(h:arith .xor k (if k.signed then-1 else k.max) n=some v):∃u,(Op.unary .xor x).run P w=.ok u w/\bd μ v u:=by
 cases ad;exact R8 k _ n h
def tj:Value->Bool
 |.int _ _|.float _ _|.complex _ _ _|.string _=>true
 |_=>false
theorem binOp_eql(t:TypeId){x y:Value}(h:tj x=false):binOp .eql t x y=(do pure (.bool (<-Op.equal t x y))):=by
 cases x<;>simp[tj] at h<;>cases y<;>rfl
theorem binOp_neq(t:TypeId){x y:Value}(h:tj x=false):binOp .neq t x y=(do pure (.bool (!(<-Op.equal t x y)))):=by
 cases x<;>simp[tj] at h<;>cases y<;>rfl
theorem Jw:∀{d:Nat} {t:TypeId} {x y:J} {b:Bool} {br:Value},ic P H d t x y=some b->(∀j a k c,¬(x=.int j a/\y=.int k c))->(∀a c,¬(x=.str a/\y=.str c))->bd μ x br->tj br=false:=by
 intro d t x y b br h af hs ad
 cases d with
 |zero=>simp[ic] at h
 |succ d=>
  cases x with
  |bad=>unfold ic at h;split at h<;>simp at h
  |int j a=>
   unfold ic at h
   split at h
   all_goals first
    |(cases y<;>simp at h;done)
    |(cases y<;>simp at h;exact absurd ⟨rfl,rfl⟩ (af _ _ _ _))
    |cases h
  |str a=>
   unfold ic at h
   split at h
   all_goals first
    |(cases y<;>simp at h;done)
    |(cases y<;>simp at h;exact absurd ⟨rfl,rfl⟩ (hs _ _))
    |cases h
  |bool b=>cases ad;rfl
  |bc=>cases ad;rfl
  |ptr b off=>obtain⟨i,_,rfl⟩:=ad;rfl
  |az=>cases ad;rfl
  |slice b off n c=>
   obtain⟨i,_,ah⟩:=ad
   cases c with
   |exact c=>cases ah;rfl
   |aM gG=>obtain⟨c,rfl,_⟩:=ah;rfl
   |dead=>obtain⟨_,a,c,rfl⟩:=ah;rfl
  |hz=>cases ad;rfl
  |map r=>obtain⟨i,_,rfl⟩:=ad;rfl
  |fi=>cases ad;rfl
  |fn f a b=>obtain⟨_,_,rfl,_⟩:=ad;rfl
  |bR l=>obtain⟨i,_,rfl⟩:=ad;rfl
  |eO=>cases ad;rfl
  |iface t x=>obtain⟨_,rfl,_⟩:=ad;rfl
  |agg cs=>obtain⟨_,rfl,_⟩:=ad;rfl
  |aD cs=>obtain⟨_,rfl,_⟩:=ad;rfl
theorem Jx{op:BinOp}(h:op≠ .eql)(an:op≠ .neq)(t:TypeId)(kB jw:Operand)(a b:Value):(eqGuard op t kB jw a b).run P w=.ok () w:=by
 cases op<;>first|exact absurd rfl h|exact absurd rfl an|simp[eqGuard]
def rR:Value->Nat
 |.nilIface=>1
 |.agg _=>2
 |_=>0
theorem Eb{op:BinOp}(gn:op=.eql\/op=.neq){t:TypeId}{kB jw:Operand}{a b:Value}(h:rR a=0\/rR a≠rR b):(eqGuard op t kB jw a b).run P w=.ok () w:=by
 rcases gn with rfl|rfl<;>(cases a<;>first|rfl|(cases b<;>first|rfl|simp[rR] at h))
def tk:J->Nat
 |.eO=>1
 |.agg _=>2
 |_=>0
theorem Jy{x:J}{a:Value}(ad:bd μ x a)(ag:x≠ .bad):rR a=tk x:=by
 cases x with
 |bad=>exact absurd rfl ag
 |bool b=>cases ad;rfl
 |int k n=>cases ad;rfl
 |str s=>obtain⟨_,rfl,_⟩:=ad;rfl
 |bc=>cases ad;rfl
 |ptr b off=>obtain⟨i,_,rfl⟩:=ad;rfl
 |az=>cases ad;rfl
 |slice b off n c=>
  obtain⟨i,_,ah⟩:=ad
  cases c with
  |exact c=>cases ah;rfl
  |aM gG=>obtain⟨c,rfl,_⟩:=ah;rfl
  |dead=>obtain⟨_,a,c,rfl⟩:=ah;rfl
 |hz=>cases ad;rfl
 |map r=>obtain⟨i,_,rfl⟩:=ad;rfl
 |fi=>cases ad;rfl
 |fn f a b=>obtain⟨_,_,rfl,_⟩:=ad;rfl
 |bR l=>obtain⟨i,_,rfl⟩:=ad;rfl
 |eO=>cases ad;rfl
 |iface t x=>obtain⟨_,rfl,_⟩:=ad;rfl
 |agg cs=>obtain⟨_,rfl,_⟩:=ad;rfl
 |aD cs=>obtain⟨_,rfl,_⟩:=ad;rfl
theorem Jz{op:BinOp}(gn:op=.eql\/op=.neq){t:TypeId}{kB jw:Operand}{x y:J}{a b:Value}(ad:bd μ x a)(a6:bd μ y b)(JA:x≠ .bad)(Sb:y≠ .bad)(h:rk P t kB jw x y=true):
  (eqGuard op t kB jw a b).run P w=.ok () w:=by
 have og:=Jy ad JA
 have pj:=Jy a6 Sb
 by_cases ai:rR a=0\/rR a≠rR b
 · exact Eb gn ai
 · have ab:tk x≠0:=λe=>ai (.inl (og.trans e))
   have ae:tk x=tk y:=by
    rw[<-og,<-pj];exact Classical.byContradiction λe=>ai (.inr e)
   cases x<;>simp[tk] at ab
   · cases y<;>simp[tk] at ae
     cases ad;cases a6
     simp only[rk] at h
     rcases gn with rfl|rfl<;>(cases kB<;>cases jw<;>first|rfl|simp at h)
   · cases y<;>simp[tk] at ae
     obtain⟨bD,rfl,_⟩:=ad
     obtain⟨bT,rfl,_⟩:=a6
     simp only[rk,Bool.not_eq_true'] at h
     rcases gn with rfl|rfl<;>simp[eqGuard,h]
theorem JB{d:Nat}{t:TypeId}{x y:J}{b:Bool}(h:ic P H d t x y=some b):x≠ .bad/\y≠ .bad:=by
 cases d with
 |zero=>simp[ic] at h
 |succ d=>
  constructor
  · rintro rfl;unfold ic at h;split at h<;>simp at h
  · rintro rfl;unfold ic at h;split at h<;>(try cases x)<;>simp at h
theorem Sc(aj:bm μ H w){op:BinOp}{t yt:TypeId}{kB jw:Operand}{x y v:J}{br gA:Value}(ad:bd μ x br)(a6:bd μ y gA)(h:er P H op t kB jw x y=some v):
  ∃u,(do eqGuard op t kB jw br gA;binOp op t br gA:Sem Value).run P w=.ok u w/\bd μ v u:=by
 unfold er at h
 split at h
 · rename_i k a ew b
   cases ad;cases a6
   have ao:(eqGuard op t kB jw (.int k a) (.int ew b)).run P w=.ok () w:=by
    by_cases gn:op=.eql\/op=.neq
    · exact Eb gn (.inl rfl)
    · exact Jx (λe=>gn (.inl e)) (λe=>gn (.inr e)) t kB jw _ _
   simp only[Sem.run_bind,ao,Result.andThen_ok]
   split at h
   · exact IN h t
   · exact IN h t
   · rename_i ab ae
     split at h
     · rename_i au;subst au
       exact QT h ⟨ab,ae⟩ t
     · cases h
 · rename_i a b
   obtain⟨s1,rfl,rfl⟩:=ad
   obtain⟨s2,rfl,rfl⟩:=a6
   have ao:(eqGuard op t kB jw (.string s1) (.string s2)).run P w=.ok () w:=by
    by_cases gn:op=.eql\/op=.neq
    · exact Eb gn (.inl rfl)
    · exact Jx (λe=>gn (.inl e)) (λe=>gn (.inr e)) t kB jw _ _
   simp only[Sem.run_bind,ao,Result.andThen_ok]
   exact QV h t
 · rename_i ec pk
   split at h
   · split at h
     · rename_i cR
       split at h
       · rename_i b he
         cases h
         obtain⟨bh,bf⟩:=JB he
         have ao:=Jz (w:=w) (op:=.eql) (.inl rfl) ad a6 bh bf cR
         have aJ:tj br=false:=Jw he (λj a k c e=>ec j a k c e.1 e.2) (λa c e=>pk a c e.1 e.2) ad
         have ai:=td (P:=P) aj 100 t x y b br gA Op.maxDepth (by decide) he ad a6
         refine⟨.bool b,?_,rfl⟩
         simp only[Sem.run_bind,ao,Result.andThen_ok,binOp_eql t aJ,Op.equal,ai,Sem.run_pure]
       · cases h
     · cases h
   · split at h
     · rename_i cR
       split at h
       · rename_i b he
         cases h
         obtain⟨bh,bf⟩:=JB he
         have ao:=Jz (w:=w) (op:=.neq) (.inr rfl) ad a6 bh bf cR
         have aJ:tj br=false:=Jw he (λj a k c e=>ec j a k c e.1 e.2) (λa c e=>pk a c e.1 e.2) ad
         have ai:=td (P:=P) aj 100 t x y b br gA Op.maxDepth (by decide) he ad a6
         refine⟨.bool (!b),?_,rfl⟩
         simp only[Sem.run_bind,ao,Result.andThen_ok,binOp_neq t aJ,Op.equal,ai,Sem.run_pure]
       · cases h
     · cases h
   · cases h
theorem Sd{t:TypeId}{d:TypeDesc}(hu:P.underlying t=some d)(ec:∀m,d≠ .interface m){x:J}{br:Value}(ad:bd μ x br):
  (Instr.makeInterface t br).run P w=.ok (.iface t br) w:=by
 simp only[Instr.makeInterface,Sem.run_bind,bO hu,Result.andThen_ok]
 cases d<;>first|rfl|exact absurd rfl (ec _)
theorem JC{xT as:TypeId}{ok:Bool}{d:TypeDesc}(hu:P.underlying as=some d)(ec:∀m,d≠ .interface m){x:J}{br:Value}(ad:bd μ x br):
  (∀z,x=.eO->ok=true->eG P as=some z->∃u,(Instr.typeAssert br xT as ok).run P w=.ok u w/\bd μ (.aD [z,.bool false]) u)/\
  (∀v,x=.iface as v->∃u,(Instr.typeAssert br xT as ok).run P w=.ok u w/\bd μ (if ok then .aD [v,.bool true] else v) u)/\
  (∀t v z,x=.iface t v->t≠as->ok=true->eG P as=some z->∃u,(Instr.typeAssert br xT as ok).run P w=.ok u w/\bd μ (.aD [z,.bool false]) u):=by
 refine⟨λz mu cR a0=>?_,λv mu=>?_,λt v z mu dK cR a0=>?_⟩
 · subst mu;cases ad;subst cR
   obtain⟨fK,xU,rfl,_⟩:=lW (P:=P) (w:=w) a0
   refine⟨.tuple #[fK,.bool false],?_,⟨_,rfl,_,_,rfl,ke μ fK,_,_,rfl,rfl,rfl⟩⟩
   simp only[Instr.typeAssert,Sem.run_bind,bO hu,Result.andThen_ok]
   cases d<;>first|exact absurd rfl (ec _)|simp[xU]
 · subst mu;obtain⟨y,rfl,a6⟩:=ad
   refine⟨if ok then .tuple #[y,.bool true] else y,?_,?_⟩
   · simp only[Instr.typeAssert,Sem.run_bind,bO hu,Result.andThen_ok]
     cases d<;>first|exact absurd rfl (ec _)|simp
   · cases ok
     · exact a6
     · exact⟨_,rfl,_,_,rfl,a6,_,_,rfl,rfl,rfl⟩
 · subst mu;obtain⟨y,rfl,a6⟩:=ad;subst cR
   obtain⟨fK,xU,rfl,_⟩:=lW (P:=P) (w:=w) a0
   refine⟨.tuple #[fK,.bool false],?_,⟨_,rfl,_,_,rfl,ke μ fK,_,_,rfl,rfl,rfl⟩⟩
   simp only[Instr.typeAssert,Sem.run_bind,bO hu,Result.andThen_ok]
   cases d<;>first|exact absurd rfl (ec _)|simp[xU,dK]
theorem Se{vs:List J}{x:Value}{i:Nat}{v:J}(ad:bd μ (.aD vs) x)(h:nth i vs=some v):∃u,(Instr.extract x i).run P w=.ok u w/\bd μ v u:=by
 obtain⟨l,rfl,aw⟩:=ad
 rw[qn] at h
 obtain⟨u,hu,ai⟩:=aw.get h
 refine⟨u,?_,ai⟩
 simp[Instr.extract,hu]
theorem JD{r el:Nat}{c:Array Value}{b0:Nat×Nat}(h:w.heap[r]? =some (.cells c el b0)):(viewAt r).run P w=.ok none w:=by
 simp[viewAt,World.shape?,h]
theorem Sf(aj:bm μ H w){src dst u:TypeId}{b off n:Nat}{cs:List J}{el aW af:Nat}{k:eZ}(hs:P.underlying src=some (.pointer u))(aq:P.underlying dst=some .unsafePointer)
  (a0:dm P u=some (n+1))(ao:H.get b=some (.cells cs el k aW af))(cx:off<cs.length){x:Value}(ad:bd μ (.ptr b off) x):(convert src dst x).run P w=.ok x w:=by
 obtain⟨i,af,rfl⟩:=ad
 obtain⟨c,fO,fP,aE,aC,bu,cX⟩:=aj.rel _ _ i ao af
 obtain⟨v,aH⟩:∃v,cs[off]? =some v:=⟨_,List.getElem?_eq_getElem cx⟩
 obtain⟨Sg,hu,_⟩:=aC off v aH
 have dL:i.base+off<c.size:=by
  rcases Nat.lt_or_ge (i.base+off) c.size with h|h
  · exact h
  · rw[Array.getElem?_eq_none h] at hu;cases hu
 have xJ:(Conv.seenAt ⟨i.bg,i.base+off,none⟩).run P w=.ok ⟨i.bg,i.base+off,none⟩ w:=by
  simp[Conv.seenAt,JD aE]
 have JE:(cellsIn i.bg).run P w=.ok (some c.size) w:=by simp[cellsIn,World.shape?,aE]
 have s9:¬(c.size<=i.base+off):=by omega
 simp[convert,bO hs,bO aq,Conv.unsafePointer,xJ,JE,run_sizeOf a0,s9]
theorem Sh(aj:bm μ H w){src dst u:TypeId}{b off n:Nat}{cs:List J}{el aW af:Nat}(hs:P.underlying src=some .unsafePointer)(aq:P.underlying dst=some (.pointer u))
  (a0:dm P u=some (n+1))(ao:H.get b=some (.cells cs el .own aW af))(aw:liesAt P P.depth el (cs.length/P.cellsOf el) off u 1=true){x:Value}(ad:bd μ (.ptr b off) x):(convert src dst x).run P w=.ok x w:=by
 obtain⟨i,af,rfl⟩:=ad
 obtain⟨c,fO,fP,aE,aC,bu,cX,gJ,_⟩:=aj.rel _ _ i ao af
 have ah:c.size=cs.length:=by omega
 have xJ:(Conv.seenAt ⟨i.bg,i.base+off,none⟩).run P w=.ok ⟨i.bg,i.base+off,none⟩ w:=by
  simp[Conv.seenAt,JD aE]
 have Ec:(variablesAt ⟨i.bg,i.base+off,none⟩ u 1).run P w=.ok true w:=by
  simp[variablesAt,World.shape?,aE,cX,ah,aw]
 simp[convert,bO hs,bO aq,Conv.unsafePointer,xJ,run_sizeOf a0,Ec]
end
end ay
namespace ay
open Go
section
variable {P:Program} {μ:bl} {H:aa} {w:World}
theorem JF(aj:bm μ H w){b:Nat}{i:eX}(af:μ b=some i){cs:List J}{el aW eQ:Nat}{k:eZ}(ao:H.get b=some (.cells cs el k aW eQ)):
  ∀(n off:Nat) (r:List J) (bs:List UInt8) (acc:ByteArray),takeN n (iO off cs)=some r->nc r=some bs->
   (loadBytes ⟨i.bg,i.base+off,none⟩ acc n).run P w=.ok ⟨acc.data++bs.toArray⟩ w
 |0,off,r,bs,acc,h,ag=>by
  simp only[takeN] at h;cases h
  simp only[nc] at ag;cases ag
  simp[loadBytes]
 |n+1,off,r,bs,acc,h,ag=>by
  rw[ni] at h
  cases aq:cs.drop off with
  |nil=>rw[aq] at h;simp[takeN] at h
  |cons a l=>
   rw[aq] at h
   simp only[takeN] at h
   cases a2:takeN n l with
   |none=>rw[a2] at h;cases h
   |some r'=>
    rw[a2] at h;cases h
    unfold nc at ag
    split at ag
    · rename_i heq;cases heq
    · rename_i m nt heq
      cases heq
      split at ag
      · rename_i Si hm iF
        cases ag
        have Sj:cs[off]? =some (.int .u8 (Int.ofNat m)):=by
         have:=congrArg List.head? aq
         simpa[List.head?_drop] using this
        have aw:l=cs.drop (off+1):=by
         have:=congrArg List.tail aq
         simpa[List.tail_drop] using this.symm
        obtain⟨u,ab,ae⟩:=DN (P:=P) (off:=off) aj af (show aA H b off=some (.int .u8 (Int.ofNat m)) by simp[aA,ao,qn,Sj])
        cases ae
        have bp:=JF aj af ao n (off+1) r' Si (acc.push (UInt8.ofNat m)) (by rw[ni,<-aw];exact a2) iF
        have e:(⟨i.bg,i.base+off,none⟩:Addr).add 1=⟨i.bg,i.base+(off+1),none⟩:=by simp[Addr.add,Nat.add_assoc]
        simp only[loadBytes,Sem.run_bind,ab,Result.andThen_ok,e]
        refine Eq.trans ?_ (bp.trans ?_)
        · rfl
        · congr 1
          simp[ByteArray.ext_iff,ByteArray.push]
      · cases ag
    · cases ag
theorem Ed{α:Type}(p:Option Addr)(l:Value)(f:Option Addr->Value->α)(g:Array Value->α):Builtin.unsafeString_.match_3 (λ_=>α) #[.pointer p,l] f g=f p l:=rfl
theorem Sk(argTypes:Array TypeId)(ty pT:TypeId)(h0:argTypes[0]? =some pT)(k:IntKind)(m:Nat)(a:Addr)(u:TypeId)(hu:P.underlying pT=some (.pointer u))(qq:m≠0)(hm:m<=281474976710656)
  {s:ByteArray}(aH:(variablesAt a u m).run P w=.ok true w)(aw:(loadBytes a .empty m).run P w=.ok s w):
  (Builtin.unsafeString_ argTypes ty #[.pointer (some a),.int k (m:Int)]).run P w=.ok (.string s) (w.freeze a m):=by
 have xZ:¬((9223372036854775807:Int)<(m:Int)):=by omega
 have iG:IntKind.i64.max=9223372036854775807:=rfl
 have he:(elemOf pT).run P w=.ok u w:=by simp[elemOf,bO hu]
 have x0:¬((m:Int)<0):=by omega
 delta Builtin.unsafeString_
 rw[Ed]
 simp[asInt,asIntOf,h0,iG,xZ,qq,he,aH,aw,x0]
theorem JG(argTypes:Array TypeId)(ty pT:TypeId)(h0:argTypes[0]? =some pT)(k:IntKind)(p:Option Addr):(Builtin.unsafeString_ argTypes ty #[.pointer p,.int k 0]).run P w=.ok (.string .empty) w:=by
 have iG:IntKind.i64.max=9223372036854775807:=rfl
 cases p with
 |none=>
  delta Builtin.unsafeString_
  rw[Ed]
  simp[asInt,asIntOf,h0,iG]
 |some a=>
  delta Builtin.unsafeString_
  rw[Ed]
  simp[asInt,asIntOf,h0,iG]
theorem A4:P.depth=(2*(P.types.size+Made.depth)+1)+1:=rfl
theorem Sl{e u count off n:Nat}(ab:P.underlyingId e=P.underlyingId u)(hs:P.cellsOf e=1)(ag:off+n<=count):liesAt P P.depth e count off u n=true:=by
 have aw:sameLayout P P.depth e u=true:=by rw[A4];simp[sameLayout,ab]
 have ai:rowAt P (sameLayout P P.depth · u) P.depth e count off n=true:=by
  rw[A4]
  unfold rowAt
  simp only[hs,Nat.div_one,Nat.mod_one]
  rw[A4] at aw
  simp[ag,aw]
 have:∀d,rowAt P (sameLayout P P.depth · u) P.depth e count off n=true->liesAt P (d+1) e count off u n=true:=λd h=>by
  unfold liesAt;rw[h];rfl
 conv=>lhs;arg 2;rw[A4]
 exact this _ ai
theorem Sm(aj:bm μ H w){argTypes:Array TypeId}{ty pT:TypeId}(h0:argTypes[0]? =some pT){p n v:J}{Ee Ef:Value}(aY:bd μ p Ee)(aJ:bd μ n Ef){aZ:aa}(h:qd P H pT p n=some (v,aZ)):
  fs P μ H w (Builtin.unsafeString_ argTypes ty #[Ee,Ef]) v aZ:=by
 unfold qd at h
 have JH:∀m,fF n=some m->∃k,Ef=.int k (m:Int):=by
  intro m hm
  unfold fF at hm
  split at hm
  · cases hm;cases aJ;exact⟨_,rfl⟩
  · cases hm
 split at h
 · rename_i a0
   cases h;cases aY
   obtain⟨k,rfl⟩:=JH 0 a0
   exact .same aj (v':=.string .empty) (JG argTypes ty pT h0 k none) ⟨.empty,rfl,rfl⟩
 · rename_i b off m hm
   obtain⟨k,rfl⟩:=JH m hm
   obtain⟨i,af,rfl⟩:=aY
   split at h
   · rename_i a0
     cases h;subst a0
     exact .same aj (v':=.string .empty) (JG argTypes ty pT h0 k _) ⟨.empty,rfl,rfl⟩
   · rename_i qq
     split at h
     · rename_i u cs el cd aW eQ hu ao
       split at h
       · rename_i ah
         simp only[Bool.and_eq_true,decide_eq_true_eq,Nat.ble_eq] at ah
         obtain⟨⟨⟨c1,c2⟩,c3⟩,c4⟩:=ah
         split at h
         · rename_i r ai
           split at h
           · rename_i bs ag
             cases h
             obtain⟨c,fO,fP,aE,aC,bu,cX⟩:=aj.rel _ _ i ao af
             have Sn:=JF (P:=P) aj af ao m off r bs .empty ai ag
             have hlen:off+m<=cs.length:=by
              rw[ni] at ai
              have:=(s7 m _ _ ai).1
              rw[List.length_drop] at this
              omega
             have AN:0<m:=Nat.pos_of_ne_zero qq
             have dL:i.base+off+m<=c.size:=by
              obtain⟨x,ad⟩:∃x,cs[off+m-1]? =some x:=⟨_,List.getElem?_eq_getElem (by omega)⟩
              obtain⟨Sg,n8,_⟩:=aC _ x ad
              rcases Nat.lt_or_ge (i.base+(off+m-1)) c.size with h|h
              · omega
              · rw[Array.getElem?_eq_none h] at n8;cases n8
             have JI:P.cellsOf el=1:=by
              unfold dm at c2
              unfold Program.cellsOf
              cases eQ:P.info? el with
              |none=>rw[eQ] at c2;cases c2
              |some ii=>rw[eQ] at c2;simpa using c2
             have Ec:(variablesAt ⟨i.bg,i.base+off,none⟩ u m).run P w=.ok true w:=by
              have aw:=Sl (P:=P) (e:=el) (u:=u) (count:=c.size/P.cellsOf el) (off:=i.base+off) (n:=m) c1 JI (by rw[JI];simpa using dL)
              simp[variablesAt,World.shape?,aE,aw]
             have eL:=Sk (P:=P) (w:=w) argTypes ty pT h0 k m _ u hu qq c3 Ec Sn
             have So:∃b0:Nat×Nat,w.freeze ⟨i.bg,i.base+off,none⟩ m={w with heap:=w.heap.modify i.bg λ
               |.cells c elem (aW,af)=>.cells c elem (if aW==af then(i.base+off,i.base+off+m) else(min aW (i.base+off),max af (i.base+off+m)))
               |o=>o}/\(w.freeze ⟨i.bg,i.base+off,none⟩ m).heap[i.bg]? =some (.cells c el b0):=by
              have:w.freeze ⟨i.bg,i.base+off,none⟩ m={w with heap:=w.heap.modify i.bg λ
               |.cells c elem (aW,af)=>.cells c elem (if aW==af then(i.base+off,i.base+off+m) else(min aW (i.base+off),max af (i.base+off+m)))
               |o=>o}:=by simp[World.freeze,qq];rfl
              refine⟨if fO==fP then(i.base+off,i.base+off+m) else(min fO (i.base+off),max fP (i.base+off+m)),this,?_⟩
              rw[this]
              simp[Array.getElem?_modify,aE]
             obtain⟨⟨f1,f2⟩,aR,aT⟩:=So
             have hA:(b3.cells cs el cd aW eQ).nh=false:=by cases cd<;>first|rfl|exact absurd rfl c4
             obtain⟨ba,bt⟩:=aj.update (w':=w.freeze ⟨i.bg,i.base+off,none⟩ m) (o':=.cells cs el .fz aW eQ) ao hA af (by rw[aR];simp) (λr ai=>by rw[aR];simp[Array.getElem?_modify];intro e;exact absurd e.symm ai) (by rw[aR]) (by rw[aR]) (by rw[aR])
              ⟨c,f1,f2,aT,aC,bu,trivial⟩ (hdr:=by rw[aR];exact Nat.le_refl _)
             exact⟨μ,_,.string _,eL,⟨_,rfl,by simp⟩,ba,bt⟩
           · cases h
         · cases h
       · cases h
     · cases h
 · cases h
theorem Sp{argTypes:Array TypeId}{ty:TypeId}{x:J}{br:Value}(ad:bd μ x br):
  (x=.az->(Builtin.unsafeSliceData_ argTypes ty #[br]).run P w=.ok (.pointer none) w)/\
  (∀b off n c,x=.slice b off n (.exact c)->c≠0->∃u,(Builtin.unsafeSliceData_ argTypes ty #[br]).run P w=.ok u w/\bd μ (.ptr b off) u)/\
  (∀b off n e,x=.slice b off n (.aM e)->n≠0->∃u,(Builtin.unsafeSliceData_ argTypes ty #[br]).run P w=.ok u w/\bd μ (.ptr b off) u):=by
 have key:∀(a:Addr) (n c:Nat),c≠0->(Builtin.unsafeSliceData_ argTypes ty #[.slice (some a) n c]).run P w=.ok (.pointer (some a)) w:=λa n c ah=>by
  obtain⟨k,rfl⟩:∃k,c=k+1:=⟨c-1,by omega⟩
  rfl
 refine⟨λh=>?_,λb off n c h ah=>?_,λb off n e h aJ=>?_⟩
 · subst h;cases ad;rfl
 · subst h;obtain⟨i,af,pb⟩:=ad;cases pb
   exact⟨_,key _ n c ah,i,af,rfl⟩
 · subst h;obtain⟨i,af,c,rfl,hle,_⟩:=ad
   exact⟨_,key _ n c (by omega),i,af,rfl⟩
theorem JJ{l1:Value}{first caps:List J}{g:Nat}{args:List J}{vs:List Value}(hf:bd μ (.fn g first caps) l1)(a5:b9 μ args vs):
  ∃ct cs:List Value,(do let d<-Deferred.ofValue l1 ⟨vs⟩;invoke d.target d.args:Sem Next).run P w=(callFunc g ⟨ct++vs++cs⟩).run P w/\b9 μ (first++args++caps) (ct++vs++cs)/\
   (Deferred.ofValue l1 ⟨vs⟩).run P w=.ok {target:=.fn (.func g) ⟨cs⟩,args:=⟨ct++vs⟩} w:=by
 obtain⟨ct,cs,rfl,ab,ae⟩:=hf
 refine⟨ct,cs,?_,(ab.append a5).append ae,?_⟩
 · simp[Deferred.ofValue,invoke]
 · simp[Deferred.ofValue]
theorem Sq{l:Nat}{l1:Value}{vs:List Value}(hf:bd μ (.bR l) l1):
  ∃i,μ l=some i/\(do let d<-Deferred.ofValue l1 ⟨vs⟩;invoke d.target d.args:Sem Next).run P w=(Instr.yield i.bg ⟨vs⟩).run P w:=by
 obtain⟨i,af,rfl⟩:=hf
 exact⟨i,af,by simp[Deferred.ofValue,invoke]⟩
theorem Sr{t:TypeId}{name:String}{f:Nat}(h:AA P t name=some f)(v:Value)(n:Nat):(method (n+1) t v name).run P w=.ok (f,v) w:=by
 unfold AA at h
 split at h
 · rename_i i af
   split at h
   · rename_i m hm
     have hf:∀q,m.path.isEmpty=q->m.path.isEmpty=q:=λ_ h=>h
     split at h
     all_goals first
      |(cases h;done)
      |(rename_i aY nu hu
        cases h
        have Ss:m.path.toList=[]:=by simpa using aY
        simp[method,run_typeInfo af,hm,Ss,follow,nu,receiverAt,bO hu,Place.get]
        done)
   · cases h
 · cases h
end
end ay
namespace ay
open Go
def jE(P:Program)(μ:bl)(H:aa)(w:World)(s:Sem Next):fj->Prop
 |.val v aZ=>∃aP w' u,(s.run P w=.ok (.value u) w'\/(u=undef/\s.run P w=.ok .skip w'))/\bd aP v u/\bm aP aZ w'/\b4 μ H w aP aZ w'
 |.bk v aZ=>aZ=H/\∃u,s.run P w=.halt (.panic u) w/\bd μ v u
 |.call f args aZ=>aZ=H/\∃vs:List Value,s.run P w=(callFunc f ⟨vs⟩).run P w/\b9 μ args vs
 |.bR l args aZ=>aZ=H/\∃i,∃vs:List Value,μ l=some i/\s.run P w=(Instr.yield i.bg ⟨vs⟩).run P w/\b9 μ args vs
 |.ju d=>∃pn,s.run P w=.ok (.defer pn) w/\s5 μ d pn
 |.sW=>s.run P w=.ok .recover w
 |.fail _=>True
section
variable {P:Program} {μ:bl} {H:aa} {w:World}
theorem jE.jF{s:Sem Value}{v:J}{aZ:aa}(h:fs P μ H w s v aZ):jE P μ H w (do pure (.value (<-s))) (.val v aZ):=by
 obtain⟨aP,w',u,ab,ae,av,aK⟩:=h
 exact⟨aP,w',u,.inl (by simp[ab]),ae,av,aK⟩
theorem jE.of_same(aj:bm μ H w){s:Sem Value}{v:J}(h:∃u,s.run P w=.ok u w/\bd μ v u):jE P μ H w (do pure (.value (<-s))) (.val v H):=by
 obtain⟨u,ab,ae⟩:=h
 exact⟨μ,w,u,.inl (by simp[ab]),ae,aj,b4.refl _ _ _⟩
theorem jE.A5(aj:bm μ H w){u:Value}{v:J}(h:bd μ v u){s:Sem Next}(hs:s.run P w=.ok (.value u) w):jE P μ H w s (.val v H):=
 ⟨μ,w,u,.inl hs,h,aj,b4.refl _ _ _⟩
theorem jE.St{s:Sem Unit}{aZ:aa}(h:∃w',s.run P w=.ok () w'/\bm μ aZ w'/\b4 μ H w μ aZ w'):jE P μ H w (do s;pure .skip) (.val (.aD []) aZ):=by
 obtain⟨w',ab,av,aK⟩:=h
 exact⟨μ,w',undef,.inr ⟨rfl,by simp[ab]⟩,⟨[],rfl,rfl⟩,av,aK⟩
theorem x1(aj:bm μ H w){s:Sem Value}{o:Option J}{jg:String}(h:∀v,o=some v->∃u,s.run P w=.ok u w/\bd μ v u):jE P μ H w (do pure (.value (<-s))) (fX H jg o):=by
 cases o with
 |none=>trivial
 |some v=>exact .of_same aj (h v rfl)
theorem rS{s:Sem Value}{o:Option J}{jg:String}(h:∀v,o=some v->fs P μ H w s v H):jE P μ H w (do pure (.value (<-s))) (fX H jg o):=by
 cases o with
 |none=>trivial
 |some v=>exact .jF (h v rfl)
theorem tl{s:Sem Value}{o:Option (J×aa)}{jg:String}(h:∀v aZ,o=some (v,aZ)->fs P μ H w s v aZ):jE P μ H w (do pure (.value (<-s))) (lj jg o):=by
 cases o with
 |none=>trivial
 |some p=>exact .jF (h p.1 p.2 rfl)
theorem A6{s:Sem Unit}{o:Option aa}{jg:String}(h:∀aZ,o=some aZ->∃w',s.run P w=.ok () w'/\bm μ aZ w'/\b4 μ H w μ aZ w'):jE P μ H w (do s;pure .skip) (qf jg o):=by
 cases o with
 |none=>trivial
 |some aZ=>exact .St (h aZ rfl)
theorem rT{a:J}{n:Nat}{v:Value}(h:fF a=some n)(aH:bd μ a v):∃k,v=.int k (n:Int):=by
 unfold fF at h
 split at h
 · cases h;cases aH;exact⟨_,rfl⟩
 · cases h
theorem JK(aj:bm μ H w){f:J}{l1:Value}{args:List J}{vs:List Value}(hf:bd μ f l1)(a5:b9 μ args vs):
  jE P μ H w (do let d<-Deferred.ofValue l1 ⟨vs⟩;invoke d.target d.args) (sY f args H):=by
 unfold sY
 split
 · obtain⟨ct,cs,ab,ae,_⟩:=JJ (P:=P) (w:=w) hf a5
   exact⟨rfl,_,ab,ae⟩
 · obtain⟨i,ab,ae⟩:=Sq (P:=P) (w:=w) (vs:=vs) hf
   exact⟨rfl,i,vs,ab,ae,a5⟩
 · trivial
theorem Su(aj:bm μ H w){b:Builtin}{ats:Array TypeId}{ty:TypeId}{consts:Array Bool}{vs:List J}{us:List Value}(aH:b9 μ vs us):
  jE P μ H w (builtin b ats ty consts ⟨us⟩) (iD P b ats vs H):=by
 unfold iD
 split
 · rfl
 · cases vs with
   |nil=>trivial
   |cons x l=>
    obtain⟨br,dz,rfl,ab,ae⟩:=aH
    refine x1 aj λv h=>?_
    obtain⟨u,aR,aT⟩:=D1 (P:=P) (w:=w) jy Builtin.min2 (λ_ _ _ _ _ h ad a6=>RC h ad a6) l x br dz v ab ae h
    exact⟨u,by simpa[Builtin.min_] using aR,aT⟩
 · cases vs with
   |nil=>trivial
   |cons x l=>
    obtain⟨br,dz,rfl,ab,ae⟩:=aH
    refine x1 aj λv h=>?_
    obtain⟨u,aR,aT⟩:=D1 (P:=P) (w:=w) xl Builtin.max2 (λ_ _ _ _ _ h ad a6=>RD h ad a6) l x br dz v ab ae h
    exact⟨u,by simpa[Builtin.max_] using aR,aT⟩
 · split
   · rename_i t x h0
     obtain⟨br,dz,rfl,ab,ae⟩:=aH
     cases ae
     split
     · exact rS λv h=>RA aj h0 ab h
     · exact rS λv h=>RB aj h0 ab h
     · exact tl λv aZ h=>Ry aj h0 ab h
     · obtain⟨s1,s2,bV⟩:=Sp (P:=P) (w:=w) (argTypes:=ats) (ty:=ty) ab
       split
       · exact .of_same aj ⟨_,s1 rfl,rfl⟩
       · split
         · trivial
         · rename_i ah;exact .of_same aj (s2 _ _ _ _ rfl ah)
       · split
         · trivial
         · rename_i ah;exact .of_same aj (bV _ _ _ _ rfl ah)
       · trivial
     · trivial
   · rename_i t x y h0
     obtain⟨br,dz,rfl,ab,gA,tb,rfl,ae,av⟩:=aH
     cases av
     split
     · exact tl λv aZ h=>Rr aj h0 ab ae h
     · exact tl λv aZ h=>Rx aj h0 ab ae h
     · exact tl λv aZ h=>RT aj h0 ab ae h
     · exact tl λv aZ h=>Sm aj h0 ab ae h
     · trivial
   · trivial
theorem Sv(aj:bm μ H w){src dst:TypeId}{x:J}{br:Value}(ad:bd μ x br):
  jE P μ H w (do pure (.value (<-convert src dst br))) (ea P src dst x H):=by
 unfold ea
 split
 · rename_i te k bz n hs aq
   cases ad
   exact .of_same aj ⟨.int k (k.wrap n),by simp[convert,bO hs,bO aq,Conv.intToInt],rfl⟩
 · rename_i te bz n hs aq
   cases ad
   exact .of_same aj ⟨.string (Utf8.encode n),by simp[convert,bO hs,bO aq,Conv.intToString],_,rfl,rfl⟩
 · rename_i s hs aq
   obtain⟨t,rfl,rfl⟩:=ad
   exact .of_same aj ⟨.string t,by simp[convert,bO hs,bO aq],_,rfl,rfl⟩
 · rename_i e s hs aq
   obtain⟨t,rfl,rfl⟩:=ad
   split
   · rename_i he
     refine .jF ?_
     have cr:=RF (P:=P) aj (e:=e) (bs:=t)
     obtain⟨aP,w',u,ab,ae,av,aK⟩:=cr
     exact⟨aP,w',u,by simp[convert,bO hs,bO aq,bO he,ab],ae,av,aK⟩
   · trivial
 · rename_i e hs aq
   have key:P.underlying e=some (.int .u8)->∀a n c,(convert src dst (.slice a n c)).run P w=(Conv.bytesToString (.slice a n c)).run P w:=by
    intro he a n c
    simp[convert,bO hs,bO aq,bO he]
   split
   · rename_i he
     cases ad
     refine .of_same aj ⟨.string .empty,?_,.empty,rfl,rfl⟩
     rw[key he];rfl
   · rename_i b off n he
     split
     · rename_i aJ
       subst aJ
       obtain⟨i,_,_,a,c,rfl⟩:=ad
       refine .of_same aj ⟨.string .empty,?_,.empty,rfl,rfl⟩
       rw[key he];rfl
     · trivial
   · rename_i b off n c D0 he
     split
     · rename_i cs aw
       split
       · rename_i bs ag
         obtain⟨aP,w',u,ab,ae,av,aK⟩:=RE (P:=P) aj (by intro e;subst e;exact D0 rfl) ad aw ag
         refine .jF ⟨aP,w',u,?_,ae,av,aK⟩
         have od:∃a m k,br=.slice a m k:=by
          obtain⟨i,_,ah⟩:=ad
          cases c with
          |exact c=>cases ah;exact⟨_,_,_,rfl⟩
          |aM gG=>obtain⟨c,rfl,_⟩:=ah;exact⟨_,_,_,rfl⟩
          |dead=>obtain⟨_,a,c,rfl⟩:=ah;exact⟨_,_,_,rfl⟩
         obtain⟨a,m,k,rfl⟩:=od
         rw[key he];exact ab
       · trivial
     · trivial
   · trivial
 · rename_i u b off hs aq
   split
   · rename_i cs el k aW af n ao a0
     split
     · rename_i cx
       exact .of_same aj ⟨br,Sf aj hs aq a0 ao (by simpa using cx) ad,ad⟩
     · trivial
   · trivial
 · rename_i u b off hs aq
   split
   · rename_i cs el aW af n ao a0
     split
     · rename_i ah
       exact .of_same aj ⟨br,Sh aj hs aq a0 ao ah ad,ad⟩
     · trivial
   · trivial
 · trivial
end
end ay
namespace ay
open Go
section
variable {P:Program} {μ:bl} {H:aa} {w:World}
theorem JL(aj:bm μ H w){c a b:Operand}{g:Operand->J}{cn:Operand->Value}(ao:∀x,bd μ (g x) (cn x)){dT:Bool}(ah:g c=.bool dT):
  jE P μ H w (do pure (.value (if<-asBool (cn c) then cn a else cn b))) (.val (if dT then g a else g b) H):=by
 have ab:=ao c
 rw[ah] at ab
 refine .A5 aj (u:=if dT then cn a else cn b) ?_ ?_
 · cases dT
   · exact ao b
   · exact ao a
 · have:cn c=.bool dT:=ab
   simp[this,asBool]
theorem A7{g:Operand->J}{cn:Operand->Value}(ao:∀x,bd μ (g x) (cn x))(args:Array Operand):b9 μ (args.toList.map g) (args.map cn).toList:=by
 rw[Array.toList_map];exact b9.map g cn ao _
theorem Sw(aj:bm μ H w){g:Operand->J}{cn:Operand->Value}(ao:∀x,bd μ (g x) (cn x))(o:Oper)(x:Operand)(a8:o.op=.nilCheck x):jE P μ H w (execOp cn o) (match g x with
  |.ptr b o=>.val (.ptr b o) H
  |.slice b o n c=>.val (.slice b o n c) H
  |.fn f a b=>.val (.fn f a b) H
  |.iface t v=>.val (.iface t v) H
  |_=>.fail "nilCheck"):=by
 have ab:=ao x
 have e:∀(v:J),g x=v->((∃b o,v=.ptr b o)\/(∃b o n c,v=.slice b o n c)\/(∃f a b,v=.fn f a b)\/∃t y,v=.iface t y)->jE P μ H w (execOp cn o) (.val v H):=by
  intro v aH hs
  have ae:=ab
  rw[aH] at ae
  exact .A5 aj ae (QP ae hs o x cn rfl a8)
 split
 · rename_i b o ad;exact e _ ad (.inl ⟨_,_,rfl⟩)
 · rename_i b o n c ad;exact e _ ad (.inr (.inl ⟨_,_,_,_,rfl⟩))
 · rename_i f a b ad;exact e _ ad (.inr (.inr (.inl ⟨_,_,_,rfl⟩)))
 · rename_i t v ad;exact e _ ad (.inr (.inr (.inr ⟨_,_,rfl⟩)))
 · trivial
theorem Sx(aj:bm μ H w){g:Operand->J}{cn:Operand->Value}(ao:∀x,bd μ (g x) (cn x))(c:Call)(type:TypeId):jE P μ H w (do let d<-resolve cn c type;invoke d.target d.args) (match c.callee with
  |.value f=>sY (g f) (c.args.toList.map g) H
  |.invoke r name=>match g r with
   |.iface t v=>match AA P t name with
    |some f=>.call f (v::c.args.toList.map g) H
    |none=>.fail ("invoke " ++name)
   |_=>.fail ("invoke " ++name)
  |.builtin b=>iD P b c.argTypes (c.args.toList.map g) H):=by
 have a5:=A7 (μ:=μ) ao c.args
 cases ah:c.callee with
 |value f=>
  simp only[resolve,ah]
  exact JK aj (ao f) a5
 |invoke r name=>
  simp only[]
  split
  · rename_i t v ai
    split
    · rename_i f hm
      have ab:=ao r
      rw[ai] at ab
      obtain⟨y,a6,aH⟩:=ab
      refine⟨rfl,y::(c.args.map cn).toList,?_,⟨_,_,rfl,aH,a5⟩⟩
      have acQ:0<Made.depth:=by decide
      obtain⟨n,aJ⟩:∃n,P.types.size+Made.depth=n+1:=⟨P.types.size+Made.depth-1,by omega⟩
      have Sy:=Sr (P:=P) (w:=w) hm y n
      have h0:(#[cn r]++c.args.map cn)[0]? =some (cn r):=by rw[Array.getElem?_append_left (by simp)];rfl
      have ae:(#[cn r]++c.args.map cn).extract 1 (#[cn r]++c.args.map cn).size=c.args.map cn:=by
       apply Array.ext'
       simp only[Array.toList_extract,Array.toList_append,Array.toList_map,List.cons_append,List.nil_append,List.extract_eq_take_drop]
       rw[List.take_of_length_le]
       · rfl
       · simp
      have av:(#[y]++c.args.map cn:Array Value)=⟨y::(c.args.map cn).toList⟩:=by apply Array.ext';simp
      rw[a6] at h0 ae
      simp only[resolve,ah,Sem.run_bind,Sem.run_pure,Result.andThen_ok,invoke,a6,h0,ae,callMethod,run_program,aJ,Sy,av]
    · trivial
  · trivial
 |builtin b=>
  have ag:=Su (P:=P) (b:=b) (ats:=c.argTypes) (ty:=type) (consts:=c.args.map λ|.const _=>true|_=>false) aj a5
  have he:(do let d<-resolve cn c type;invoke d.target d.args:Sem Next)=builtin b c.argTypes type (c.args.map λ|.const _=>true|_=>false) (c.args.map cn):=by
   simp only[resolve,ah];rfl
  rw[he];exact ag
set_option maxHeartbeats 4000000 in
theorem Sz(aj:bm μ H w)(o:Oper){g:Operand->J}{cn:Operand->Value}(ao:∀x,bd μ (g x) (cn x)):jE P μ H w (execOp cn o) (cD P o g H):=by
 obtain⟨dst,op,type,pos,after,guard⟩:=o
 cases op<;>simp only[cD,execOp]
 case move x=>exact .A5 aj (ao x) rfl
 case assign x=>exact .A5 aj (ao x) rfl
 case pick c a b=>
  split
  · rename_i ah;exact JL aj ao ah
  · rename_i ah;exact JL aj ao ah
  · trivial
 case alloc e=>
  split
  · rename_i z a0
    split
    · rename_i b an ai;exact .jF (QD aj a0 ai)
    · trivial
  · trivial
 case box e x=>
  split
  · rename_i b an ai;exact .jF (QE aj (ao x) ai)
  · trivial
 case build t parts=>
  split
  · rename_i z a0
    split
    · rename_i ct hu
      split
      · rename_i cs fI hf;exact .jF (QK aj g cn ao a0 hu fI parts hf)
      · trivial
    · rename_i n e hu
      split
      · rename_i sz hs
        split
        · rename_i cs hf;exact .jF (QM aj g cn ao a0 hu hs parts hf)
        · trivial
      · trivial
    · trivial
  · trivial
 case buildSlice t len parts=>
  split
  · rename_i e hu
    split
    · rename_i sz z hs a0
      split
      · rename_i cs ah hf
        rw[Bool.and_eq_true,Nat.ble_eq,Nat.beq_eq] at ah
        split
        · rename_i b an ai;exact .jF (QN aj g cn ao hu hs a0 ah.1 ah.2 parts hf ai)
        · trivial
      · trivial
    · trivial
  · trivial
 case insert t m k v=>exact A6 λaZ h=>Jo aj (ao m) (ao k) (ao v) h
 case load t a=>
  split
  · rename_i b off a5
    have ab:=ao a
    rw[a5] at ab
    obtain⟨bD,bT⟩:=QF (P:=P) aj (t:=t) ab
    split
    · rename_i n Eg aJ
      split
      · rename_i cs aw;exact .jF (bD n cs Eg aJ aw)
      · trivial
    · rename_i Eg
      exact rS λv h=>bT v Eg h
    · trivial
  · trivial
 case store t a v=>
  split
  · rename_i b off a5
    have ab:=ao a
    rw[a5] at ab
    split
    · trivial
    · rename_i n aJ SA
      split
      · rename_i aw
        exact A6 λaZ h=>QG aj ab (ao v) SA aJ (by simpa using aw) h
      · trivial
    · trivial
  · trivial
 case ready=>trivial
 case waits=>trivial
 case nilCheck x=>exact Sw aj ao ⟨dst,.nilCheck x,type,pos,after,guard⟩ x rfl
 case binOp op t x y yt=>exact x1 aj λv h=>Sc aj (yt:=yt) (ao x) (ao y) h
 case unOp op t x=>
  have ab:=ao x
  split
  · rename_i b ad;rw[ad] at ab;exact .of_same aj (R9 ab)
  · rename_i k n ad;rw[ad] at ab;exact .of_same aj (R_ ab)
  · rename_i k n ad;rw[ad] at ab;exact x1 aj λv h=>Sa ab h
  · trivial
 case convert src acR x=>exact Sv aj (ao x)
 case sliceToArrayPointer=>trivial
 case makeInterface t x=>
  split
  · trivial
  · rename_i d ec hu
    refine .of_same aj ⟨.iface t (cn x),Sd hu (λm e=>ec m (e▸rfl)) (ao x),_,rfl,ao x⟩
  · trivial
 case makeFunc fn first caps=>
  split
  · rename_i f
    exact .of_same aj ⟨.func (.func f) (first.map cn) (caps.map cn),rfl,_,_,rfl,A7 ao first,A7 ao caps⟩
  · trivial
 case makeMap t r=>
  cases r with
  |none=>exact .jF (RU aj)
  |some x=>
   simp only[]
   split
   · rename_i c7 iB k n hu ad
     have ab:=ao x
     rw[ad] at ab
     have ae:cn x=.int k n:=ab
     rw[Option.map_some,ae]
     exact .jF (RV aj hu)
   · trivial
 case makeChan=>trivial
 case makeSlice t l c=>
  split
  · rename_i e nt c' hu aw ah
    obtain⟨kl,el⟩:=rT aw (ao l)
    obtain⟨kc,x2⟩:=rT ah (ao c)
    split
    · rename_i i z af a0
      split
      · rename_i kF
        rw[Bool.and_eq_true,Bool.and_eq_true,Nat.ble_eq,Nat.beq_eq,decide_eq_true_eq] at kF
        split
        · rename_i b an ai
          rw[el,x2]
          exact .jF (QO aj hu af a0 kF.1.1 kF.1.2 kF.2 ai)
        · trivial
      · trivial
    · trivial
  · trivial
 case slice t x aW af mx=>
  exact rS λv h=>Q0 aj (ao x) (nm.map g cn ao aW) (nm.map g cn ao af) (nm.map g cn ao mx) h
 case fieldAddr s x f=>
  split
  · rename_i ct b off hu ad
    have ab:=ao x
    rw[ad] at ab
    split
    · rename_i fd hf
      split
      · trivial
      · rename_i n xM aJ
        exact .jF (Q3 aj hu hf aJ (λe=>xM e) ab)
      · trivial
    · trivial
  · trivial
 case field t x f=>
  split
  · rename_i ct cs hu ad
    have ab:=ao x
    rw[ad] at ab
    split
    · rename_i fd hf
      exact rS λv h=>Q2 aj hu hf ab h
    · trivial
  · trivial
 case indexAddr t x i=>
  split
  · rename_i n e b off k hu ad af
    have ab:=ao x
    rw[ad] at ab
    obtain⟨cd,tm⟩:=rT af (ao i)
    split
    · rename_i sz hs
      split
      · rename_i au;rw[tm];exact .jF (Q5 aj hu hs ab au)
      · trivial
    · trivial
  · rename_i e b off n c k hu ad af
    have ab:=ao x
    rw[ad] at ab
    obtain⟨cd,tm⟩:=rT af (ao i)
    split
    · rename_i sz hs
      split
      · rename_i au;rw[tm];exact .jF (Q4 aj hu hs ab au)
      · trivial
    · trivial
  · trivial
 case index t x i=>
  split
  · rename_i n e cs k hu ad af
    have ab:=ao x
    rw[ad] at ab
    obtain⟨cd,tm⟩:=rT af (ao i)
    split
    · rename_i sz hs
      split
      · rename_i au;rw[tm];exact rS λv h=>Q6 aj hu hs ab au h
      · trivial
    · trivial
  · rename_i s k hu ad af
    have ab:=ao x
    rw[ad] at ab
    obtain⟨cd,tm⟩:=rT af (ao i)
    split
    · rename_i c ah;rw[tm];exact .jF (Q7 aj hu ab ah)
    · trivial
  · trivial
 case lookup t x i ok=>exact rS λv h=>RP aj (ao x) (ao i) h
 case mapUpdate t m k v=>exact A6 λaZ h=>Jo aj (ao m) (ao k) (ao v) h
 case mapEntry t m k=>exact tl λv aZ h=>RR aj (ao m) (ao k) h
 case entryStore t m s v=>exact A6 λaZ h=>RS aj (ao m) (ao s) (ao v) h
 case range t x=>
  split
  · rename_i s hu ad
    have ab:=ao x
    rw[ad] at ab
    exact .jF (RW aj hu ab)
  · rename_i c7 iB hu ad
    have ab:=ao x
    rw[ad] at ab
    exact .jF (RX aj hu ab)
  · rename_i c7 iB m hu ad
    have ab:=ao x
    rw[ad] at ab
    split
    · rename_i es c D_
      obtain⟨i,af,aH⟩:=ab
      obtain⟨ents,aE,aC⟩:=aj.rel _ _ i D_ af
      obtain⟨ba,bt⟩:=aj.alloc (.mapIter (some m) c [] c) (.mapIter (some i.bg) c #[] c) 0 ⟨rfl,i,aj.n6 _ _ _ af,World.heap_alloc_new _ _⟩
      refine .jF ⟨_,_,.pointer (some ⟨w.heap.size,0,none⟩),?_,⟨_,gz _ _ _,rfl⟩,ba,bt⟩
      have hp:(getObj i.bg).run P w=.ok (.map ⟨ents⟩ c) w:=by simp[getObj,Sem.run,aE]
      rw[aH]
      simp only[Instr.range,Sem.run_bind,bO hu,Result.andThen_ok,hp,Sem.run_pure,run_newObj]
      rfl
    · trivial
  · trivial
 case next it isStr=>exact tl λv aZ h=>R0 aj (ao it) h
 case entry it=>exact rS λv h=>R3 aj (ao it) h
 case typeAssert x xT as ok=>
  have ab:=ao x
  split
  · trivial
  · rename_i d ec hu ad
    obtain⟨t1,_,_⟩:=JC (P:=P) (w:=w) (xT:=xT) (ok:=ok) hu (λm e=>ec m (e▸rfl)) ab
    split
    · rename_i cR
      split
      · rename_i z a0;exact .of_same aj (t1 z ad cR a0)
      · trivial
    · trivial
  · rename_i d t v ec hu ad
    obtain⟨_,t2,t3⟩:=JC (P:=P) (w:=w) (xT:=xT) (ok:=ok) hu (λm e=>ec m (e▸rfl)) ab
    split
    · rename_i he;subst he;exact .of_same aj (t2 v ad)
    · rename_i dK
      split
      · rename_i cR
        split
        · rename_i z a0;exact .of_same aj (t3 t v z ad dK cR a0)
        · trivial
      · trivial
  · trivial
 case extract t i=>
  have ab:=ao t
  split
  · rename_i vs ad
    rw[ad] at ab
    exact x1 aj λv h=>Se ab h
  · trivial
 case call c=>exact Sx aj ao c type
 case go=>trivial
 case defer c=>
  split
  · rename_i f hf
    split
    · rename_i k first caps ad
      have ab:=ao f
      rw[ad] at ab
      obtain⟨ct,cs,_,av,aK⟩:=JJ (P:=P) (w:=w) ab (A7 ao c.args)
      refine⟨_,?_,.call k _ cs _ av⟩
      simp only[resolve,hf,Sem.run_bind]
      have Eh:(Deferred.ofValue (cn f) (c.args.map cn)).run P w=.ok {target:=.fn (.func k) ⟨cs⟩,args:=⟨ct++(c.args.map cn).toList⟩} w:=aK
      rw[Eh];rfl
    · trivial
  · trivial
 case panic x=>
  have ab:=ao x
  split
  · rename_i t v ad
    rw[ad] at ab
    obtain⟨y,a6,aH⟩:=ab
    refine⟨rfl,.iface t y,?_,⟨y,rfl,aH⟩⟩
    rw[a6];rfl
  · trivial
 all_goals trivial
end
end ay
namespace ay
open Go
section
variable {P:Program} {μ:bl} {w:World}
def rU(P:Program)(μ:bl)(w:World)(s:Sem Value)(e:TypeId)(cs:List J)(val:Addr->Value):Prop:=
 ∃us:List Value,b9 μ cs us/\s.run P w=.ok (val ⟨w.heap.size,0,none⟩) (w.alloc (.cells ⟨us⟩ e))
theorem JM(el:TypeId)(us:List Value):(_root_.Go.newRow el ⟨us⟩).run P w=.ok ⟨w.heap.size,0,none⟩ (w.alloc (.cells ⟨us⟩ el)):=by simp[_root_.Go.newRow]
theorem SB{e:TypeId}{z:J}(a0:eG P e=some z):rU P μ w (Instr.alloc e true (.tuple #[])) e z.cells (λa=>.pointer (some a)):=by
 obtain⟨v,aH,rfl,ag⟩:=lW (w:=w) a0
 refine⟨v.cells.toList,(ke μ v).cells ag,?_⟩
 simp[Instr.alloc,aH,newVar,_root_.Go.newRow]
theorem SC{e:TypeId}{x:J}{v:Value}(aH:bd μ x v)(ag:x≠ .bad):rU P μ w (Instr.box e v) e x.cells (λa=>.pointer (some a)):=by
 refine⟨v.cells.toList,aH.cells ag,?_⟩
 simp[Instr.box,newVar,_root_.Go.newRow]
theorem SD(g:Operand->J)(cn:Operand->Value)(ao:∀x,bd μ (g x) (cn x)){t e:TypeId}{len sz:Nat}{z:J}(hu:P.underlying t=some (.slice e))(hs:dm P e=some sz)
  (a0:eG P e=some z)(hle:len*sz<=16777216)(n_:z.cells.length=sz)(parts:Array (Nat×Operand)){cs:List J}
  (hf:jR (λi=>some (i*sz,sz)) (if len*sz=0 then[] else e8 len z.cells) (parts.toList.map λp=>(p.1,g p.2))=some cs):
  rU P μ w (Instr.buildSlice t len (parts.map λ(i,x)=>(i,cn x))) e cs (λa=>.slice (some a) len len):=by
 obtain⟨v,aH,rfl,ag⟩:=lW (w:=w) a0
 have ah:=(ke μ v).cells ag
 have s8:¬(len*sz>2^24):=by omega
 have key:∀zero:Array Value,b9 μ (if len*sz=0 then[] else e8 len (n0 v).cells) ((Array.range (len*sz)).map (λi=>zero[i %zero.size]!)).toList->
   (∀r:Result Value,r=(match Instr.fill (λi=>some (i*sz,sz)) ((Array.range (len*sz)).map (λi=>zero[i %zero.size]!)) (parts.toList.map λp=>(p.1,cn p.2)) with
    |some cells=>do pure (.slice (some (<-_root_.Go.newRow e cells)) len len)
    |none=>stuck "buildSlice: a part of the wrong size" :Sem Value).run P w->(Instr.buildSlice t len (parts.map λ(i,x)=>(i,cn x))).run P w=r)->
   rU P μ w (Instr.buildSlice t len (parts.map λ(i,x)=>(i,cn x))) e cs (λa=>.slice (some a) len len):=by
  intro zero qo eL
  obtain⟨c',ab,ae⟩:=xD _ g cn ao parts.toList _ cs _ qo hf
  refine⟨c',ae,eL _ ?_⟩
  rw[ab]
  simp[JM]
 by_cases h0:len*sz=0
 · refine key #[] (by rw[if_pos h0,h0];simp[b9]) λr ai=>?_
   rw[ai]
   simp only[Instr.buildSlice,Sem.run_bind,bO hu,Result.andThen_ok,run_sizeOf hs,if_neg s8,if_pos h0,Sem.run_pure,Array.toList_map]
   generalize Instr.fill _ _ _=F
   cases F<;>rfl
 · refine key v.cells (by rw[if_neg h0];exact xG ah n_ len) λr ai=>?_
   rw[ai]
   simp only[Instr.buildSlice,Sem.run_bind,bO hu,Result.andThen_ok,run_sizeOf hs,if_neg s8,if_neg h0,Sem.run_pure,Array.toList_map,aH]
   generalize Instr.fill _ _ _=F
   cases F<;>rfl
theorem SE{t e:TypeId}{l c:Nat}{i:TypeInfo}{z:J}{kl kc:IntKind}(hu:P.underlying t=some (.slice e))(af:P.info? e=some i)(a0:eG P e=some z)(rD:l<=c)
  (vw:c*(i.bytes+1)<=1099511627776)(n_:z.cells.length=i.size):
  rU P μ w (Instr.makeSlice t (.int kl l) (.int kc c)) e (if c*i.size=0 then[] else e8 c z.cells) (λa=>.slice (some a) l c):=by
 obtain⟨v,aH,rfl,ag⟩:=lW (w:=w) a0
 have ah:=(ke μ v).cells ag
 have DO:c<=1099511627776:=Nat.le_trans (Nat.le_mul_of_pos_right c (by omega)) vw
 have pe:i.bytes*c<=1099511627776:=by
  have:c*i.bytes<=c*(i.bytes+1):=Nat.mul_le_mul_left c (by omega)
  rw[Nat.mul_comm];omega
 have xH:∀n:Nat,n<=1099511627776->IntKind.wrap .i64 (n:Int)=(n:Int):=λn aJ=>rF n (by omega)
 have k1:=xH l (by omega)
 have xI:=xH c DO
 have s9:¬((c:Int)<0||(i.bytes:Int)*(c:Int)>2^48||(l:Int)<0||(l:Int)>(c:Int))=true:=by
  have ab:((i.bytes:Int)*(c:Int))<=1099511627776:=by
   have h0:((i.bytes*c:Nat):Int)<=1099511627776:=by omega
   rw[Int.natCast_mul] at h0;exact h0
  have ae:(2:Int)^48=281474976710656:=by rfl
  generalize (i.bytes:Int)*(c:Int)=q at ab⊢
  rw[ae]
  simp only[Bool.or_eq_true,decide_eq_true_eq]
  omega
 have key:∀zero:Array Value,b9 μ (if c*i.size=0 then[] else e8 c (n0 v).cells) ((Array.range (c*i.size)).map (λj=>zero[j %zero.size]!)).toList->
   (Instr.makeSlice t (.int kl l) (.int kc c)).run P w=(do let a<-_root_.Go.newRow e ((Array.range (c*i.size)).map (λj=>zero[j %zero.size]!));pure (.slice (some a) l c):Sem Value).run P w->
   rU P μ w (Instr.makeSlice t (.int kl l) (.int kc c)) e (if c*i.size=0 then[] else e8 c (n0 v).cells) (λa=>.slice (some a) l c):=by
  intro zero qo eL
  refine⟨_,qo,?_⟩
  rw[eL]
  simp only[Sem.run_bind,Sem.run_pure]
  have aQ:=JM (P:=P) (w:=w) e ((Array.range (c*i.size)).map (λj=>zero[j %zero.size]!)).toList
  have:(⟨((Array.range (c*i.size)).map (λj=>zero[j %zero.size]!)).toList⟩:Array Value)=((Array.range (c*i.size)).map (λj=>zero[j %zero.size]!)):=rfl
  rw[this] at aQ
  rw[aQ];rfl
 have bE:(_root_.Go.sizeOf e).run P w=.ok i.size w:=by simp[_root_.Go.sizeOf,run_typeInfo af]
 by_cases h0:c*i.size=0
 · refine key #[] (by rw[if_pos h0,h0];simp[b9]) ?_
   simp only[Instr.makeSlice,Sem.run_bind,bO hu,Result.andThen_ok,asInt,asIntOf,Sem.run_pure,run_typeInfo af,k1,xI]
   rw[if_neg s9]
   simp[bE,h0]
 · refine key v.cells (by rw[if_neg h0];exact xG ah n_ c) ?_
   simp only[Instr.makeSlice,Sem.run_bind,bO hu,Result.andThen_ok,asInt,asIntOf,Sem.run_pure,run_typeInfo af,k1,xI]
   rw[if_neg s9]
   simp[bE,h0,aH]
structure Laid(P:Program)(μ:bl)(w:World)(s:Sem Next)(b:Nat)(v:J)(ob:b3)(u:Value)(X:Obj)(sz:Nat):Prop where
 run:s.run P w=.ok (.value u) (w.alloc X)
 val:∀aP,fa μ aP->aP b=some ⟨w.heap.size,0,sz⟩->bd aP v u
 obj:∀aP w',fa μ aP->w'.heap[w.heap.size]? =some X->ng aP ob ⟨w.heap.size,0,sz⟩ w'
 ro:ob.nh=false
theorem rU.laid{s:Sem Value}{e:TypeId}{cs:List J}{val:Addr->Value}(h:rU P μ w s e cs val){b:Nat}{v:J}(aH:∀aP sz,aP b=some ⟨w.heap.size,0,sz⟩->bd aP v (val ⟨w.heap.size,0,none⟩)):
  ∃u X sz,Laid P μ w (do pure (.value (<-s))) b v (.cells cs e .own 0 0) u X sz:=by
 obtain⟨us,ab,ae⟩:=h
 refine⟨_,.cells ⟨us⟩ e,us.length,by simp[ae],λaP _ hm=>aH aP _ hm,λaP w' hle bn=>?_,rfl⟩
 exact⟨⟨us⟩,0,0,bn,λj v aI=>by
  obtain⟨u,hu,ai⟩:=ab.get aI
  exact⟨u,by simpa using hu,ai.mono hle⟩,by simp,rfl,ab.length.symm,rfl,rfl⟩
theorem SF(o:Oper){g:Operand->J}{cn:Operand->Value}(ao:∀x,bd μ (g x) (cn x)){b:Nat}{v:J}{ob:b3}(h:kb P o.op g b=some (v,ob)):
  ∃u X sz,Laid P μ w (execOp cn o) b v ob u X sz:=by
 obtain⟨dst,op,type,pos,after,guard⟩:=o
 cases op<;>simp only[kb] at h<;>try (cases h;done)
 case alloc e=>
  split at h
  · rename_i z a0
    split at h
    · cases h
      exact(SB a0).laid λaP sz hm=>⟨_,hm,rfl⟩
    · cases h
  · cases h
 case box e x=>
  split at h
  · rename_i fI
    cases h
    have ag:g x≠ .bad:=by intro e;rw[e] at fI;simp[J.cells,J.bF] at fI
    exact(SC (ao x) ag).laid λaP sz hm=>⟨_,hm,rfl⟩
  · cases h
 case buildSlice t len parts=>
  split at h
  · rename_i e hu
    split at h
    · rename_i sz z hs a0
      split at h
      · rename_i cs ah hf
        rw[Bool.and_eq_true,Nat.ble_eq,Nat.beq_eq] at ah
        split at h
        · cases h
          exact(SD g cn ao hu hs a0 ah.1 ah.2 parts hf).laid λaP sz hm=>⟨_,hm,rfl⟩
        · cases h
      · cases h
    · cases h
  · cases h
 case makeMap t r=>
  cases r with
  |some x=>cases h
  |none=>
   cases h
   exact⟨.map (some w.heap.size),.map #[] 0,0,rfl,λaP _ hm=>⟨_,hm,rfl⟩,λaP w' _ bn=>⟨[],bn,rfl⟩,rfl⟩
 case makeSlice t l c=>
  split at h
  · rename_i e nt c' hu aw ah
    obtain⟨kl,el⟩:=rT aw (ao l)
    obtain⟨kc,x2⟩:=rT ah (ao c)
    split at h
    · rename_i i z af a0
      split at h
      · rename_i cs kF
        split at h
        · cases h
          rw[Bool.and_eq_true,Bool.and_eq_true,Nat.ble_eq,Nat.beq_eq,decide_eq_true_eq] at kF
          have:=(SE (P:=P) (μ:=μ) (w:=w) (kl:=kl) (kc:=kc) hu af a0 kF.1.1 kF.1.2 kF.2).laid (b:=b) (v:=.slice b 0 nt (.exact c')) λaP sz hm=>⟨_,hm,rfl⟩
          simp only[execOp,el,x2]
          exact this
        · cases h
      · cases h
    · cases h
  · cases h
end
end ay
namespace ay
open Go
def h3(P:Program)(μ:bl):Prop:=∀g,g<P.globals.size->∃i,μ g=some i/\i.bg=g/\i.base=0
theorem h3.mono{P:Program}{μ aP:bl}(h:h3 P μ)(hle:fa μ aP):h3 P aP:=λg ao=>let⟨i,ab,ae⟩:=h g ao;⟨i,hle _ _ ab,ae⟩
def Ends(μ:bl)(H:aa)(w:World):ax->Ending->World->Prop
 |.ret v aZ,e,w'=>∃aP u,e=.returned u/\bd aP v u/\bm aP aZ w'/\b4 μ H w aP aZ w'
 |.bk v aZ,e,w'=>∃aP u,e=.panicked [{v:=u,recovered:=false}]/\bd aP v u/\bm aP aZ w'/\b4 μ H w aP aZ w'
 |.fail _,_,_=>True
def ax.lp:ax->Bool
 |.fail _=>false
 |_=>true
def vD(P:Program)(f:FuncId)(vs:List Value)(w:World)(R:Ending->World->Prop):Prop:=
 (∃v w',(callFunc f ⟨vs⟩).run P w=.ok (.value v) w'/\R (.returned v) w')\/
 ((callFunc f ⟨vs⟩).run P w=.ok (.enter f ⟨vs⟩) w/\Calls P f ⟨vs⟩ w R)
def rV(P:Program)(m:Machine)(c:Frame)(cs:List Frame)(R:Ending->World->Prop):Prop:=
 ∃e w',R e w'/\match e with
  |.returned v=>Steps P m (lone (c.finish v) cs w')
  |.panicked chain=>Steps P m (lone (c.raise chain) cs w')
  |.outgrown=>False
def JN(P:Program)(l:Nat)(vs:List Value)(w:World)(R:Ending->World->Prop):Prop:=
 ∃f tmps assign body,(Instr.yield l ⟨vs⟩).run P w=.ok (.round l f tmps assign body) w/\∀c cs,rV P (lone (Frame.round l f tmps assign body .normal) (c::cs) w) c cs R
structure l2(P:Program)(call:aO->List J->aa->ax):Prop where
 fn:∀f args H,(call (.fn f) args H).lp=true->∀μ w (vs:List Value),bm μ H w->h3 P μ->b9 μ args vs->vD P f vs w (Ends μ H w (call (.fn f) args H))
 bR:∀l args H,(call (.bR l) args H).lp=true->∀μ w i (vs:List Value),bm μ H w->h3 P μ->μ l=some i->b9 μ args vs->JN P i.bg vs w (Ends μ H w (call (.bR l) args H))
theorem rV.of_steps{P:Program}{m cE:Machine}{c:Frame}{cs:List Frame}{R:Ending->World->Prop}(h:Steps P m cE)(an:rV P cE c cs R):rV P m c cs R:=by
 obtain⟨e,w',ai,hs⟩:=an
 refine⟨e,w',ai,?_⟩
 cases e with
 |returned v=>exact h.trans hs
 |panicked SG=>exact h.trans hs
 |outgrown=>exact hs.elim
theorem JO{P:Program}{f:FuncId}{args:Array Value}{w:World}{R:Ending->World->Prop}(po:∀w',¬R .outgrown w')(h:Calls P f args w R)(c:Frame)(cs:List Frame):
  rV P (lone (Frame.enter P f args .normal) (c::cs) w) c cs R:=by
 obtain⟨e,w',b0,ai,ah,_,aw⟩:=h (c::cs)
 refine⟨e,w',ai,?_⟩
 cases e with
 |returned v=>exact Steps.trans ah (.one (step_leave_returned aw))
 |panicked SG=>exact Steps.trans ah (.one (step_leave_panicked aw))
 |outgrown=>exact(po _ ai).elim
def ik(μ:bl)(kind:CallKind)(cs0:List Frame):bG->List Frame->Prop
 |.none,cs=>cs=cs0/\∀b0:Frame,b0.kind=kind->tryRecover b0 cs0=none
 |.act v,cs=>cs=cs0/\kind=.deferred/\∃c rest u,cs0=c::rest/\c.mode=.panicking [{v:=u,recovered:=false}]/\bd μ v u
 |.done v,cs=>kind=.deferred/\∃c rest u,cs0=c::rest/\c.mode=.panicking [{v:=u,recovered:=false}]/\bd μ v u/\cs={c with mode:=.panicking [{v:=u,recovered:=true}]}::rest
theorem ik.mono{μ aP:bl}(hle:fa μ aP){kind:CallKind}{cs0 cs:List Frame}{q:bG}(h:ik μ kind cs0 q cs):ik aP kind cs0 q cs:=by
 cases q with
 |none=>exact h
 |act v=>obtain⟨ab,ae,c,rest,u,av,aK,bU⟩:=h;exact⟨ab,ae,c,rest,u,av,aK,bU.mono hle⟩
 |done v=>obtain⟨ab,c,rest,u,av,aK,bU,cB⟩:=h;exact⟨ab,c,rest,u,av,aK,bU.mono hle,cB⟩
section
variable {P:Program} {μ:bl} {H:aa} {w:World}
theorem Ei{b:Frame}{a:Act}{ops:Array Oper}{i:Nat}{rest:List Nat}{k:List Item}{cs:List Frame}{s:Sem Next}
  (cr:stepG P true {frame:=b.atR a (.inRegion ops (i::rest)::k),callers:=cs,status:=.running,dying:=none} w=stepG.apply P true (b.atR a (.inRegion ops (i::rest)::k)) cs none s w):
  (∀v w',s.run P w=.ok (.value v) w'->Steps P (lone (b.atR a (.inRegion ops (i::rest)::k)) cs w) (lone ((b.atR a (.inRegion ops (i::rest)::k)).finish v) cs w'))/\
  (∀w',s.run P w=.ok .skip w'->Steps P (lone (b.atR a (.inRegion ops (i::rest)::k)) cs w) (lone ((b.atR a (.inRegion ops (i::rest)::k)).finish undef) cs w'))/\
  (∀u w',s.run P w=.halt (.panic u) w'->Steps P (lone (b.atR a (.inRegion ops (i::rest)::k)) cs w) (lone ((b.atR a (.inRegion ops (i::rest)::k)).raise [{v:=u,recovered:=false}]) cs w'))/\
  (∀d w',s.run P w=.ok (.defer d) w'->Steps P (lone (b.atR a (.inRegion ops (i::rest)::k)) cs w) (lone (b.atR ({a with defers:=d::a.defers}.put ((ops[i]?).bind (·.dst)) undef) (.inRegion ops rest::k)) cs w'))/\
  (∀f args w',s.run P w=.ok (.enter f args) w'->Steps P (lone (b.atR a (.inRegion ops (i::rest)::k)) cs w) (lone (Frame.enter P f args .normal) (b.atR a (.inRegion ops (i::rest)::k)::cs) w'))/\
  (∀l f tmps assign body w',s.run P w=.ok (.round l f tmps assign body) w'->Steps P (lone (b.atR a (.inRegion ops (i::rest)::k)) cs w) (lone (Frame.round l f tmps assign body .normal) (b.atR a (.inRegion ops (i::rest)::k)::cs) w'))/\
  (b.roundOf=none->∀w',s.run P w=.ok .recover w'->∀v bS,tryRecover (b.atR a (.inRegion ops (i::rest)::k)) cs=some (v,bS)->Steps P (lone (b.atR a (.inRegion ops (i::rest)::k)) cs w) (lone ((b.atR a (.inRegion ops (i::rest)::k)).finish v) bS w'))/\
  (b.roundOf=none->∀w',s.run P w=.ok .recover w'->tryRecover (b.atR a (.inRegion ops (i::rest)::k)) cs=none->Steps P (lone (b.atR a (.inRegion ops (i::rest)::k)) cs w) (lone ((b.atR a (.inRegion ops (i::rest)::k)).finish .nilIface) cs w')):=by
 refine⟨λv w' ai=>.one (step_lone_go ?_),λw' ai=>.one (step_lone_go ?_),λu w' ai=>.one (step_lone_go ?_),λd w' ai=>.one (step_lone_go ?_),λf args w' ai=>.one (step_lone_go ?_),λl f tmps assign body w' ai=>.one (step_lone_go ?_),λag w' ai v bS a2=>.one (step_lone_go ?_),λag w' ai a2=>.one (step_lone_go ?_)⟩
 · rw[cr];simp[stepG.apply,ai]
 · rw[cr];simp[stepG.apply,ai]
 · rw[cr];simp[stepG.apply,ai]
 · rw[cr]
   have:=Frame.finish_atR b {a with defers:=d::a.defers} ops i rest k undef
   simp only[stepG.apply,Sem.runT_eq,ai,GStep.bare_after]
   exact congrArg (λb0=>GStep.go {frame:=b0,callers:=cs,status:=.running,dying:=none} w') this
 · rw[cr];simp[stepG.apply,ai,Frame.atR]
 · rw[cr];simp[stepG.apply,ai,Frame.atR]
 · rw[cr]
   have iF:(b.atR a (.inRegion ops (i::rest)::k)).roundOf=none:=ag
   simp[stepG.apply,ai,iF,a2]
 · rw[cr]
   have iF:(b.atR a (.inRegion ops (i::rest)::k)).roundOf=none:=ag
   simp[stepG.apply,ai,iF,a2]
def Ej(P:Program)(μ:bl)(H:aa)(w:World)(b:Frame)(a:Act)(ops:Array Oper)(o:Oper)(i:Nat)(rest:List Nat)(k:List Item)(cs0 cs:List Frame):xt->Prop
 |.ok v bx bq aZ=>∃aP w' u oh bS,Steps P (lone (b.atR a (.inRegion ops (i::rest)::k)) cs w) (lone (b.atR {tmps:=(a.put o.dst u).tmps,defers:=oh} (.inRegion ops rest::k)) bS w')/\
   bd aP v u/\bm aP aZ w'/\b4 μ H w aP aZ w'/\gS aP bx oh/\ik aP b.kind cs0 bq bS
 |.bk v bx bq aZ=>∃aP w' u,Steps P (lone (b.atR a (.inRegion ops (i::rest)::k)) cs w) (lone {b.atR a (.inRegion ops (i::rest)::k) with mode:=.panicking [{v:=u,recovered:=false}]} cs w')/\
   bd aP v u/\bm aP aZ w'/\b4 μ H w aP aZ w'/\gS aP bx a.defers/\ik aP b.kind cs0 bq cs
 |.fail _=>True
theorem put_defers(a:Act)(dst:Option Tmp)(u:Value):(a.put dst u).defers=a.defers:=by cases dst<;>rfl
theorem A8(a:Act)(dst:Option Tmp)(u:Value):a.put dst u={tmps:=(a.put dst u).tmps,defers:=a.defers}:=by cases dst<;>rfl
theorem SH(a:Act)(aV:List Deferred)(dst:Option Tmp)(u:Value):({a with defers:=aV}:Act).put dst u={tmps:=(a.put dst u).tmps,defers:=aV}:=by cases dst<;>rfl
theorem JP{b:Frame}{a:Act}{ops:Array Oper}{o:Oper}{i:Nat}{rest:List Nat}{k:List Item}{cs0 cs:List Frame}(a8:ops[i]? =some o){d:List bC}{q:bG}
  (aq:gS μ d a.defers)(a1:ik μ b.kind cs0 q cs){r:ax}{m:Machine}(hs:Steps P (lone (b.atR a (.inRegion ops (i::rest)::k)) cs w) m)
  (aw:rV P m (b.atR a (.inRegion ops (i::rest)::k)) cs (Ends μ H w r)):Ej P μ H w b a ops o i rest k cs0 cs (xu d q r):=by
 obtain⟨e,w',ai,cr⟩:=aw
 cases r with
 |ret v aZ=>
  obtain⟨aP,u,rfl,ab,ae,av⟩:=ai
  refine⟨aP,w',u,a.defers,cs,hs.trans ?_,ab,ae,av,aq.mono av.le,a1.mono av.le⟩
  have:(b.atR a (.inRegion ops (i::rest)::k)).finish u=b.atR {tmps:=(a.put o.dst u).tmps,defers:=a.defers} (.inRegion ops rest::k):=by
   rw[Frame.finish_atR,a8,<-A8];rfl
  rw[<-this];exact cr
 |bk v aZ=>
  obtain⟨aP,u,rfl,ab,ae,av⟩:=ai
  exact⟨aP,w',u,hs.trans cr,ab,ae,av,aq.mono av.le,a1.mono av.le⟩
 |fail w=>trivial
theorem A9{r:ax}(h:r.lp=false):∃s,r=.fail s:=by
 cases r with
 |fail s=>exact⟨s,rfl⟩
 |_=>cases h
theorem Ek{r:ax}(ao:r.lp=true):∀w',¬Ends μ H w r .outgrown w':=by
 intro w' h
 cases r with
 |ret v aZ=>obtain⟨_,_,e,_⟩:=h;cases e
 |bk v aZ=>obtain⟨_,_,e,_⟩:=h;cases e
 |fail s=>cases ao
theorem JQ{call:aO->List J->aa->ax}(ah:l2 P call)(aj:bm μ H w)(pq:h3 P μ){b:Frame}{a:Act}{ops:Array Oper}{o:Oper}{i:Nat}{rest:List Nat}{k:List Item}{cs0 cs:List Frame}
  (a8:ops[i]? =some o){gd:Option (J×Bool)}(hg:∀mv,eH gd=some mv->Region.wanted o (yielded ops a.tmps)=mv){g:Operand->J}(ao:∀x,bd μ (g x) (a.eval x)){d:List bC}{q:bG}
  (aq:gS μ d a.defers)(a1:ik μ b.kind cs0 q cs){inR:Bool}(dL:inR=b.roundOf.isSome):Ej P μ H w b a ops o i rest k cs0 cs (eb P inR call gd o g d q H):=by
 unfold eb
 have oi:∀u,(b.atR a (.inRegion ops (i::rest)::k)).finish u=b.atR {tmps:=(a.put o.dst u).tmps,defers:=a.defers} (.inRegion ops rest::k):=λu=>by
  rw[Frame.finish_atR,a8,<-A8];rfl
 split
 · trivial
 · rename_i hw
   have El:=hg _ hw
   refine⟨μ,w,undef,a.defers,cs,?_,⟨[],rfl,rfl⟩,aj,b4.refl _ _ _,aq,a1⟩
   have hs:=stepR_op_skip (P:=P) (b:=b) (a:=a) (k:=k) (cs:=cs) (w:=w) (ops:=ops) (i:=i) (rest:=rest) (by simp[a8,El])
   rw[a8] at hs
   have he:a.put ((some o).bind (·.dst)) undef={tmps:=(a.put o.dst undef).tmps,defers:=a.defers}:=A8 a o.dst undef
   rw[he] at hs
   exact .one hs
 · rename_i hw
   have Em:=hg _ hw
   have cr:=stepGR_op (P:=P) (b:=b) (a:=a) (k:=k) (cs:=cs) (w:=w) (rest:=rest) a8 Em
   have gn:=Sz (P:=P) aj o ao
   by_cases JR:b.roundOf.isSome=true/\∃c,o.op=.defer c
   · obtain⟨ai,c,SI⟩:=JR
     have:(∃x,cD P o g H=.ju x)\/∃s,cD P o g H=.fail s:=by
      unfold cD
      rw[SI]
      simp only
      split
      · split
        · exact .inl ⟨_,rfl⟩
        · exact .inr ⟨_,rfl⟩
      · exact .inr ⟨_,rfl⟩
     rcases this with⟨x,e⟩|⟨s,e⟩
     · rw[e];simp only[dL,ai,if_true];trivial
     · rw[e];trivial
   · have x3:o.semAt b.roundOf a.eval=execOp a.eval o:=by
       cases hA:b.roundOf with
       |none=>rfl
       |some l=>exact Oper.semAt_eq _ _ _ λc e=>JR ⟨by rw[hA];rfl,c,e⟩
     rw[x3] at cr
     obtain⟨al,ak,aS,bb,ch,cc,bY,cJ⟩:=Ei cr
     cases gK:cD P o g H with
     |val v aZ=>
      rw[gK] at gn
      obtain⟨aP,w',u,ai,ab,ae,av⟩:=gn
      refine⟨aP,w',u,a.defers,cs,?_,ab,ae,av,aq.mono av.le,a1.mono av.le⟩
      rw[<-oi]
      rcases ai with ai|⟨rfl,ai⟩
      · exact al _ _ ai
      · exact ak _ ai
     |bk v aZ=>
      rw[gK] at gn
      obtain⟨rfl,u,ai,ab⟩:=gn
      exact⟨μ,w,u,aS _ _ ai,ab,aj,b4.refl _ _ _,aq,a1⟩
     |call f args aZ=>
      rw[gK] at gn
      obtain⟨rfl,vs,ai,ab⟩:=gn
      simp only
      cases bX:(call (.fn f) args aZ).lp with
      |false=>obtain⟨s,hs⟩:=A9 bX;rw[hs];trivial
      |true=>
       rcases ah.fn f args aZ bX μ w vs aj pq ab with⟨v,w',aR,aT⟩|⟨aR,aT⟩
       · rw[<-ai] at aR
         have hs:=al _ _ aR
         cases JS:call (.fn f) args aZ with
         |fail s=>trivial
         |ret v' a7=>
          rw[JS] at aT
          obtain⟨aP,u,e,ae,av,aK⟩:=aT
          cases e
          exact⟨aP,w',_,a.defers,cs,by rw[<-oi];exact hs,ae,av,aK,aq.mono aK.le,a1.mono aK.le⟩
         |bk v' a7=>
          rw[JS] at aT
          obtain⟨aP,u,e,ae,av,aK⟩:=aT
          cases e
       · rw[<-ai] at aR
         have hs:=ch _ _ _ aR
         exact JP a8 aq a1 hs (JO (Ek bX) aT _ _)
     |bR l args aZ=>
      rw[gK] at gn
      obtain⟨rfl,eB,vs,aw,ai,ab⟩:=gn
      simp only
      cases bX:(call (.bR l) args aZ).lp with
      |false=>obtain⟨s,hs⟩:=A9 bX;rw[hs];trivial
      |true=>
       obtain⟨f,tmps,as,cb,aR,aT⟩:=ah.bR l args aZ bX μ w eB vs aj pq aw ab
       rw[<-ai] at aR
       have hs:=cc _ _ _ _ _ _ aR
       exact JP a8 aq a1 hs (aT _ _)
     |ju x=>
      rw[gK] at gn
      obtain⟨pn,ai,ab⟩:=gn
      simp only
      split
      · trivial
      · refine⟨μ,w,undef,pn::a.defers,cs,?_,⟨[],rfl,rfl⟩,aj,b4.refl _ _ _,⟨_,_,rfl,ab,aq⟩,a1⟩
        have hs:=bb _ _ ai
        rw[a8] at hs
        have he:({a with defers:=pn::a.defers}:Act).put ((some o).bind (·.dst)) undef={tmps:=(a.put o.dst undef).tmps,defers:=pn::a.defers}:=SH a _ o.dst undef
        rw[he] at hs
        exact hs
     |sW=>
      rw[gK] at gn
      have ai:(execOp a.eval o).run P w=.ok .recover w:=gn
      simp only
      split
      · trivial
      · rename_i AV
        have x4:b.roundOf=none:=by
         cases hA:b.roundOf with
         |none=>rfl
         |some l=>rw[hA] at dL;exact absurd dL AV
        have au:(b.atR a (.inRegion ops (i::rest)::k)).kind=b.kind:=rfl
        split
        · obtain⟨rfl,a2⟩:=a1
          refine⟨μ,w,.nilIface,a.defers,cs,?_,rfl,aj,b4.refl _ _ _,aq,⟨rfl,a2⟩⟩
          rw[<-oi]
          exact cJ x4 _ ai (a2 _ au)
        · have SJ:=a1
          obtain⟨mw,c,rs,u,aE,aC,bu,rfl⟩:=a1
          refine⟨μ,w,.nilIface,a.defers,_,?_,rfl,aj,b4.refl _ _ _,aq,SJ⟩
          rw[<-oi]
          refine cJ x4 _ ai ?_
          have x5:(b.atR a (.inRegion ops (i::rest)::k)).kind=.deferred:=au.trans mw
          simp only[tryRecover,x5]
        · obtain⟨rfl,mw,c,rs,u,aE,aC,bu⟩:=a1
          subst aE
          refine⟨μ,w,u,a.defers,{c with mode:=.panicking [{v:=u,recovered:=true}]}::rs,?_,bu,aj,b4.refl _ _ _,aq,⟨mw,c,rs,u,rfl,aC,bu,rfl⟩⟩
          rw[<-oi]
          refine bY x4 _ ai _ _ ?_
          have x5:(b.atR a (.inRegion ops (i::rest)::k)).kind=.deferred:=au.trans mw
          simp only[tryRecover,x5,aC]
     |fail s=>trivial
end
end ay
