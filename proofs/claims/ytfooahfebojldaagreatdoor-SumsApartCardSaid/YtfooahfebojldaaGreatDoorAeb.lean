/-
  THE ABSTRACT EVALUATOR (operations): a deterministic semantics of loaded code, and the proof that its runs are runs of the program in the model, whatever the tape draws. No condition.
-/
import Derived.Test.YtfooahfebojldaaGreatDoorAea
import Derived.ChangeKeysEq
import Derived.Laws.StructEq
import Derived.AtR
set_option linter.unusedVariables false
set_option linter.unusedSimpArgs false
namespace aw
open Go
section
variable {P:Program} {μ:a8} {H:J} {w:World}
theorem x9{b off n:Nat}{cs:List I}(h:loadCells H b off n=some cs):cs.length=n:=by
 unfold loadCells at h
 split at h
 · obtain⟨aa,rfl⟩:=ri _ _ _ h
   simp;omega
 · cases h
theorem x_:∀l:List UInt8,(cD l).length=l.length
 |[]=>rfl
 |_::l=>by simp[cD,x_ l]
theorem EY{size n:Nat}{x:I}{cs:List I}(h:ho H size x=some (n,cs)):cs.length=n*size:=by
 cases x<;>simp only[ho] at h<;>try cases h
 · split at h<;>cases h
   rw[x_];simp
 · simp
 · rename_i b off len cap
   cases cap with
   |dead=>
    simp only at h
    split at h
    · cases h;simp
    · cases h
   |exact c=>
    simp only at h
    split at h
    · rename_i bH an;cases h;exact x9 an
    · cases h
   |aN fA=>
    simp only at h
    split at h
    · rename_i bH an;cases h;exact x9 an
    · cases h
theorem L4(ah:bc μ H w){argTypes:Array TypeId}{ty sT:TypeId}(h0:argTypes[0]? =some sT){s x:I}{l1 bk:Value}(hs:a1 μ s l1)(ab:a1 μ x bk){v:I}{aO:J}
  (h:fW P H sT argTypes[1]? s x=some (v,aO)):eC P μ H w (Builtin.append_ argTypes ty #[l1,bk]) v aO:=by
 unfold fW at h
 split at h
 · rename_i e hu eR
   split at h
   · rename_i i z ae aT
     split at h
     · cases h
     · rename_i n cs fM
       obtain⟨an,us,kB,jZ⟩:=x4 (P:=P) ah ab fM
       have fj:=EY fM
       cases s<;>(try simp only at h)<;>try cases h
       ·
        cases hs
        cases n with
        |zero=>
         cases h
         have:=vr (P:=P) (ty:=ty) h0 rfl hu eR ae (base:=none) (sLen:=0) (sCap:=0) an kB (by omega)
         exact .same ah this rfl
        |succ n=>
         have aj:jz H e i.bytes i.size (0+(n+1)) z ([]++cs) 0=some (v,aO):=by simpa using h
         exact AK ah h0 rfl hu eR ae aT ab fM (old:=[]) ⟨[],rfl,rfl⟩ (by simp) fj (by omega) ah (bO.refl _ _ _) aj
       · rename_i b off len cap
         obtain⟨dJ,hy,ag⟩:=hs
         cases cap with
         |dead=>cases h
         |exact cap=>
          cases ag
          simp only at h
          split at h
          · rename_i hle
            have hle:=Nat.le_of_ble_eq_true hle
            have ai:=vr (P:=P) (ty:=ty) h0 rfl hu eR ae (base:=some ⟨dJ.a5,dJ.base+off,none⟩) (sLen:=len) (sCap:=cap) an kB hle
            simp only[add_plain] at ai
            split at h
            · cases h
              have AL:us=[]:=by
               have aa:=fj;have ad:=jZ.length
               cases us with
               |nil=>rfl
               |cons a l=>simp at aa ad;omega
              subst AL
              refine .same ah (v':=.slice (some ⟨dJ.a5,dJ.base+off,none⟩) len cap) ?_ ⟨dJ,hy,rfl⟩
              rw[ai];simp[_root_.Go.storeCells]
            · split at h
              · rename_i aa b5
                cases h
                obtain⟨w',aC,ax,bp⟩:=vf (P:=P) ah hy jZ b5
                refine⟨μ,w',.slice (some ⟨dJ.a5,dJ.base+off,none⟩) (len+n) cap,?_,⟨dJ,hy,rfl⟩,ax,bp⟩
                rw[ai,Nat.add_assoc,aC];rfl
              · cases h
          · rename_i hle
            have cj:cap<len+n:=by
             rcases Nat.lt_or_ge cap (len+n) with h|h
             · exact h
             · rw[vn h] at hle;cases hle
            split at h
            · rename_i old hold
              obtain⟨os,c0,e6⟩:=pV (P:=P) ah.drew hy hold
              exact AK ah h0 rfl hu eR ae aT ab fM (old:=old) ⟨os,by simp only[Builtin.firstCells];exact c0,e6⟩ (x9 hold) fj cj ah (bO.refl _ _ _) h
            · cases h
         |aN fA=>
          obtain⟨cap,rfl,pZ,br⟩:=ag
          simp only at h
          split at h
          · rename_i jl
            simp only[Bool.and_eq_true,Nat.blt_eq] at jl
            have L5:=Nat.eq_of_beq_eq_true jl.1
            subst L5
            have xZ:=jl.2
            split at h
            · cases h
              have ai:=vr (P:=P) (ty:=ty) h0 rfl hu eR ae (base:=some ⟨dJ.a5,dJ.base+off,none⟩) (sLen:=len) (sCap:=cap) an kB (by omega)
              simp only[add_plain] at ai
              have AL:us=[]:=by
               have aa:=fj;have ad:=jZ.length
               cases us with
               |nil=>rfl
               |cons a l=>simp at aa ad;omega
              subst AL
              refine .same ah (v':=.slice (some ⟨dJ.a5,dJ.base+off,none⟩) len cap) ?_ ⟨dJ,hy,cap,rfl,pZ,br⟩
              rw[ai];simp[_root_.Go.storeCells]
            · split at h
              · rename_i old el a9 dY af
                have L6:=ah.rel b _ dJ af hy
                obtain⟨c,eS,eT,aR,a3,ck,mP,oN⟩:=L6
                split at h
                · rename_i p3
                  have p3:=Nat.le_of_ble_eq_true p3
                  split at h
                  · rename_i aa b5
                    cases h
                    have nJ:len+n<=cap:=by
                     have:(len+n)*i.size<=cap*i.size:=by omega
                     exact Nat.le_of_mul_le_mul_right this xZ
                    have ai:=vr (P:=P) (ty:=ty) h0 rfl hu eR ae (base:=some ⟨dJ.a5,dJ.base+off,none⟩) (sLen:=len) (sCap:=cap) an kB nJ
                    simp only[add_plain] at ai
                    obtain⟨w',aC,ax,bp⟩:=vf (P:=P) ah hy jZ b5
                    refine⟨μ,w',.slice (some ⟨dJ.a5,dJ.base+off,none⟩) (len+n) cap,?_,⟨dJ,hy,cap,rfl,nJ,br⟩,ax,bp⟩
                    rw[ai,Nat.add_assoc,aC];rfl
                  · cases h
                · split at h
                  · rename_i o EZ hold
                    simp only[Bool.and_eq_true] at EZ
                    obtain⟨iR,mQ⟩:=EZ
                    have iR:=Nat.le_of_ble_eq_true iR
                    have mQ:=Nat.eq_of_beq_eq_true mQ
                    subst mQ
                    have aj:=h
                    unfold jz at h
                    split at h
                    · rename_i E0
                      simp only[Bool.and_eq_true] at E0
                      obtain⟨⟨rn,mM⟩,eO⟩:=E0
                      cases h
                      have vt:=x9 hold
                      by_cases p3:len+n<=cap
                      ·
                       have ai:=vr (P:=P) (ty:=ty) h0 rfl hu eR ae (base:=some ⟨dJ.a5,dJ.base+off,none⟩) (sLen:=len) (sCap:=cap) an kB p3
                       simp only[add_plain] at ai
                       have hmul:(len+n)*i.size<=cap*i.size:=Nat.mul_le_mul_right _ p3
                       have EX:(len+n)*i.size=len*i.size+n*i.size:=Nat.add_mul _ _ _
                       have Li:us.length=n*i.size:=by rw[<-jZ.length];exact fj
                       obtain⟨w',c',aC,ax,bp,ds,hh,hv,hM,jk,jW⟩:=ED P dJ.a5 (dJ.base+(off+len*i.size)) us w 0 c el eS eT aR
                        (jZ.vc λa aX=>LR eO a (List.mem_append_right _ aX)) (by omega) (λj l2 p4 ⟨f1,f2⟩=>by
                         have:=oN (j-dJ.base) (by omega) (by omega) (by omega)
                         omega)
                       have L7:dJ.base+off+(dJ.size-off)=c'.size:=by rw[jk,<-ck,<-br];omega
                       obtain⟨r1,r2⟩:=ah.LM (w':=w') (o':=.cells (o++cs) el .aN 0 (dY-off)) af rfl hy ds bp hh hv hM.1 (dJ.base+off) (dJ.size-off) (hdr:=Nat.le_of_eq hM.2.symm)
                        ⟨c',eS,eT,ax,λj a aD=>by
                         show∃u,c'[dJ.base+off+j]? =some u/\_
                         rw[jW]
                         by_cases la:j<o.length
                         · rw[List.getElem?_append_left la] at aD
                           rw[if_neg (by omega)]
                           unfold loadCells at hold
                           rw[af] at hold
                           simp only at hold
                           rw[lW] at hold
                           obtain⟨t1,rfl⟩:=ri _ _ _ hold
                           rw[List.getElem?_take] at aD
                           split at aD
                           · rw[List.getElem?_drop] at aD
                             obtain⟨u,tq,nH⟩:=a3 (off+j) a aD
                             exact⟨u,by rw[Nat.add_assoc];exact tq,nH.mono (ah.mK _)⟩
                           · cases aD
                         · rw[List.getElem?_append_right (by omega)] at aD
                           have E1:j-o.length<cs.length:=by
                            rcases Nat.lt_or_ge (j-o.length) cs.length with h|h
                            · exact h
                            · rw[List.getElem?_eq_none h] at aD;cases aD
                           have Xa:=jZ.length
                           rw[if_pos (by omega)]
                           obtain⟨u,tq,nH⟩:=jZ.get aD
                           refine⟨u,?_,nH.mono (ah.mK _)⟩
                           rw[<-tq]
                           have L8:dJ.base+off+j-(dJ.base+(off+len*i.size)+0)=j-o.length:=by rw[vt];omega
                           rw[L8],L7,by
                         refine⟨?_,λj l2 p4 E2=>?_⟩
                         · simp only[List.length_append];have:=fj;omega
                         · have:=oN (off+j) (by simp only at l2;omega) (by simp only at p4;omega) (by simp only at E2;omega)
                           omega⟩
                       refine⟨_,w',.slice (some ⟨dJ.a5,dJ.base+off,none⟩) (len+n) cap,?_,⟨_,fs _ _ _,cap,by simp,p3,by simp only;omega⟩,r1,r2⟩
                       rw[ai,Nat.add_assoc,aC];rfl
                      ·
                       obtain⟨bG,bF⟩:=ah.kill af rfl hy
                       obtain⟨os,c0,e6⟩:=pV (P:=P) ah.drew hy hold
                       exact AK (ty:=ty) ah h0 rfl hu eR ae aT ab fM (old:=o) ⟨os,by simp only[Builtin.firstCells];exact c0,e6⟩ vt fj (by omega) bG bF aj
                    · cases h
                  · cases h
              · cases h
          · cases h
   · cases h
 · cases h
end
end aw
namespace aw
open Go
section
variable {P:Program} {μ:a8} {H:J} {w:World}
theorem bN.take{μ:a8}{as:List I}{vs:List Value}(h:bN μ as vs)(n:Nat):bN μ (as.take n) (vs.take n):=by
 refine bN.vb (by simp[h.length]) λj a aD=>?_
 rw[List.getElem?_take] at aD⊢
 split at aD
 · rename_i an;rw[if_pos an];exact h.get aD
 · cases aD
theorem E3(ah:bc μ H w){size n m:Nat}{x:I}{bk:Value}(ab:a1 μ x bk){cs r:List I}(h:ho H size x=some (n,cs))(hm:m<=n)(ai:takeN (m*size) cs=some r):
  ∃us:List Value,(Builtin.firstCells size m bk).run P w=.ok ⟨us⟩ w/\bN μ r us:=by
 obtain⟨aQ,rfl⟩:=ri _ _ _ ai
 have fj:=EY h
 cases x<;>simp only[ho] at h<;>try cases h
 · split at h<;>cases h
   obtain⟨bs,rfl,rfl⟩:=ab
   refine⟨_,?_,(x3 μ _).take _⟩
   simp only[Builtin.firstCells,Sem.run_pure]
   congr 1
   apply Array.ext'
   simp[ByteArray.data_extract,List.map_take]
 · cases ab
   exact⟨[],rfl,by simp;rfl⟩
 · rename_i b off len cap
   obtain⟨i,ae,ag⟩:=ab
   have load:∀bH,loadCells H b off (len*size)=some bH->n=len->cs=bH->∀c,∃us:List Value,(Builtin.firstCells size m (.slice (some ⟨i.a5,i.base+off,none⟩) len c)).run P w=.ok ⟨us⟩ w/\bN μ (cs.take (m*size)) us:=by
    intro bH an aG gG c
    subst gG;subst aG
    have L9:loadCells H b off (m*size)=some (cs.take (m*size)):=by
     unfold loadCells at an⊢
     split at an
     · rename_i aR a3 ck mP oN af
       obtain⟨t1,t2⟩:=ri _ _ _ an
       have hmul:m*size<=n*size:=Nat.mul_le_mul_right _ hm
       have e:∀(k:Nat) (l:List I),k<=l.length->takeN k l=some (l.take k):=by
        intro k
        induction k with
        |zero=>intro l _;simp[takeN]
        |succ k bg=>
         intro l an
         cases l with
         |nil=>simp at an
         |cons a l=>simp[takeN,bg l (by simpa using an)]
       rw[e _ _ (by omega),t2,List.take_take,Nat.min_eq_left hmul]
     · cases an
    obtain⟨us,aa,ad⟩:=pV (P:=P) ah ae L9
    exact⟨us,by simp only[Builtin.firstCells];exact aa,ad⟩
   cases cap with
   |dead=>
    simp only at h
    split at h
    · cases h
      obtain⟨_,a,c,rfl⟩:=ag
      have:m=0:=by omega
      subst this
      exact⟨[],by simp[Builtin.firstCells,_root_.Go.loadCells,loadCellsFrom],by simp;rfl⟩
    · cases h
   |exact c=>
    cases ag
    simp only at h
    split at h
    · rename_i bH an;cases h;exact load _ an rfl rfl c
    · cases h
   |aN fA=>
    obtain⟨c,rfl,_⟩:=ag
    simp only at h
    split at h
    · rename_i bH an;cases h;exact load _ an rfl rfl c
    · cases h
theorem L_(ah:bc μ H w){argTypes:Array TypeId}{ty xB:TypeId}(h0:argTypes[0]? =some xB){d s:I}{AM l1:Value}(az:a1 μ d AM)(hs:a1 μ s l1){v:I}{aO:J}
  (h:xA P H xB d s=some (v,aO)):eC P μ H w (Builtin.copy_ argTypes ty #[AM,l1]) v aO:=by
 unfold xA at h
 split at h
 · rename_i e hu
   split at h
   · rename_i sz br
     split at h
     · rename_i n cs fM
       obtain⟨an,_⟩:=x4 (P:=P) ah hs fM
       have l3:∀w:World,(_root_.Go.sizeOf e).run P w=.ok sz w:=λw=>run_sizeOf br
       have E4:∀bk:Value,bk=l1->(Builtin.firstCells sz 0 l1).run P w=.ok #[] w:=λbk _=>by
        obtain⟨us,aa,ad⟩:=E3 (P:=P) (m:=0) (r:=[]) ah hs fM (Nat.zero_le _) (by simp[takeN])
        cases us with
        |nil=>exact aa
        |cons a l=>cases ad
       split at h
       · cases h;cases az
         refine .same ah (v':=.int .i64 0) ?_ rfl
         simp[Builtin.copy_,h0,bx hu,an,l3,E4 l1 rfl,goInt]
       · rename_i b off len cap
         simp only at h
         obtain⟨i,ae,ag⟩:=az
         have nI:∃(a:Addr) (c:Nat),AM=.slice (some a) len c/\(cap≠ .dead->a=⟨i.a5,i.base+off,none⟩):=by
          cases cap with
          |exact c=>cases ag;exact⟨_,c,rfl,λ_=>rfl⟩
          |aN fA=>obtain⟨c,rfl,_⟩:=ag;exact⟨_,c,rfl,λ_=>rfl⟩
          |dead=>obtain⟨rfl,a,c,rfl⟩:=ag;exact⟨a,c,rfl,λh=>absurd rfl h⟩
         obtain⟨a,c,rfl,aX⟩:=nI
         split at h
         · rename_i oO
           cases h
           refine .same ah (v':=.int .i64 0) ?_ rfl
           simp[Builtin.copy_,h0,bx hu,an,l3,oO,E4 l1 rfl,goInt,_root_.Go.storeCells]
         · rename_i oO
           split at h
           · rename_i bH aQ
             split at h
             · rename_i aa b5
               cases h
               have AN:cap≠ .dead:=by
                intro e;subst e
                obtain⟨aC,_⟩:=ag
                subst aC;simp[Nat.min_def] at oO
               have:=aX AN
               subst this
               obtain⟨us,aR,a3⟩:=E3 (P:=P) ah hs fM (Nat.min_le_left _ _) aQ
               obtain⟨w',aC,ax,bp⟩:=vf (P:=P) ah ae a3 b5
               refine⟨μ,w',.int .i64 (Nat.min n len:Nat),?_,rfl,ax,bp⟩
               simp[Builtin.copy_,h0,bx hu,an,l3,aR,aC,goInt]
             · cases h
           · cases h
       · cases h
     · cases h
   · cases h
 · cases h
theorem Ma(ah:bc μ H w){argTypes:Array TypeId}{ty t:TypeId}(h0:argTypes[0]? =some t){x:I}{bk:Value}(ab:a1 μ x bk){v:I}{aO:J}
  (h:nz P H t x=some (v,aO)):eC P μ H w (Builtin.clear_ argTypes ty #[bk]) v aO:=by
 unfold nz at h
 split at h
 · rename_i hu;cases h;cases ab
   exact .same ah (v':=.tuple #[]) (by simp[Builtin.clear_,h0,bx hu]) ⟨[],rfl,rfl⟩
 · rename_i hu;cases h;cases ab
   exact .same ah (v':=.tuple #[]) (by simp[Builtin.clear_,h0,bx hu]) ⟨[],rfl,rfl⟩
 · rename_i hu
   split at h
   · rename_i es c aj
     cases h
     obtain⟨i,ae,rfl⟩:=ab
     obtain⟨ents,aC,ax⟩:=ah.rel _ _ i aj ae
     have cj:i.a5<w.heap.size:=(ah.lt _ _ ae).2
     obtain⟨r1,r2⟩:=ah.update (w':={w with heap:=w.heap.setIfInBounds i.a5 (.map #[] c)}) (o':=.map [] c) aj rfl ae (by simp) (λr ai=>by simp[Array.getElem?_setIfInBounds];intro e;exact absurd e.symm ai) rfl rfl rfl
      ⟨[],by simp[cj],rfl⟩
     refine⟨μ,_,.tuple #[],?_,⟨[],rfl,rfl⟩,r1,r2⟩
     simp[Builtin.clear_,h0,bx hu,getObj,setObj,Sem.run,aC]
   · cases h
 · rename_i e b off n cap hu
   split at h
   · rename_i aG
     cases h
     subst aG
     obtain⟨i,ae,ag⟩:=ab
     have:∃a c,bk=.slice (some a) 0 c:=by
      cases cap with
      |exact c=>cases ag;exact⟨_,c,rfl⟩
      |aN fA=>obtain⟨c,rfl,_⟩:=ag;exact⟨_,c,rfl⟩
      |dead=>obtain⟨_,a,c,rfl⟩:=ag;exact⟨a,c,rfl⟩
     obtain⟨a,c,rfl⟩:=this
     exact .same ah (v':=.tuple #[]) (by simp[Builtin.clear_,h0,bx hu]) ⟨[],rfl,rfl⟩
   · rename_i aG
     split at h
     · rename_i z aT
       split at h
       · rename_i aa b5
         cases h
         obtain⟨eQ,Mb,rfl,af⟩:=kz (P:=P) (w:=w) aT
         have hO:=LK n ((iP μ eQ).cells af)
         obtain⟨i,ae,ag⟩:=ab
         have:∃c,bk=.slice (some ⟨i.a5,i.base+off,none⟩) n c:=by
          cases cap with
          |exact c=>cases ag;exact⟨c,rfl⟩
          |aN fA=>obtain⟨c,rfl,_⟩:=ag;exact⟨c,rfl⟩
          |dead=>obtain⟨h0,_⟩:=ag;exact absurd h0 aG
         obtain⟨c,rfl⟩:=this
         obtain⟨w',aC,ax,bp⟩:=vf (P:=P) ah ae hO b5
         refine⟨μ,w',.tuple #[],?_,⟨[],rfl,rfl⟩,ax,bp⟩
         cases n with
         |zero=>exact absurd rfl aG
         |succ n=>simp[Builtin.clear_,h0,bx hu,Mb,aC]
       · cases h
     · cases h
 · cases h
theorem Mc(ah:bc μ H w){argTypes:Array TypeId}{ty t:TypeId}(h0:argTypes[0]? =some t){x:I}{bk:Value}(ab:a1 μ x bk){v:I}(h:cb P H t x=some v):
  eC P μ H w (Builtin.len_ argTypes ty #[bk]) v H:=by
 unfold cb at h
 split at h
 · rename_i s hu;cases h
   obtain⟨bs,rfl,rfl⟩:=ab
   refine .same ah (v':=.int .i64 (bs.size:Int)) (by simp[Builtin.len_,h0,bx hu,goInt]) ?_
   have:bs.data.toList.length=bs.size:=Array.length_toList
   rw[this];rfl
 · rename_i n e hu;cases h
   exact .same ah (v':=.int .i64 (n:Int)) (by simp[Builtin.len_,h0,bx hu,goInt]) rfl
 · rename_i e b off n cap hu;cases h
   obtain⟨i,ae,ag⟩:=ab
   have:∃a c,bk=.slice a n c:=by
    cases cap with
    |exact c=>cases ag;exact⟨_,c,rfl⟩
    |aN fA=>obtain⟨c,rfl,_⟩:=ag;exact⟨_,c,rfl⟩
    |dead=>obtain⟨rfl,a,c,rfl⟩:=ag;exact⟨_,c,rfl⟩
   obtain⟨a,c,rfl⟩:=this
   exact .same ah (v':=.int .i64 (n:Int)) (by simp[Builtin.len_,h0,bx hu,goInt]) rfl
 · rename_i hu;cases h;cases ab
   exact .same ah (v':=.int .i64 0) (by simp[Builtin.len_,h0,bx hu,goInt]) rfl
 · rename_i hu;cases h;cases ab
   exact .same ah (v':=.int .i64 0) (by simp[Builtin.len_,h0,bx hu,goInt]) rfl
 · rename_i r hu
   split at h
   · rename_i es c aj
     cases h
     obtain⟨i,ae,rfl⟩:=ab
     obtain⟨ents,aC,ax⟩:=ah.rel _ _ i aj ae
     have hlen:es.length=ents.length:=by
      clear aC aj
      induction es generalizing ents with
      |nil=>cases ax;rfl
      |cons e es bg=>obtain⟨m,ms,rfl,_,ad⟩:=ax;simp[bg ms ad]
     refine .same ah (v':=.int .i64 (ents.length:Int)) ?_ (by rw[hlen];rfl)
     simp[Builtin.len_,h0,bx hu,goInt,getObj,Sem.run,aC]
   · cases h
 · rename_i arr hu
   split at h
   · rename_i n e nH;cases h
     exact .same ah (v':=.int .i64 (n:Int)) (by simp[Builtin.len_,h0,bx hu,bx nH,goInt]) rfl
   · cases h
 · cases h
theorem Md(ah:bc μ H w){argTypes:Array TypeId}{ty t:TypeId}(h0:argTypes[0]? =some t){x:I}{bk:Value}(ab:a1 μ x bk){v:I}(h:xz P t x=some v):
  eC P μ H w (Builtin.cap_ argTypes ty #[bk]) v H:=by
 unfold xz at h
 split at h
 · rename_i n e hu;cases h
   exact .same ah (v':=.int .i64 (n:Int)) (by simp[Builtin.cap_,h0,bx hu,goInt]) rfl
 · rename_i e b off n c hu;cases h
   obtain⟨i,ae,ag⟩:=ab
   cases ag
   exact .same ah (v':=.int .i64 (c:Int)) (by simp[Builtin.cap_,h0,bx hu,goInt]) rfl
 · rename_i hu;cases h;cases ab
   exact .same ah (v':=.int .i64 0) (by simp[Builtin.cap_,h0,bx hu,goInt]) rfl
 · cases h
theorem AO(f:I->I->Option I)(F:Value->Value->Sem Value)(hf:∀x y z bk ft,f x y=some z->a1 μ x bk->a1 μ y ft->∃eQ,(F bk ft).run P w=.ok eQ w/\a1 μ z eQ):
  ∀(l:List I) (x:I) (bk:Value) (c6:List Value) (z:I),a1 μ x bk->bN μ l c6->gP f x l=some z->∃eQ,(c6.foldlM F bk).run P w=.ok eQ w/\a1 μ z eQ
 |[],x,bk,c6,z,ab,an,h=>by
  cases an;simp[gP] at h;subst h
  exact⟨bk,rfl,ab⟩
 |y::l,x,bk,c6,z,ab,⟨ft,E5,e,aU,an⟩,h=>by
  subst e
  simp only[gP] at h
  split at h
  · rename_i u hu
    obtain⟨kC,r1,r2⟩:=hf x y u bk ft hu ab aU
    obtain⟨eQ,s1,s2⟩:=AO f F hf l u kC E5 z r2 an h
    exact⟨eQ,by simp only[List.foldlM_cons,Sem.run_bind,r1,Result.andThen_ok,s1],s2⟩
  · cases h
theorem Me{x y z:I}{bk ft:Value}(h:hp x y=some z)(ab:a1 μ x bk)(aU:a1 μ y ft):∃eQ,(Builtin.min2 bk ft).run P w=.ok eQ w/\a1 μ z eQ:=by
 unfold hp at h
 split at h
 · split at h
   · rename_i aq;cases h;subst aq
     cases ab;cases aU
     exact⟨_,rfl,by simp[a1,et]⟩
   · cases h
 · cases h
theorem Mf{x y z:I}{bk ft:Value}(h:uX x y=some z)(ab:a1 μ x bk)(aU:a1 μ y ft):∃eQ,(Builtin.max2 bk ft).run P w=.ok eQ w/\a1 μ z eQ:=by
 unfold uX at h
 split at h
 · split at h
   · rename_i aq;cases h;subst aq
     cases ab;cases aU
     exact⟨_,rfl,by simp[a1,et]⟩
   · cases h
 · cases h
end
end aw
namespace aw
open Go
section
variable {P:Program} {μ:a8} {H:J} {w:World}
theorem E6:∀(cs:List I) (bs:List UInt8) (us:List Value),lQ cs=some bs->bN μ cs us->us=bs.map λb=>.int .u8 (b.toNat:Int)
 |[],bs,us,h,ai=>by cases ai;simp[lQ] at h;subst h;rfl
 |c::cs,bs,us,h,⟨v,vs,e,aa,ad⟩=>by
  subst e
  unfold lQ at h
  split at h
  · rename_i heq;cases heq
  · rename_i n l heq
    cases heq
    split at h
    · rename_i r aG ai
      cases h
      cases aa
      rw[E6 cs r vs ai ad]
      simp only[Nat.blt_eq] at aG
      have:n %256=n:=Nat.mod_eq_of_lt aG
      simp[UInt8.toNat_ofNat',this]
    · cases h
  · cases h
theorem E7(w:World):∀(bs:List UInt8) (acc:ByteArray),(forIn (bs.map λb=>Value.int .u8 (b.toNat:Int)) acc λc s=>
  (match c with
  |.int .u8 n=>pure (ForInStep.yield (s.push (UInt8.ofNat n.toNat)))
  |_=>do stuck "bytesToString: byte expected";pure (ForInStep.yield s):Sem (ForInStep ByteArray))).run P w=.ok ⟨acc.data++bs.toArray⟩ w
 |[],acc=>by simp
 |b::bs,acc=>by
  simp only[List.map_cons,List.forIn_cons,Sem.run_bind,Sem.run_pure,Result.andThen_ok,E7 w bs]
  congr 1
  simp[ByteArray.ext_iff,ByteArray.push]
theorem Mg(ah:bc μ H w){b off n:Nat}{cap:cf}(nJ:cap≠ .dead){bk:Value}(ab:a1 μ (.slice b off n cap) bk){cs:List I}(an:loadCells H b off n=some cs){bs:List UInt8}(af:lQ cs=some bs):
  eC P μ H w (Conv.bytesToString bk) (.str bs) H:=by
 obtain⟨i,ae,ag⟩:=ab
 have:∃c,bk=.slice (some ⟨i.a5,i.base+off,none⟩) n c:=by
  cases cap with
  |exact c=>cases ag;exact⟨c,rfl⟩
  |aN fA=>obtain⟨c,rfl,_⟩:=ag;exact⟨c,rfl⟩
  |dead=>exact absurd rfl nJ
 obtain⟨c,rfl⟩:=this
 obtain⟨us,aa,ad⟩:=pV (P:=P) ah ae an
 have kB:=E6 cs bs us af ad
 subst kB
 refine .same ah (v':=.string ⟨bs.toArray⟩) ?_ ⟨_,rfl,by simp⟩
 simp only[Conv.bytesToString,Sem.run_bind,aa,Result.andThen_ok]
 have e:=E7 (P:=P) w bs ByteArray.empty
 rw[<-List.forIn_toArray] at e
 refine(congrArg (λr=>Result.andThen r _) e).trans ?_
 simp
theorem Mh(ah:bc μ H w){e:TypeId}{bs:ByteArray}:
  eC P μ H w (Conv.stringToBytes e bs) (.slice H.n 0 bs.data.toList.length (.aN 1)) (H.push (.cells (cD bs.data.toList) e .aN 0 0)):=by
 have x5:(Question.appendCap bs.size 0 e).forced=false:=rfl
 have br:bs.data.toList.length=bs.size:=Array.length_toList
 obtain⟨cap,nJ,hle⟩:∃cap,(Question.appendCap bs.size 0 e).cut (w.tape w.drawn (Question.appendCap bs.size 0 e))=cap/\bs.size<=cap:=⟨_,rfl,by simp[Question.cut]⟩
 have AP:=ah.drew.mK ⟨w.heap.size,0,cap⟩
 let c:Array Value:=(bs.data.map λb=>.int .u8 b.toNat)++Array.replicate (cap-bs.size) (.int .u8 0)
 have gG:c.size=cap:=by
  have:bs.data.size=bs.size:=rfl
  simp only[c,Array.size_append,Array.size_map,Array.size_replicate,this];omega
 have pW:xS (fr μ H.n ⟨w.heap.size,0,cap⟩) (cD bs.data.toList) c 0:=λj v aD=>by
  obtain⟨u,hu,ai⟩:=(x3 μ bs.data.toList).get aD
  refine⟨u,?_,ai.mono AP⟩
  have vu:j<bs.data.size:=by
   rcases Nat.lt_or_ge j bs.data.size with h|h
   · exact h
   · rw[List.getElem?_eq_none (by simpa using h)] at hu;cases hu
  simp only[c,Nat.zero_add]
  rw[Array.getElem?_append_left (by simpa using vu)]
  simpa using hu
 have Mi:bc (fr μ H.n ⟨w.heap.size,0,cap⟩) (H.push (.cells (cD bs.data.toList) e .aN 0 0)) (w.drew.alloc (.cells c e))/\bO μ H w.drew (fr μ H.n ⟨w.heap.size,0,cap⟩) (H.push (.cells (cD bs.data.toList) e .aN 0 0)) (w.drew.alloc (.cells c e)):=
  ah.drew.alloc (.cells (cD bs.data.toList) e .aN 0 0) (.cells c e) cap
  ⟨c,0,0,World.heap_alloc_new _ _,pW,by simp[gG],by
    refine⟨?_,λj _ _ h=>by omega⟩
    rw[x_,br];exact hle⟩
 obtain⟨r1,r2⟩:=Mi
 let cC:World:=(w.drew.alloc (.cells c e)).freeze ⟨w.heap.size,cap,none⟩ 1
 have Mj:cC.heap[w.heap.size]? =some (.cells c e (cap,cap+1)):=by
  simp only[cC,World.freeze,if_neg (show¬(1=0) by omega),Array.getElem?_modify]
  have:(w.drew.alloc (.cells c e)).heap[w.heap.size]? =some (.cells c e (0,0)):=World.heap_alloc_new _ _
  rw[this];simp
 have jY:(H.push (.cells (cD bs.data.toList) e .aN 0 0)).get H.n=some (.cells (cD bs.data.toList) e .aN 0 0):=by rw[J.ec,if_pos rfl]
 have b5:bc (fr μ H.n ⟨w.heap.size,0,cap⟩) ((H.push (.cells (cD bs.data.toList) e .aN 0 0)).set H.n (some (.cells (cD bs.data.toList) e .aN 0 0))) cC/\
   bO (fr μ H.n ⟨w.heap.size,0,cap⟩) (H.push (.cells (cD bs.data.toList) e .aN 0 0)) (w.drew.alloc (.cells c e)) (fr μ H.n ⟨w.heap.size,0,cap⟩) ((H.push (.cells (cD bs.data.toList) e .aN 0 0)).set H.n (some (.cells (cD bs.data.toList) e .aN 0 0))) cC:=
  r1.update jY rfl (fs _ _ _) (by simp[cC,World.freeze]) (λr ai=>by
   simp only[cC,World.freeze,if_neg (show¬(1=0) by omega),Array.getElem?_modify]
   rw[if_neg (λe=>ai e.symm)]) (by simp[cC,World.freeze]) (by simp[cC,World.freeze]) (by simp[cC,World.freeze])
   ⟨c,cap,cap+1,Mj,pW,by simp[gG],by
     refine⟨by rw[x_,br];exact hle,λj l2 p4 E2=>by simp only at l2 p4;omega⟩⟩
 refine⟨fr μ H.n ⟨w.heap.size,0,cap⟩,cC,.slice (some ⟨w.heap.size,0,none⟩) bs.size cap,?_,⟨⟨w.heap.size,0,cap⟩,fs _ _ _,cap,by simp[br],by rw[br];exact hle,by simp⟩,?_,?_⟩
 · simp only[Conv.stringToBytes,Sem.run_bind,run_choose,x5,Bool.false_eq_true,if_false,World.drew_eq,Result.andThen_ok,nJ]
   have aC:(_root_.Go.newRow e c).run P w.drew=.ok ⟨w.heap.size,0,none⟩ (w.drew.alloc (.cells c e)):=rfl
   rw[show(_root_.Go.newRow e ((bs.data.map λb=>.int .u8 b.toNat)++Array.replicate (cap-bs.size) (.int .u8 0))).run P w.drew=_ from aC]
   have ax:(w.drew.alloc (.cells c e)).shape? w.heap.size=some (e,cap):=by
    have:(w.drew.alloc (.cells c e)).heap[w.heap.size]? =some (.cells c e (0,0)):=World.heap_alloc_new _ _
    simp only[World.shape?,this,gG]
   simp only[Result.andThen_ok,markStringish,Sem.run_bind,run_shape,ax,run_freeze,Sem.run_pure]
   rfl
 ·
  refine⟨λb o i af ae=>b5.1.rel b o i ?_ ae,λb c' i j af ag=>b5.1.inj b c' i j ?_ ?_,b5.1.lt,λb af=>?_⟩
  · rw[J.bL];split
    · rename_i e;subst e;rw[jY] at af;exact af
    · exact af
  · rw[J.bL];split
    · simp
    · exact af
  · rw[J.bL];split
    · exact⟨_,rfl,rfl⟩
    · exact ag
  · exact r1.bound b af
 · refine bO.trans ah ah.drew bO.drew (bO.trans ah.drew r1 r2 ⟨en.refl _,b5.2.size,Nat.le_refl _,λ_ _ h=>h,λ_ _ _=>rfl,b5.2.old,λb i h ak=>(by rw[h] at ak;cases ak),λb o i af ai ae=>⟨af,(b5.2.ro b o i af ai ae).2⟩,b5.2.os,b5.2.out,b5.2.tape,b5.2.drawn⟩)
theorem Mk{i:dL}{o o':Nat}:(sameAddr ⟨i.a5,i.base+o,none⟩ ⟨i.a5,i.base+o',none⟩).run P w=.ok (Nat.beq o o') w:=by
 simp only[sameAddr,beq_self_eq_true,if_true,Sem.run_pure]
 congr 1
 rw[Bool.eq_iff_iff]
 simp
theorem Ml{r r' o o' el p5:Nat}{c c':Array Value}(h:w.heap[r]? =some (.cells c el (0,0)))(ak:w.heap[r']? =some (.cells c' p5 (0,0)))(df:r≠r'):
  (sameAddr ⟨r,o,none⟩ ⟨r',o',none⟩).run P w=.ok false w:=by
 have af:(r==r')=false:=beq_eq_false_iff_ne.2 df
 have f1:∀k,w.frozen? ⟨r,k,none⟩=false:=λk=>by simp[World.frozen?,h]
 have f2:∀k,w.frozen? ⟨r',k,none⟩=false:=λk=>by simp[World.frozen?,ak]
 have s1:w.shape? r=some (el,c.size):=by simp[World.shape?,h]
 have s2:w.shape? r'=some (p5,c'.size):=by simp[World.shape?,ak]
 simp[sameAddr,af,f1,f2,noView,viewAt,s1,s2,mayBeOne,stringish]
theorem AQ(w:World)(D:Nat)(E:TypeId->I->I->Option Bool)(e5:∀t x y b bk ft,E t x y=some b->a1 μ x bk->a1 μ y ft->(Op.equalIn D t bk ft).run P w=.ok b w)
  {xs ys:List I}{p6 rp:List Value}(ab:bN μ xs p6)(aU:bN μ ys rp):∀(b2:List Field) (b:Bool),eqFields P E xs ys b2=some b->(Op.eqFields D ⟨p6⟩ ⟨rp⟩ b2).run P w=.ok b w
 |[],b,h=>by cases h;rfl
 |f::b2,b,h=>by
  simp only[eqFields] at h
  split at h
  · rename_i aG
    have aG:f.name= "_" :=of_decide_eq_true aG
    have bg:=AQ w D E e5 ab aU b2 b h
    simp only[Op.eqFields,aG,ne_eq,not_true_eq_false,if_false]
    exact bg
  · rename_i aG
    have aG:¬(f.name= "_"):=of_decide_eq_false aG
    split at h
    · rename_i a c aX ag
      obtain⟨vw,dy,dq⟩:=p1 (P:=P) (w:=w) ab aX
      obtain⟨p7,aR,a3⟩:=p1 (P:=P) (w:=w) aU ag
      split at h
      · rename_i he
        have ai:=e5 _ _ _ _ vw p7 he dq a3
        have bg:=AQ w D E e5 ab aU b2 b h
        simp only[Op.eqFields,ne_eq,aG,not_false_eq_true,if_true,Sem.run_bind,dy,aR,Result.andThen_ok,ai,Bool.not_true,Bool.false_eq_true,if_false]
        exact bg
      · rename_i r ai
        cases b with
        |true=>exact absurd h ai
        |false=>
         have p8:=e5 _ _ _ _ vw p7 h dq a3
         simp only[Op.eqFields,ne_eq,aG,not_false_eq_true,if_true,Sem.run_bind,dy,aR,Result.andThen_ok,p8,Bool.not_false,Sem.run_pure]
    · cases h
theorem E8(w:World)(D:Nat){e:TypeId}{sz:Nat}(E:TypeId->I->I->Option Bool)(e5:∀t x y b bk ft,E t x y=some b->a1 μ x bk->a1 μ y ft->(Op.equalIn D t bk ft).run P w=.ok b w){xs ys:List I}{p6 rp:List Value}(ab:bN μ xs p6)(aU:bN μ ys rp):
  ∀(n i:Nat) (b:Bool),uW P E e sz xs ys n i=some b->(Op.eqItems D e sz ⟨p6⟩ ⟨rp⟩ (List.range' i n)).run P w=.ok b w
 |0,i,b,h=>by simp only[uW] at h;cases h;simp[Op.eqItems]
 |n+1,i,b,h=>by
  simp only[uW] at h
  rw[List.range'_succ]
  split at h
  · rename_i a c aX ag
    obtain⟨vw,dy,dq⟩:=p1 (P:=P) (w:=w) ab aX
    obtain⟨p7,aR,a3⟩:=p1 (P:=P) (w:=w) aU ag
    split at h
    · rename_i he
      have ai:=e5 _ _ _ _ vw p7 he dq a3
      have bg:=E8 w D E e5 ab aU n (i+1) b h
      simp only[Op.eqItems,Sem.run_bind,dy,aR,Result.andThen_ok,ai,Bool.not_true,Bool.false_eq_true,if_false]
      exact bg
    · rename_i r ai
      cases b with
      |true=>exact absurd h ai
      |false=>
       have p8:=e5 _ _ _ _ vw p7 h dq a3
       simp only[Op.eqItems,Sem.run_bind,dy,aR,Result.andThen_ok,p8,Bool.not_false,if_true,Sem.run_pure]
  · cases h
set_option maxHeartbeats 4000000 in
theorem rq(ah:bc μ H w):∀(d:Nat) (t:TypeId) (x y:I) (b:Bool) (bk ft:Value) (D:Nat),d<=D->g1 P H d t x y=some b->a1 μ x bk->a1 μ y ft->(Op.equalIn D t bk ft).run P w=.ok b w
 |0,t,x,y,b,bk,ft,D,_,h,_,_=>by simp[g1] at h
 |d+1,t,x,y,b,bk,ft,0,az,_,_,_=>by omega
 |d+1,t,x,y,b,bk,ft,D+1,az,h,ab,aU=>by
  unfold g1 at h
  cases hu:P.underlying t with
  |none=>rw[hu] at h;cases h
  |some u=>
   rw[hu] at h
   cases u<;>simp only at h
   case bool=>
    split at h<;>cases h
    cases ab;cases aU
    simp[Op.equalIn,bx hu]
   case int rr=>
    split at h
    · split at h
      · rename_i aq;cases h;subst aq;cases ab;cases aU
        simp[Op.equalIn,bx hu,cU]
      · cases h
    · cases h
   case string=>
    split at h<;>cases h
    obtain⟨s1,rfl,rfl⟩:=ab
    obtain⟨s2,rfl,rfl⟩:=aU
    rw[mN,<-p0,<-p0,<-beq_toListBytes]
    simp[Op.equalIn,bx hu]
   case pointer e=>
    split at h
    · cases h;cases ab;cases aU;simp[Op.equalIn,bx hu]
    · cases h;cases ab;obtain⟨i,_,rfl⟩:=aU;simp[Op.equalIn,bx hu]
    · cases h;cases aU;obtain⟨i,_,rfl⟩:=ab;simp[Op.equalIn,bx hu]
    · rename_i a i j0 j
      split at h
      · rename_i n hs
        obtain⟨tr,AR,rfl⟩:=ab
        obtain⟨h3,ya,rfl⟩:=aU
        have br:(_root_.Go.sizeOf e).run P w=.ok (n+1) w:=run_sizeOf hs
        have goal:∀r,(sameAddr ⟨tr.a5,tr.base+i,none⟩ ⟨h3.a5,h3.base+j,none⟩).run P w=r->(Op.equalIn (D+1) t (.pointer (some ⟨tr.a5,tr.base+i,none⟩)) (.pointer (some ⟨h3.a5,h3.base+j,none⟩))).run P w=r:=by
         intro r ai
         simp[Op.equalIn,bx hu,br,ai]
        unfold Aq at h
        split at h
        · rename_i ru
          cases h
          have:=Nat.eq_of_beq_eq_true ru
          subst this
          rw[AR] at ya;cases ya
          exact goal _ Mk
        · rename_i ru
          split at h
          · rename_i j1 p9
            cases h
            obtain⟨c1,_,_,bG,_,_,bF⟩:=ah.rel _ _ tr j1 AR
            obtain⟨c2,_,_,bq,_,_,bT⟩:=ah.rel _ _ h3 p9 ya
            obtain⟨_,_,rfl,rfl⟩:=bF
            obtain⟨_,_,rfl,rfl⟩:=bT
            refine goal _ (Ml bG bq λe=>?_)
            have:=ah.inj _ _ tr h3 (by rw[j1];simp) ⟨_,p9,rfl⟩ AR ya e
            subst this
            simp at ru
          · cases h
      · cases h
    · cases h
   case slice e=>
    have hz:∀(b off n:Nat) (c:cf) (v:Value),a1 μ (.slice b off n c) v->∃a m k,v=.slice (some a) m k:=by
     rintro b off n c v ⟨i,_,ag⟩
     cases c with
     |exact c=>cases ag;exact⟨_,_,_,rfl⟩
     |aN fA=>obtain⟨c,rfl,_⟩:=ag;exact⟨_,_,_,rfl⟩
     |dead=>obtain⟨_,a,c,rfl⟩:=ag;exact⟨_,_,_,rfl⟩
    split at h
    · cases h;cases ab;cases aU;simp[Op.equalIn,bx hu]
    · cases h;cases ab;obtain⟨a,m,k,rfl⟩:=hz _ _ _ _ _ aU;simp[Op.equalIn,bx hu]
    · cases h;cases aU;obtain⟨a,m,k,rfl⟩:=hz _ _ _ _ _ ab;simp[Op.equalIn,bx hu]
    · cases h
   case map k e=>
    split at h
    · cases h;cases ab;cases aU;simp[Op.equalIn,bx hu]
    · cases h;cases ab;obtain⟨i,_,rfl⟩:=aU;simp[Op.equalIn,bx hu]
    · cases h;cases aU;obtain⟨i,_,rfl⟩:=ab;simp[Op.equalIn,bx hu]
    · cases h
   case func ps rs v=>
    split at h
    · cases h;cases ab;cases aU;simp[Op.equalIn,bx hu]
    · cases h;cases ab;obtain⟨_,_,rfl,_⟩:=aU;simp[Op.equalIn,bx hu]
    · cases h;cases aU;obtain⟨_,_,rfl,_⟩:=ab;simp[Op.equalIn,bx hu]
    · cases h
   case interface ms=>
    split at h
    · cases h;cases ab;cases aU;simp[Op.equalIn,bx hu]
    · cases h;cases ab;obtain⟨_,rfl,_⟩:=aU;simp[Op.equalIn,bx hu]
    · cases h;cases aU;obtain⟨_,rfl,_⟩:=ab;simp[Op.equalIn,bx hu]
    · rename_i a v j0 u
      obtain⟨v1,rfl,r1⟩:=ab
      obtain⟨nK,rfl,r2⟩:=aU
      split at h
      · rename_i ru
        cases h
        have:a≠j0:=by intro e;subst e;simp at ru
        simp[Op.equalIn,bx hu,this]
      · rename_i ru
        have:=Nat.eq_of_beq_eq_true ru
        subst this
        split at h
        · rename_i Xb x6
          split at h
          · rename_i Mm
            have bg:=rq ah d a v u b v1 nK D (by omega) h r1 r2
            simp[Op.equalIn,bx hu,run_typeInfo x6,Mm,bg]
          · cases h
        · cases h
    · cases h
   case struct b2=>
    split at h
    · rename_i xs ys
      split at h
      · cases h
      · rename_i b5
        obtain⟨p6,rfl,gH⟩:=ab
        obtain⟨rp,rfl,j2⟩:=aU
        have key:=AQ (P:=P) w D (g1 P H d) (λt x y b bk ft he aa ad=>rq ah d t x y b bk ft D (by omega) he aa ad) gH j2 b2.toList b h
        have j3:P.fieldsOf t=b2:=by simp[Program.fieldsOf,hu]
        rw[run_equalIn_struct w D t _ _ (by rw[j3];exact hu) b5,j3]
        exact key
    · cases h
   case array n e=>
    split at h
    · rename_i xs ys
      split at h
      · rename_i sz br
        obtain⟨p6,rfl,gH⟩:=ab
        obtain⟨rp,rfl,j2⟩:=aU
        have ae:∃i,P.info? e=some i/\i.size=sz:=by
         unfold cV at br
         split at br
         · rename_i i ae;cases br;exact⟨i,ae,rfl⟩
         · cases br
        obtain⟨i,ae,Mn⟩:=ae
        have Mo:P.cellsOf e=sz:=by unfold Program.cellsOf;rw[ae];exact Mn
        rw[run_equalIn_array w D _ _ hu ae,Mo,List.range_eq_range']
        exact E8 w D (g1 P H d) (λt x y b bk ft he aa ad=>rq ah d t x y b bk ft D (by omega) he aa ad) gH j2 n 0 b h
      · cases h
    · cases h
   all_goals cases h
theorem E9{u:TypeDesc}{cI:TypeId}(hu:P.underlying cI=some u){k x:I}{kv bk:Value}{b:Bool}(aq:hq P cI k=true)(h:oC k x=some b)(aa:a1 μ k kv)(ad:a1 μ x bk):Instr.sameNow u kv bk=some b:=by
 unfold hq at aq
 rw[hu] at aq
 cases u<;>simp only at aq<;>try cases aq
 ·
  split at aq<;>try cases aq
  cases x<;>simp only[oC] at h<;>cases h
  cases aa;cases ad;rfl
 ·
  split at aq<;>try cases aq
  cases x<;>simp only[oC] at h<;>try cases h
  split at h
  · rename_i e;cases h;subst e;cases aa;cases ad;simp[Instr.sameNow,cU]
  · cases h
 · split at aq<;>try cases aq
   cases x<;>simp only[oC] at h<;>cases h
   obtain⟨s1,rfl,rfl⟩:=aa
   obtain⟨s2,rfl,rfl⟩:=ad
   simp only[Instr.sameNow]
   rw[mN,<-p0,<-p0,<-beq_toListBytes]
def yb(μ:a8):Option (Nat×I)->Option (Nat×Value)->Prop
 |none,none=>True
 |some (i,a),some (j,v)=>i=j/\a1 μ a v
 |_,_=>False
theorem E_{H:J}{cI:TypeId}{k x:I}(aq:∀cs,k≠ .agg cs):uZ P H cI k x=oC k x:=by
 cases k<;>first|rfl|exact absurd rfl (aq _)
theorem Fa{cI:TypeId}{k:I}(aq:∀cs,k≠ .agg cs)(h:nA P cI k=true):hq P cI k=true:=by
 cases k<;>first|exact h|exact absurd rfl (aq _)
theorem Fb{H:J}{u:TypeDesc}{cI:TypeId}(hu:P.underlying cI=some u){k:I}{kv:Value}(hs:∀cs,k≠ .agg cs)(aq:hq P cI k=true)(aa:a1 μ k kv):∀(es:List e1) (ents:List MapEntry) (i:Nat) (r:Option (Nat×I)),fb μ es ents->jA P H cI k es i=some r->
  ∃r',Instr.findNow u kv ents i=some r'/\yb μ r r'
 |[],_,i,r,he,h=>by
  cases he;simp[jA] at h;subst h
  exact⟨none,rfl,trivial⟩
 |e::es,_,i,r,⟨m,ms,aC,ax,bp⟩,h=>by
  subst aC
  simp only[jA,E_ hs] at h
  split at h
  · rename_i hs
    cases h
    exact⟨some (i,m.val),by simp[Instr.findNow,E9 hu aq hs aa ax.1],rfl,ax.2.1⟩
  · rename_i bh
    obtain⟨r',aR,a3⟩:=Fb hu hs aq aa es ms (i+1) r bp h
    exact⟨r',by simp[Instr.findNow,E9 hu aq bh aa ax.1,aR],a3⟩
  · cases h
theorem Fc(ah:bc μ H w){cI:TypeId}{cs:List I}{kv:Value}(aa:a1 μ (.agg cs) kv):∀(es:List e1) (ents:List MapEntry) (i:Nat) (r:Option (Nat×I)),fb μ es ents->jA P H cI (.agg cs) es i=some r->
  ∃r',(Instr.findAsking cI kv ents i).run P w=.ok r' w/\yb μ r r'
 |[],_,i,r,he,h=>by
  cases he;simp[jA] at h;subst h
  exact⟨none,rfl,trivial⟩
 |e::es,_,i,r,⟨m,ms,aC,ax,bp⟩,h=>by
  subst aC
  simp only[jA,uZ] at h
  split at h
  · rename_i hs
    cases h
    have:=rq (P:=P) ah 8 cI _ _ true kv m.key Op.maxDepth (by decide) hs aa ax.1
    exact⟨some (i,m.val),by simp[Instr.findAsking,Op.equal,this],rfl,ax.2.1⟩
  · rename_i hs
    have:=rq (P:=P) ah 8 cI _ _ false kv m.key Op.maxDepth (by decide) hs aa ax.1
    obtain⟨r',aR,a3⟩:=Fc ah aa es ms (i+1) r bp h
    exact⟨r',by simp[Instr.findAsking,Op.equal,this,aR],a3⟩
  · cases h
theorem AS{H:J}{cI:TypeId}{k:I}:∀(es:List e1) (i:Nat) (j:Nat) (v:I),jA P H cI k es i=some (some (j,v))->i<=j/\∃e,es[j-i]? =some e/\e.val=v/\uZ P H cI k e.key=some true
 |[],i,j,v,h=>by simp[jA] at h
 |e::es,i,j,v,h=>by
  simp only[jA] at h
  split at h
  · rename_i hs
    cases h;exact⟨Nat.le_refl _,e,by simp,rfl,hs⟩
  · obtain⟨aa,cx,ad,ar⟩:=AS es (i+1) j v h
    refine⟨by omega,cx,?_,ar⟩
    have:j-i=(j-(i+1))+1:=by omega
    rw[this];simpa using ad
  · cases h
theorem AT{cI:TypeId}{k:I}{kv:Value}(aq:hq P cI k=true)(b:Bool)(n:Nat):(Instr.checkKey b (n+1) cI kv).run P w=.ok () w:=by
 unfold hq at aq
 cases hu:P.underlying cI with
 |none=>rw[hu] at aq;cases aq
 |some u=>
  rw[hu] at aq
  cases u<;>simp only at aq<;>try cases aq
  all_goals simp[Instr.checkKey,bx hu]
theorem Fe(b:Bool){m n:Nat}(hm:m=n+1){cs:List I}{l:List Value}(an:bN μ cs l):∀(b2:List Field),xC P cs b2=true->
  (forIn b2 PUnit.unit (λf _=>if f.name≠ "_" then(do let x<-part f.type ⟨l⟩ f.offset;Instr.checkKey b m f.type x;pure (ForInStep.yield PUnit.unit)) else pure (ForInStep.yield PUnit.unit)):Sem PUnit).run P w=.ok PUnit.unit w
 |[],h=>by simp
 |f::b2,h=>by
  unfold xC at h
  split at h
  · rename_i a aX
    split at h
    · rename_i aq
      have bg:=Fe b hm an b2 h
      obtain⟨u,dy,dq⟩:=p1 (P:=P) (w:=w) an aX
      have ag:=AT (P:=P) (w:=w) (kv:=u) aq b n
      rw[<-hm] at ag
      rw[List.forIn_cons]
      by_cases aG:f.name= "_"
      · simp only[aG,ne_eq,not_true_eq_false,if_false,Sem.run_bind,Sem.run_pure,Result.andThen_ok]
        exact bg
      · simp only[ne_eq,aG,not_false_eq_true,if_true,Sem.run_bind,dy,Result.andThen_ok,ag,Sem.run_pure]
        exact bg
    · cases h
  · cases h
theorem Ff(b:Bool){m n:Nat}(hm:m=n+1){e:TypeId}{sz:Nat}(br:cV P e=some sz){cs:List I}{l:List Value}(an:bN μ cs l):∀(k i:Nat),xD P e sz cs k i=true->
  (forIn (List.range' i k) PUnit.unit (λi _=>do (Instr.checkKey b m e (<-part e ⟨l⟩ (i*(<-_root_.Go.sizeOf e))));pure (ForInStep.yield PUnit.unit)):Sem PUnit).run P w=.ok PUnit.unit w
 |0,i,h=>by simp
 |k+1,i,h=>by
  unfold xD at h
  split at h
  · rename_i a aX
    split at h
    · rename_i aq
      have bg:=Ff b hm br an k (i+1) h
      obtain⟨u,dy,dq⟩:=p1 (P:=P) (w:=w) an aX
      have ag:=AT (P:=P) (w:=w) (kv:=u) aq b n
      rw[<-hm] at ag
      rw[List.range'_succ,List.forIn_cons]
      simp only[Sem.run_bind,run_sizeOf br,dy,Result.andThen_ok,ag,Sem.run_pure]
      exact bg
    · cases h
  · cases h
theorem Mp{cI:TypeId}{cs:List I}{l:List Value}(an:bN μ cs l)(aq:nA P cI (.agg cs)=true)(b:Bool){m n:Nat}(hm:m=n+1):(Instr.checkKey b (m+1) cI (.agg ⟨l⟩)).run P w=.ok () w:=by
 unfold nA at aq
 simp only at aq
 split at aq
 · rename_i b2 hu
   have key:=Fe (P:=P) (w:=w) b hm an b2.toList aq
   simp only[Instr.checkKey,Sem.run_bind,bx hu,Result.andThen_ok]
   rw[<-Array.forIn_toList]
   first|exact key|exact Eq.trans (congrArg (λq=>Result.andThen q _) key) rfl|simpa using key
 · rename_i gR e hu
   split at aq
   · rename_i sz br
     have key:=Ff (P:=P) (w:=w) b hm br an gR 0 aq
     simp only[Instr.checkKey,Sem.run_bind,bx hu,Result.andThen_ok]
     simp only[Std.Legacy.Range.forIn_eq_forIn_range',Std.Legacy.Range.size,Nat.sub_zero,Nat.add_one_sub_one,Nat.div_one]
     first|exact key|exact Eq.trans (congrArg (λq=>Result.andThen q _) key) rfl|simpa using key
   · cases aq
 · cases aq
theorem nL{cI:TypeId}{k:I}{kv:Value}(aq:nA P cI k=true)(aa:a1 μ k kv)(b:Bool):(Instr.checkKey b 10000 cI kv).run P w=.ok () w:=by
 by_cases hs:∀cs,k≠ .agg cs
 · exact AT (Fa hs aq) b 9999
 · have:∃cs,k=.agg cs:=by
     cases k<;>first|exact⟨_,rfl⟩|exact absurd (λcs h=>by cases h) hs
   obtain⟨cs,rfl⟩:=this
   obtain⟨l,rfl,an⟩:=aa
   exact Mp an aq b (m:=9999) (n:=9998) rfl
theorem p_(ah:bc μ H w){cI:TypeId}{k:I}{kv:Value}(aq:nA P cI k=true)(aa:a1 μ k kv){es:List e1}{ents:List MapEntry}{r:Option (Nat×I)}(he:fb μ es ents)(h:jA P H cI k es 0=some r):
  ∃r',(Instr.findKey cI kv ents).run P w=.ok r' w/\yb μ r r':=by
 by_cases hs:∀cs,k≠ .agg cs
 · have eP:=Fa hs aq
   cases hu:P.underlying cI with
   |none=>unfold hq at eP;rw[hu] at eP;cases eP
   |some u=>
    obtain⟨r',aR,a3⟩:=Fb hu hs eP aa es ents 0 r he h
    exact⟨r',by simp[Instr.findKey,bx hu,aR],a3⟩
 · have:∃cs,k=.agg cs:=by
     cases k<;>first|exact⟨_,rfl⟩|exact absurd (λcs h=>by cases h) hs
   obtain⟨cs,rfl⟩:=this
   have hu:∃u,P.underlying cI=some u:=by
    unfold nA at aq
    simp only at aq
    split at aq
    · exact⟨_,by assumption⟩
    · exact⟨_,by assumption⟩
    · cases aq
   obtain⟨u,hu⟩:=hu
   obtain⟨r',aR,a3⟩:=Fc (P:=P) ah aa es ents 0 r he h
   obtain⟨l,rfl,an⟩:=aa
   refine⟨r',?_,a3⟩
   have aG:∀(ms:List MapEntry),ms≠[]->Instr.findNow u (.agg ⟨l⟩) ms 0=none:=λms AU=>by
    cases ms with
    |nil=>exact absurd rfl AU
    |cons m ms=>cases u<;>rfl
   cases ents with
   |nil=>
    cases es with
    |nil=>simp only[jA] at h;cases h;cases r' with
     |none=>simp[Instr.findKey,bx hu,Instr.findNow]
     |some y=>exact a3.elim
    |cons e es=>obtain⟨_,_,ag,_⟩:=he;cases ag
   |cons m ms=>
    simp only[Instr.findKey,Sem.run_bind,bx hu,Result.andThen_ok,aG (m::ms) (by simp)]
    exact aR
theorem fb.append:∀{es b2:List e1} {ms aW:List MapEntry},fb μ es ms->fb μ b2 aW->fb μ (es++b2) (ms++aW)
 |[],_,_,_,h,ak=>by cases h;exact ak
 |_::_,_,_,_,⟨m,ms,e,aa,ad⟩,ak=>by subst e;exact⟨m,ms++_,rfl,aa,fb.append ad ak⟩
theorem fb.get:∀{es:List e1} {ms:List MapEntry} (_:fb μ es ms) {j:Nat} {e:e1},es[j]? =some e->∃m,ms[j]? =some m/\tl μ e m
 |[],_,_,j,e,h=>by simp at h
 |x::es,_,⟨m,ms,e,aa,ad⟩,0,a,h=>by subst e;simp at h;subst h;exact⟨m,rfl,aa⟩
 |x::es,_,⟨m,ms,e,aa,ad⟩,j+1,a,h=>by subst e;simp at h;simpa using fb.get ad h
theorem fb.set{v key:I}{vv kv:Value}(aB:a1 μ v vv)(aq:a1 μ key kv):∀(i:Nat) {es:List e1} {ms:List MapEntry},fb μ es ms->fb μ (q9 v key i es) (ms.modify i λe=>{e with key:=kv,val:=vv})
 |0,[],_,h=>by cases h;rfl
 |_+1,[],_,h=>by cases h;rfl
 |0,e::es,_,⟨m,ms,cx,aa,ad⟩=>by subst cx;exact⟨_,ms,rfl,⟨aq,aB,aa.2.2⟩,ad⟩
 |i+1,e::es,_,⟨m,ms,cx,aa,ad⟩=>by subst cx;exact⟨m,_,rfl,aa,fb.set aB aq i ad⟩
theorem fb.del:∀(i:Nat) {es:List e1} {ms:List MapEntry},fb μ es ms->fb μ (Ar i es) (ms.eraseIdx i)
 |0,[],_,h=>by cases h;rfl
 |_+1,[],_,h=>by cases h;rfl
 |0,e::es,_,⟨m,ms,cx,aa,ad⟩=>by subst cx;exact ad
 |i+1,e::es,_,⟨m,ms,cx,aa,ad⟩=>by subst cx;exact⟨m,_,rfl,aa,fb.del i ad⟩
theorem vx{r:Nat}{i:dL}{es:List e1}{clock:Nat}(ah:bc μ H w)(ae:μ r=some i)(aj:H.get r=some (.map es clock)):∃ents,w.heap[i.a5]? =some (.map ⟨ents⟩ clock)/\fb μ es ents/\(getObj i.a5).run P w=.ok (.map ⟨ents⟩ clock) w:=by
 obtain⟨ents,aC,ax⟩:=ah.rel _ _ i aj ae
 exact⟨ents,aC,ax,by simp[getObj,Sem.run,aC]⟩
theorem rv{r:Nat}{i:dL}{es qa:List e1}{clock c':Nat}{ents ents':List MapEntry}(ah:bc μ H w)(ae:μ r=some i)(aj:H.get r=some (.map es clock))(he:w.heap[i.a5]? =some (.map ⟨ents⟩ clock))(ai:fb μ qa ents'):
  ∃w',(setObj i.a5 (.map ⟨ents'⟩ c')).run P w=.ok () w'/\bc μ (H.set r (some (.map qa c'))) w'/\bO μ H w μ (H.set r (some (.map qa c'))) w':=by
 have cj:i.a5<w.heap.size:=(ah.lt _ _ ae).2
 obtain⟨r1,r2⟩:=ah.update (w':={w with heap:=w.heap.setIfInBounds i.a5 (.map ⟨ents'⟩ c')}) (o':=.map qa c') aj rfl ae (by simp) (λr ai=>by simp[Array.getElem?_setIfInBounds];intro e;exact absurd e.symm ai) rfl rfl rfl
  ⟨ents',by simp[cj],ai⟩
 exact⟨_,by simp[setObj,Sem.run,he],r1,r2⟩
end
end aw
namespace aw
open Go
section
variable {P:Program} {μ:a8} {H:J} {w:World}
theorem Fg{hc:TypeId}{ok:Bool}{r:Option (Nat×I)}{r':Option (Nat×Value)}(ai:yb μ r r'){v:I}(h:u1 P hc ok r=some v):
  ∃u b,a1 μ v (if ok then .tuple #[u,.bool b] else u)/\((∃j,r'=some (j,u)/\b=true)\/(r'=none/\(zeroValue hc).run P w=.ok u w/\b=false)):=by
 cases r with
 |none=>
  cases r' with
  |some x=>exact ai.elim
  |none=>
   simp only[u1] at h
   split at h
   · rename_i z aT
     cases h
     obtain⟨eQ,aR,rfl,_⟩:=kz (P:=P) (w:=w) aT
     have:=iP μ eQ
     refine⟨eQ,false,?_,.inr ⟨rfl,aR,rfl⟩⟩
     cases ok
     · exact this
     · exact⟨_,rfl,_,_,rfl,this,_,_,rfl,rfl,rfl⟩
   · cases h
 |some x=>
  cases r' with
  |none=>exact ai.elim
  |some y=>
   obtain⟨i,a⟩:=x
   obtain⟨j,u⟩:=y
   obtain⟨rfl,tt⟩:=ai
   simp only[u1] at h
   cases h
   refine⟨u,true,?_,.inl ⟨_,rfl,rfl⟩⟩
   cases ok
   · exact tt
   · exact⟨_,rfl,_,_,rfl,tt,_,_,rfl,rfl,rfl⟩
theorem Mq(ah:bc μ H w){t:TypeId}{m k:I}{kD kv:Value}(hm:a1 μ m kD)(aq:a1 μ k kv){ok:Bool}{v:I}(h:xE P H t m k ok=some v):eC P μ H w (Instr.lookup t kD kv ok) v H:=by
 unfold xE at h
 split at h
 · rename_i cI hc hu
   split at h
   · rename_i hP
     split at h
     · cases hm
       obtain⟨u,b,aR,a3⟩:=Fg (P:=P) (w:=w) (μ:=μ) (r:=none) (r':=none) trivial h
       refine .same ah (v':=if ok then .tuple #[u,.bool b] else u) ?_ aR
       have hf:(Instr.findKey cI kv []).run P w=.ok none w:=by
        obtain⟨r',cY,dr⟩:=p_ (P:=P) (w:=w) (μ:=μ) (es:=[]) (ents:=[]) (r:=none) ah hP aq rfl rfl
        cases r' with
        |none=>exact cY
        |some x=>exact dr.elim
       rcases a3 with⟨j,e,_⟩|⟨_,a3,rfl⟩
       · cases e
       · simp[Instr.lookup,bx hu,nL hP aq,hf,a3]
     · rename_i r
       split at h
       · rename_i es clock aj
         split at h
         · rename_i cg hf
           obtain⟨i,ae,rfl⟩:=hm
           obtain⟨ents,aC,ax,bp⟩:=vx (P:=P) ah ae aj
           obtain⟨r',cY,dr⟩:=p_ (P:=P) (w:=w) ah hP aq ax hf
           obtain⟨u,b,aR,a3⟩:=Fg (P:=P) (w:=w) (μ:=μ) dr h
           refine .same ah (v':=if ok then .tuple #[u,.bool b] else u) ?_ aR
           rcases a3 with⟨j,rfl,rfl⟩|⟨rfl,a3,rfl⟩
           · simp[Instr.lookup,bx hu,nL hP aq,bp,cY]
           · simp[Instr.lookup,bx hu,nL hP aq,bp,cY,a3]
         · cases h
       · cases h
     · cases h
   · cases h
 · cases h
theorem Fh{k x:I}{kv bk:Value}(n:Nat)(h:oC k x=some true)(aa:a1 μ k kv)(ad:a1 μ x bk):Instr.sameBits n bk kv=true:=by
 cases k<;>cases x<;>simp only[oC] at h<;>try cases h
 · simp at h;subst h;cases aa;cases ad;simp[Instr.sameBits]
 · split at h
   · rename_i e;subst e
     simp[cU] at h;subst h;cases aa;cases ad;simp[Instr.sameBits]
   · cases h
 · simp only[Option.some.injEq] at h
   obtain⟨s1,rfl,rfl⟩:=aa
   obtain⟨s2,rfl,rfl⟩:=ad
   rw[mN,<-p0,<-p0,<-beq_toListBytes] at h
   have:(s2==s1)=true:=by rw[beq_toListBytes] at h⊢;rw[beq_iff_eq] at h⊢;exact h.symm
   simpa[Instr.sameBits] using this
theorem Fi(n:Nat):∀(a b:List I) (ry oP:List Value),uY a b=true->bN μ a ry->bN μ b oP->oP.length=ry.length/\(oP.zip ry).all (λ(x,y)=>Instr.sameBits n x y)=true
 |[],[],ry,oP,_,aa,ad=>by cases aa;cases ad;exact⟨rfl,rfl⟩
 |[],_::_,_,_,h,_,_=>by cases h
 |_::_,[],_,_,h,_,_=>by cases h
 |x::a,y::b,_,_,h,⟨u,us,rfl,nK,nM⟩,⟨v,vs,rfl,v1,v2⟩=>by
  unfold uY at h
  split at h
  · rename_i hs
    obtain⟨aC,ax⟩:=Fi n a b us vs h nM v2
    refine⟨by simp[aC],?_⟩
    rw[List.zip_cons_cons,List.all_cons,ax,Bool.and_true]
    exact Fh n hs nK v1
  · cases h
theorem Fj{cI:TypeId}{k x:I}{kv bk:Value}(h:uZ P H cI k x=some true)(b5:pM k x=true)(aa:a1 μ k kv)(ad:a1 μ x bk):Instr.sameBits 10000 bk kv=true:=by
 by_cases hs:∀cs,k≠ .agg cs
 · rw[E_ hs] at h
   exact Fh 10000 h aa ad
 · have:∃cs,k=.agg cs:=by
     cases k<;>first|exact⟨_,rfl⟩|exact absurd (λcs h=>by cases h) hs
   obtain⟨a,rfl⟩:=this
   have:∃b,x=.agg b:=by
    cases x<;>first|exact⟨_,rfl⟩|cases b5
   obtain⟨b,rfl⟩:=this
   obtain⟨ry,rfl,nM⟩:=aa
   obtain⟨oP,rfl,v2⟩:=ad
   have Mr:uY a b=true:=b5
   obtain⟨aC,ax⟩:=Fi (μ:=μ) 9999 a b ry oP Mr nM v2
   show Instr.sameBits (9999+1) (.agg ⟨oP⟩) (.agg ⟨ry⟩)=true
   generalize 9999=n at ax⊢
   simp only[Instr.sameBits]
   rw[ax,Bool.and_true]
   simp[aC]
theorem AV(l:List MapEntry)(i:Nat)(f:MapEntry->MapEntry):(⟨l⟩:Array MapEntry).modify i f=⟨l.modify i f⟩:=by
 apply Array.ext'
 simp
theorem Fk(ah:bc μ H w){t:TypeId}{m k x:I}{kD kv bk:Value}(hm:a1 μ m kD)(aq:a1 μ k kv)(ab:a1 μ x bk){aO:J}(h:te P H t m k x=some aO):
  ∃w',(Instr.mapUpdate t kD kv bk).run P w=.ok () w'/\bc μ aO w'/\bO μ H w μ aO w':=by
 unfold te at h
 split at h
 · rename_i cI hc hu
   split at h
   · rename_i hP
     split at h
     · rename_i r
       split at h
       · rename_i es clock aj
         obtain⟨i,ae,rfl⟩:=hm
         obtain⟨ents,aC,ax,bp⟩:=vx (P:=P) ah ae aj
         split at h
         · rename_i j a hf
           have rz:pM k (u0 j es)=true:=by
            cases ag:pM k (u0 j es) with
            |true=>rfl
            |false=>rw[ag] at h;cases h
           rw[rz] at h
           cases h
           obtain⟨r',cY,dr⟩:=p_ (P:=P) (w:=w) ah hP aq ax hf
           cases r' with
           |none=>exact dr.elim
           |some y=>
            obtain⟨ir,u⟩:=y
            obtain⟨rfl,tt⟩:=dr
            obtain⟨_,kE,aR,a3,ck⟩:=AS es 0 j a hf
            obtain⟨lb,dy,dq⟩:=ax.get (by simpa using aR)
            have rz:pM k kE.key=true:=by
             have:u0 j es=kE.key:=by unfold u0;rw[oK,show es[j]? =some kE by simpa using aR]
             rw[<-this];exact rz
            have b5:(Instr.keyThatStays (((ents[j]?).map (·.key)).getD kv) kv).run P w=.ok kv w:=by
             simp only[Instr.keyThatStays,dy,Option.map_some,Option.getD_some,Fj ck rz aq dq.1,if_true,Sem.run_pure]
            obtain⟨w',c7,fu,kF⟩:=rv (P:=P) (c':=clock) ah ae aj aC (ax.set ab aq j)
            refine⟨w',?_,fu,kF⟩
            simp only[Instr.mapUpdate,Sem.run_bind,bx hu,Result.andThen_ok,bp,nL hP aq,cY,List.getElem?_toArray,b5,AV,c7]
         · rename_i hf
           cases h
           obtain⟨r',cY,dr⟩:=p_ (P:=P) (w:=w) ah hP aq ax hf
           cases r' with
           |some y=>exact dr.elim
           |none=>
            obtain⟨w',c7,fu,kF⟩:=rv (P:=P) (c':=clock+1) (ents':=ents++[⟨kv,bk,clock⟩]) ah ae aj aC (ax.append (show fb μ [⟨k,x,clock⟩] [⟨kv,bk,clock⟩] from⟨_,_,rfl,⟨aq,ab,rfl⟩,rfl⟩))
            refine⟨w',?_,fu,kF⟩
            simp only[Instr.mapUpdate,Sem.run_bind,bx hu,Result.andThen_ok,bp,nL hP aq,cY,List.push_toArray,c7]
         · cases h
       · cases h
     · cases h
   · cases h
 · cases h
theorem Ms(ah:bc μ H w){t:TypeId}{m k:I}{kD kv:Value}(hm:a1 μ m kD)(aq:a1 μ k kv){v:I}{aO:J}(h:xF P H t m k=some (v,aO)):eC P μ H w (Instr.mapEntry t kD kv) v aO:=by
 unfold xF at h
 split at h
 · rename_i cI hc hu
   split at h
   · rename_i hP
     split at h
     · rename_i r
       split at h
       · rename_i es clock aj
         obtain⟨i,ae,rfl⟩:=hm
         obtain⟨ents,aC,ax,bp⟩:=vx (P:=P) ah ae aj
         split at h
         · rename_i j a hf
           split at h
           · rename_i kE oQ
             have rz:pM k kE.key=true:=by
              cases ag:pM k kE.key with
              |true=>rfl
              |false=>rw[ag] at h;cases h
             rw[rz] at h
             cases h
             rw[oK] at oQ
             obtain⟨r',cY,dr⟩:=p_ (P:=P) (w:=w) ah hP aq ax hf
             cases r' with
             |none=>exact dr.elim
             |some y=>
              obtain⟨ir,u⟩:=y
              obtain⟨rfl,tt⟩:=dr
              obtain⟨_,Fl,aR,a3,ck⟩:=AS es 0 j a hf
              have:Fl=kE:=by
               have Fm:es[j]? =some Fl:=by simpa using aR
               rw[oQ] at Fm;cases Fm;rfl
              subst this
              obtain⟨lb,dy,dq⟩:=ax.get oQ
              have b5:(Instr.keyThatStays (((ents[j]?).map (·.key)).getD kv) kv).run P w=.ok kv w:=by
               simp only[Instr.keyThatStays,dy,Option.map_some,Option.getD_some,Fj ck rz aq dq.1,if_true,Sem.run_pure]
              have AW:fb μ (q9 a k j es) (ents.modify j λe=>{e with key:=kv}):=by
               have hs:=ax.set (v:=a) (vv:=lb.val) (key:=k) (kv:=kv) (by rw[<-a3];exact dq.2.1) aq j
               have:(ents.modify j λe=>{e with key:=kv,val:=lb.val})=(ents.modify j λe=>{e with key:=kv}):=by
                apply List.ext_getElem?
                intro q
                rw[List.getElem?_modify,List.getElem?_modify]
                by_cases bh:j=q
                · subst bh;rw[dy];simp
                · simp[bh]
               rw[<-this];exact hs
              obtain⟨w',c7,fu,kF⟩:=rv (P:=P) (c':=clock) ah ae aj aC AW
              refine⟨μ,w',.tuple #[u,.int .i64 (lb.born:Int)],?_,⟨_,rfl,_,_,rfl,tt,_,_,rfl,by rw[dq.2.2];rfl,rfl⟩,fu,kF⟩
              rw[dy,Option.map_some,Option.getD_some] at b5
              simp only[Instr.mapEntry,Sem.run_bind,bx hu,Result.andThen_ok,bp,nL hP aq,cY,List.getElem?_toArray,dy,Option.map_some,Option.getD_some,b5,AV,c7,goInt,Sem.run_pure]
           · cases h
         · rename_i hf
           split at h
           · rename_i z aT
             cases h
             obtain⟨eQ,vy,rfl,_⟩:=kz (P:=P) (w:=w) aT
             obtain⟨r',cY,dr⟩:=p_ (P:=P) (w:=w) ah hP aq ax hf
             cases r' with
             |some y=>exact dr.elim
             |none=>
              obtain⟨w',c7,fu,kF⟩:=rv (P:=P) (c':=clock+1) (ents':=ents++[⟨kv,eQ,clock⟩]) ah ae aj aC (ax.append (show fb μ [⟨k,mD eQ,clock⟩] [⟨kv,eQ,clock⟩] from⟨_,_,rfl,⟨aq,iP μ eQ,rfl⟩,rfl⟩))
              refine⟨μ,w',.tuple #[eQ,.int .i64 (clock:Int)],?_,⟨_,rfl,_,_,rfl,iP μ eQ,_,_,rfl,rfl,rfl⟩,fu,kF⟩
              simp only[Instr.mapEntry,Sem.run_bind,bx hu,Result.andThen_ok,bp,nL hP aq,cY,vy,List.push_toArray,c7,goInt,Sem.run_pure]
           · cases h
         · cases h
       · cases h
     · cases h
   · cases h
 · cases h
theorem Fo{born:Int}:∀(es:List e1) (ents:List MapEntry) (i j:Nat) (e:e1),fb μ es ents->u2 born es i=some (j,e)->i<=j/\es[j-i]? =some e/\ents.findIdx? (λm=>(m.born:Int)==born)=some (j-i)
 |[],_,i,j,e,_,h=>by simp[u2] at h
 |x::es,_,i,j,e,⟨m,ms,aC,ax,bp⟩,h=>by
  subst aC
  simp only[u2] at h
  have af:cU (Int.ofNat x.born) born=((m.born:Int)==born):=by rw[ax.2.2];rfl
  split at h
  · rename_i hs
    cases h
    rw[af] at hs
    exact⟨Nat.le_refl _,by simp,by simp[List.findIdx?_cons,hs]⟩
  · rename_i hs
    rw[af] at hs
    obtain⟨aR,a3,ck⟩:=Fo es ms (i+1) j e bp h
    have:j-i=(j-(i+1))+1:=by omega
    refine⟨by omega,by rw[this];simpa using a3,?_⟩
    rw[this]
    simp[List.findIdx?_cons,hs,ck]
theorem Mt(ah:bc μ H w){t:TypeId}{m s x:I}{kD l1 bk:Value}(hm:a1 μ m kD)(hs:a1 μ s l1)(ab:a1 μ x bk){aO:J}(h:xG H m s x=some aO):
  ∃w',(Instr.entryStore t kD l1 bk).run P w=.ok () w'/\bc μ aO w'/\bO μ H w μ aO w':=by
 unfold xG at h
 split at h
 · rename_i r b3 born
   split at h
   · rename_i es clock aj
     split at h
     · rename_i j kE af
       cases h
       cases hs
       obtain⟨i,ae,rfl⟩:=hm
       obtain⟨ents,aC,ax,bp⟩:=vx (P:=P) ah ae aj
       obtain⟨_,aR,a3⟩:=Fo es ents 0 j kE ax af
       obtain⟨lb,dy,dq⟩:=ax.get (by simpa using aR)
       have AW:fb μ (q9 x kE.key j es) (ents.modify j λe=>{e with val:=bk}):=by
        have hs:=ax.set (v:=x) (vv:=bk) (key:=kE.key) (kv:=lb.key) ab dq.1 j
        have:(ents.modify j λe=>{e with key:=lb.key,val:=bk})=(ents.modify j λe=>{e with val:=bk}):=by
         apply List.ext_getElem?
         intro q
         rw[List.getElem?_modify,List.getElem?_modify]
         by_cases bh:j=q
         · subst bh;rw[dy];simp
         · simp[bh]
        rw[<-this];exact hs
       obtain⟨w',c7,fu,kF⟩:=rv (P:=P) (c':=clock) ah ae aj aC AW
       refine⟨w',?_,fu,kF⟩
       have vz:(⟨ents⟩:Array MapEntry).findIdx? (λe=>(e.born:Int)==born)=some j:=by
        have:=a3
        simp only[Nat.sub_zero] at this
        rw[<-this];simp
       simp only[Instr.entryStore,Sem.run_bind,Result.andThen_ok,bp,asInt,asIntOf,Sem.run_pure,vz,AV,c7]
     · cases h
   · cases h
 · cases h
theorem Mu(ah:bc μ H w){argTypes:Array TypeId}{ty t:TypeId}(h0:argTypes[0]? =some t){m k:I}{kD kv:Value}(hm:a1 μ m kD)(aq:a1 μ k kv){v:I}{aO:J}(h:xH P H t m k=some (v,aO)):
  eC P μ H w (Builtin.delete_ argTypes ty #[kD,kv]) v aO:=by
 unfold xH at h
 split at h
 · rename_i cI hc hu
   split at h
   · rename_i hP
     split at h
     · cases h;cases hm
       refine .same ah (v':=.tuple #[]) ?_ ⟨[],rfl,rfl⟩
       simp[Builtin.delete_,h0,bx hu,nL hP aq]
     · rename_i r
       split at h
       · rename_i es clock aj
         obtain⟨i,ae,rfl⟩:=hm
         obtain⟨ents,aC,ax,bp⟩:=vx (P:=P) ah ae aj
         split at h
         · rename_i j a hf
           cases h
           obtain⟨r',cY,dr⟩:=p_ (P:=P) (w:=w) ah hP aq ax hf
           cases r' with
           |none=>exact dr.elim
           |some y=>
            obtain⟨ir,u⟩:=y
            obtain⟨rfl,tt⟩:=dr
            obtain⟨w',c7,fu,kF⟩:=rv (P:=P) (c':=clock) ah ae aj aC (ax.del j)
            refine⟨μ,w',.tuple #[],?_,⟨[],rfl,rfl⟩,fu,kF⟩
            have he:(⟨ents⟩:Array MapEntry).eraseIdxIfInBounds j=⟨ents.eraseIdx j⟩:=by
             apply Array.ext'
             simp
            simp[Builtin.delete_,h0,bx hu,nL hP aq,bp,cY,he,c7]
         · rename_i hf
           cases h
           obtain⟨r',cY,dr⟩:=p_ (P:=P) (w:=w) ah hP aq ax hf
           cases r' with
           |some y=>exact dr.elim
           |none=>
            obtain⟨w',c7,fu,kF⟩:=rv (P:=P) (c':=clock) ah ae aj aC ax
            refine⟨μ,w',.tuple #[],?_,⟨[],rfl,rfl⟩,fu,kF⟩
            simp[Builtin.delete_,h0,bx hu,nL hP aq,bp,cY,c7]
         · cases h
       · cases h
     · cases h
   · cases h
 · cases h
theorem Mv(ah:bc μ H w){t:TypeId}:eC P μ H w (Instr.makeMap t none) (.map H.n) (H.push (.map [] 0)):=by
 obtain⟨r1,r2⟩:=ah.alloc (.map [] 0) (.map #[] 0) 0 ⟨[],World.heap_alloc_new _ _,rfl⟩
 exact⟨_,_,.map (some w.heap.size),rfl,⟨_,fs _ _ _,rfl⟩,r1,r2⟩
theorem Mw(ah:bc μ H w){t cI hc:TypeId}{k:IntKind}{n:Int}(hu:P.underlying t=some (.map cI hc)):eC P μ H w (Instr.makeMap t (some (.int k n))) (.map H.n) (H.push (.map [] 0)):=by
 obtain⟨r1,r2⟩:=ah.alloc (.map [] 0) (.map #[] 0) 0 ⟨[],World.heap_alloc_new _ _,rfl⟩
 refine⟨_,_,.map (some w.heap.size),?_,⟨_,fs _ _ _,rfl⟩,r1,r2⟩
 simp only[Instr.makeMap,Sem.run_bind,bx hu,Result.andThen_ok,asInt,asIntOf,Sem.run_pure,run_newObj]
 rfl
theorem Mx(ah:bc μ H w){t:TypeId}(hu:P.underlying t=some .string){s:List UInt8}{bk:Value}(ab:a1 μ (.str s) bk):eC P μ H w (Instr.range t bk) (.ptr H.n 0) (H.push (.nw s 0)):=by
 obtain⟨bs,rfl,rfl⟩:=ab
 obtain⟨r1,r2⟩:=ah.alloc (.nw bs.data.toList 0) (.stringIter bs 0) 0 ⟨rfl,bs,World.heap_alloc_new _ _,rfl⟩
 refine⟨_,_,.pointer (some ⟨w.heap.size,0,none⟩),?_,⟨_,fs _ _ _,rfl⟩,r1,r2⟩
 simp only[Instr.range,Sem.run_bind,bx hu,Result.andThen_ok,Sem.run_pure,run_newObj]
 rfl
theorem My(ah:bc μ H w){t cI hc:TypeId}(hu:P.underlying t=some (.map cI hc)){bk:Value}(ab:a1 μ .gm bk):eC P μ H w (Instr.range t bk) (.ptr H.n 0) (H.push (.mapIter none 0 [] 0)):=by
 cases ab
 obtain⟨r1,r2⟩:=ah.alloc (.mapIter none 0 [] 0) (.mapIter none 0 #[] 0) 0 ⟨rfl,World.heap_alloc_new _ _⟩
 refine⟨_,_,.pointer (some ⟨w.heap.size,0,none⟩),?_,⟨_,fs _ _ _,rfl⟩,r1,r2⟩
 simp only[Instr.range,Sem.run_bind,bx hu,Result.andThen_ok,Sem.run_pure,run_newObj]
 rfl
def Mz(at':Nat->Nat)(lt:Nat->Bool):Nat×Nat:=
 let cont (k:Nat):Bool:=lt k&&at' k/64==2
 let cp:=at' 0
 if cp<0x80 then(cp,1)
 else if cp/32==6&&cont 1 then
  let c:=(cp %32)*64+at' 1 %64
  if c>=0x80 then(c,2) else(Utf8.runeError,1)
 else if cp/16==14&&cont 1&&cont 2 then
  let c:=(cp %16)*4096+(at' 1 %64)*64+at' 2 %64
  if c>=0x800&&Utf8.valid c then(c,3) else(Utf8.runeError,1)
 else if cp/8==30&&cont 1&&cont 2&&cont 3 then
  let c:=(cp %8)*262144+(at' 1 %64)*4096+(at' 2 %64)*64+at' 3 %64
  if c>=0x10000&&Utf8.valid c then(c,4) else(Utf8.runeError,1)
 else(Utf8.runeError,1)
theorem Fp(s:ByteArray)(i:Nat):Utf8.decode s i=Mz (λk=>(s.get! (i+k)).toNat) (λk=>decide (i+k<s.size)):=rfl
theorem MA(full:ByteArray)(pos:Nat)(a6:pos<=full.size):Utf8.decode full pos=Utf8.decode ⟨(full.data.toList.drop pos).toArray⟩ 0:=by
 have j3:full.data.toList.length=full.size:=Array.length_toList
 have br:(⟨(full.data.toList.drop pos).toArray⟩:ByteArray).size=full.size-pos:=by
  show((full.data.toList.drop pos).toArray).size=_
  rw[List.size_toArray,List.length_drop,j3]
 have eV:∀k,full.get! (pos+k)=(⟨(full.data.toList.drop pos).toArray⟩:ByteArray).get! (0+k):=λk=>by
  show full.data[pos+k]! =((full.data.toList.drop pos).toArray)[0+k]!
  rw[Nat.zero_add]
  rw[getElem!_def,getElem!_def]
  have:((full.data.toList.drop pos).toArray)[k]? =full.data[pos+k]? :=by
   rw[List.getElem?_toArray,List.getElem?_drop,Array.getElem?_toList]
  rw[this]
 rw[Fp,Fp]
 have aX:(λk=>(full.get! (pos+k)).toNat)=(λk=>((⟨(full.data.toList.drop pos).toArray⟩:ByteArray).get! (0+k)).toNat):=by
  funext k;rw[eV k]
 have af:(λk=>decide (pos+k<full.size))=(λk=>decide (0+k<(⟨(full.data.toList.drop pos).toArray⟩:ByteArray).size)):=by
  funext k
  exact decide_eq_decide.2 (by rw[br];omega)
 rw[aX,af]
theorem MB(ah:bc μ H w){t:TypeId}{it:I}{vA:Value}(ae:a1 μ it vA){b:Bool}{v:I}{aO:J}(h:xI H it b=some (v,aO)):eC P μ H w (Instr.next vA b t) v aO:=by
 unfold xI at h
 split at h
 · rename_i r
   obtain⟨i,hy,rfl⟩:=ae
   split at h
   · rename_i s pos aj
     obtain⟨dt,full,aC,ax⟩:=ah.rel _ _ i aj hy
     obtain⟨h3,i0,yc⟩:=i
     simp only at dt;subst dt
     have eV:(getObj h3).run P w=.ok (.stringIter full pos) w:=by simp[getObj,Sem.run,aC]
     have j3:full.data.toList.length=full.size:=Array.length_toList
     have Fq:=congrArg List.length ax
     rw[List.length_drop,j3] at Fq
     split at h
     · cases h
       have aG:¬pos<full.size:=by simp at Fq;omega
       exact .same ah (v':=.tuple #[.bool false]) (by simp[Instr.next,eV,aG]) ⟨_,rfl,_,_,rfl,rfl,rfl⟩
     · rename_i df
       have cj:pos<full.size:=by
        rcases Nat.lt_or_ge pos full.size with h|h
        · exact h
        · exfalso;apply df
          exact List.length_eq_zero_iff.1 (by omega)
       have Fs:Utf8.decode full pos=As s:=by rw[MA full pos (by omega),ax];rfl
       generalize As s=MC at Fs h
       obtain⟨c,wd⟩:=MC
       cases h
       have MD:h3<w.heap.size:=(ah.lt _ _ hy).2
       obtain⟨r1,r2⟩:=ah.update (w':={w with heap:=w.heap.setIfInBounds h3 (.stringIter full (pos+wd))}) (o':=.nw (g0 wd s) (pos+wd)) aj rfl hy (by simp) (λr ai=>by simp[Array.getElem?_setIfInBounds];intro e;exact absurd e.symm ai) rfl rfl rfl
        ⟨rfl,full,by simp[MD],by rw[lW,<-ax,List.drop_drop]⟩
       refine⟨μ,_,.tuple #[.bool true,.int .i64 (pos:Int),.int .i32 (c:Int)],?_,⟨_,rfl,_,_,rfl,rfl,_,_,rfl,rfl,_,_,rfl,rfl,rfl⟩,r1,r2⟩
       have rA:(setObj h3 (.stringIter full (pos+wd))).run P w=.ok () {w with heap:=w.heap.setIfInBounds h3 (.stringIter full (pos+wd))}:=by simp[setObj,Sem.run,aC]
       simp[Instr.next,eV,cj,Fs,rA,goInt]
   · rename_i since seen last aj
     cases h
     obtain⟨dt,aC⟩:=ah.rel _ _ i aj hy
     obtain⟨h3,i0,yc⟩:=i
     simp only at dt;subst dt
     have rB:w.heap[h3]? =some (.mapIter none since ⟨seen⟩ last):=aC
     have eV:(getObj h3).run P w=.ok (.mapIter none since ⟨seen⟩ last) w:=by simp[getObj,Sem.run,rB]
     exact .same ah (v':=.tuple #[.bool false]) (by simp[Instr.next,eV]) ⟨_,rfl,_,_,rfl,rfl,rfl⟩
   · cases h
 · cases h
theorem Ft:∀(es:List e1) (ms:List MapEntry) (b:Nat) (e:e1),fb μ es ms->u3 b es=some e->∃m,ms.find? (λx=>x.born==b)=some m/\tl μ e m
 |[],ms,b,e,ai,h=>by simp[u3] at h
 |x::es,ms,b,e,ai,h=>by
  obtain⟨m,ME,rfl,aa,ad⟩:=ai
  unfold u3 at h
  rw[List.find?_cons,<-aa.2.2]
  cases af:Nat.beq x.born b with
  |true=>
   rw[af] at h
   cases h
   have:x.born=b:=Nat.eq_of_beq_eq_true af
   rw[this]
   simp only[beq_self_eq_true]
   exact⟨m,rfl,aa⟩
  |false=>
   rw[af] at h
   have:(x.born==b)=false:=by
    cases ag:x.born==b with
    |false=>rfl
    |true=>rw[beq_iff_eq.1 ag] at af;rw[Nat.beq_refl] at af;cases af
   rw[this]
   exact Ft es ME b e ad h
theorem Fu:∀(l:List Nat),xJ l=l.getLast?
 |[]=>rfl
 |[b]=>rfl
 |a::b::l=>by
  show xJ (b::l)=_
  rw[Fu (b::l),List.getLast?_cons_cons]
theorem MF(ah:bc μ H w){it:I}{vA:Value}(ae:a1 μ it vA){v:I}(h:xK H it=some v):eC P μ H w (Instr.entry vA) v H:=by
 unfold xK at h
 split at h
 · rename_i r
   obtain⟨i,hy,rfl⟩:=ae
   split at h
   · rename_i m since seen last aj
     obtain⟨dt,j,aD,aC⟩:=ah.rel _ _ i aj hy
     obtain⟨h3,i0,yc⟩:=i
     simp only at dt;subst dt
     have rB:w.heap[h3]? =some (.mapIter (some j.a5) since ⟨seen⟩ last):=aC
     split at h
     · rename_i es clock b AX MG
       obtain⟨ents,f1,f2⟩:=ah.rel _ _ j AX aD
       split at h
       · rename_i fj
         have fj:clock=last:=Nat.eq_of_beq_eq_true fj
         split at h
         · rename_i e MH
           cases h
           obtain⟨AY,al,au⟩:=Ft es ents b e f2 MH
           have eV:(getObj h3).run P w=.ok (.mapIter (some j.a5) since ⟨seen⟩ last) w:=by simp[getObj,Sem.run,rB]
           have MI:(getObj j.a5).run P w=.ok (.map ⟨ents⟩ clock) w:=by simp[getObj,Sem.run,f1]
           have MJ:(⟨seen⟩:Array Nat).back?=some b:=by
            rw[<-MG,Fu];simp
           have vB:(⟨ents⟩:Array MapEntry).find? (λx=>x.born==b)=some AY:=by rw[<-al];simp
           refine .same ah (v':=.tuple #[AY.key,AY.val]) ?_ ⟨_,rfl,_,_,rfl,au.1,_,_,rfl,au.2.1,rfl⟩
           have df:(clock !=last)=false:=by simp[fj]
           simp only[Instr.entry,Sem.run_bind,eV,Result.andThen_ok,MJ,MI,df,Bool.false_eq_true,if_false,vB]
           rfl
         · cases h
       · cases h
     · cases h
   · cases h
 · cases h
end
end aw
namespace aw
open Go
section
variable {P:Program} {μ:a8} {H:J} {w:World}
theorem MK(k:IntKind)(x y:Int){v:I}(h:arith .xor k x y=some v):∃u,(Op.intBits .xor k x y).run P w=.ok u w/\a1 μ v u:=by
 simp only[arith] at h;cases h;exact⟨_,rfl,rfl⟩
theorem ML{x:Value}{b:Bool}(ab:a1 μ (.bool b) x):∃u,(Op.unary .not x).run P w=.ok u w/\a1 μ (.bool (!b)) u:=by
 cases ab;exact⟨_,rfl,rfl⟩
theorem MM{x:Value}{k:IntKind}{n:Int}(ab:a1 μ (.int k n) x):∃u,(Op.unary .neg x).run P w=.ok u w/\a1 μ (.int k (k.wrap (0-n))) u:=by
 cases ab;exact⟨_,rfl,rfl⟩
theorem MN{x:Value}{k:IntKind}{n:Int}{v:I}(ab:a1 μ (.int k n) x)(h:arith .xor k (if k.signed then-1 else k.max) n=some v):∃u,(Op.unary .xor x).run P w=.ok u w/\a1 μ v u:=by
 cases ab;exact MK k _ n h
def rC:Value->Bool
 |.int _ _|.float _ _|.complex _ _ _|.string _=>true
 |_=>false
theorem binOp_eql(t:TypeId){x y:Value}(h:rC x=false):binOp .eql t x y=(do pure (.bool (<-Op.equal t x y))):=by
 cases x<;>simp[rC] at h<;>cases y<;>rfl
theorem binOp_neq(t:TypeId){x y:Value}(h:rC x=false):binOp .neq t x y=(do pure (.bool (!(<-Op.equal t x y)))):=by
 cases x<;>simp[rC] at h<;>cases y<;>rfl
theorem Fv:∀{d:Nat} {t:TypeId} {x y:I} {b:Bool} {bk:Value},g1 P H d t x y=some b->(∀j a k c,¬(x=.int j a/\y=.int k c))->(∀a c,¬(x=.str a/\y=.str c))->a1 μ x bk->rC bk=false:=by
 intro d t x y b bk h ae hs ab
 cases d with
 |zero=>simp[g1] at h
 |succ d=>
  cases x with
  |bad=>unfold g1 at h;split at h<;>simp at h
  |int j a=>
   unfold g1 at h
   split at h
   all_goals first
    |(cases y<;>simp at h;done)
    |(cases y<;>simp at h;exact absurd ⟨rfl,rfl⟩ (ae _ _ _ _))
    |cases h
  |str a=>
   unfold g1 at h
   split at h
   all_goals first
    |(cases y<;>simp at h;done)
    |(cases y<;>simp at h;exact absurd ⟨rfl,rfl⟩ (hs _ _))
    |cases h
  |bool b=>cases ab;rfl
  |bd=>cases ab;rfl
  |ptr b off=>obtain⟨i,_,rfl⟩:=ab;rfl
  |a0=>cases ab;rfl
  |slice b off n c=>
   obtain⟨i,_,ag⟩:=ab
   cases c with
   |exact c=>cases ag;rfl
   |aN fA=>obtain⟨c,rfl,_⟩:=ag;rfl
   |dead=>obtain⟨_,a,c,rfl⟩:=ag;rfl
  |gm=>cases ab;rfl
  |map r=>obtain⟨i,_,rfl⟩:=ab;rfl
  |eN=>cases ab;rfl
  |fn f a b=>obtain⟨_,_,rfl,_⟩:=ab;rfl
  |bQ l=>obtain⟨i,_,rfl⟩:=ab;rfl
  |dW=>cases ab;rfl
  |iface t x=>obtain⟨_,rfl,_⟩:=ab;rfl
  |agg cs=>obtain⟨_,rfl,_⟩:=ab;rfl
  |aK cs=>obtain⟨_,rfl,_⟩:=ab;rfl
theorem Fw{op:BinOp}(h:op≠ .eql)(ak:op≠ .neq)(t:TypeId)(jh ji:Operand)(a b:Value):(eqGuard op t jh ji a b).run P w=.ok () w:=by
 cases op<;>first|exact absurd rfl h|exact absurd rfl ak|simp[eqGuard]
def qb:Value->Nat
 |.nilIface=>1
 |.agg _=>2
 |_=>0
theorem AZ{op:BinOp}(fi:op=.eql\/op=.neq){t:TypeId}{jh ji:Operand}{a b:Value}(h:qb a=0\/qb a≠qb b):(eqGuard op t jh ji a b).run P w=.ok () w:=by
 rcases fi with rfl|rfl<;>(cases a<;>first|rfl|(cases b<;>first|rfl|simp[qb] at h))
def rD:I->Nat
 |.dW=>1
 |.agg _=>2
 |_=>0
theorem Fx{x:I}{a:Value}(ab:a1 μ x a)(af:x≠ .bad):qb a=rD x:=by
 cases x with
 |bad=>exact absurd rfl af
 |bool b=>cases ab;rfl
 |int k n=>cases ab;rfl
 |str s=>obtain⟨_,rfl,_⟩:=ab;rfl
 |bd=>cases ab;rfl
 |ptr b off=>obtain⟨i,_,rfl⟩:=ab;rfl
 |a0=>cases ab;rfl
 |slice b off n c=>
  obtain⟨i,_,ag⟩:=ab
  cases c with
  |exact c=>cases ag;rfl
  |aN fA=>obtain⟨c,rfl,_⟩:=ag;rfl
  |dead=>obtain⟨_,a,c,rfl⟩:=ag;rfl
 |gm=>cases ab;rfl
 |map r=>obtain⟨i,_,rfl⟩:=ab;rfl
 |eN=>cases ab;rfl
 |fn f a b=>obtain⟨_,_,rfl,_⟩:=ab;rfl
 |bQ l=>obtain⟨i,_,rfl⟩:=ab;rfl
 |dW=>cases ab;rfl
 |iface t x=>obtain⟨_,rfl,_⟩:=ab;rfl
 |agg cs=>obtain⟨_,rfl,_⟩:=ab;rfl
 |aK cs=>obtain⟨_,rfl,_⟩:=ab;rfl
theorem Fy{op:BinOp}(fi:op=.eql\/op=.neq){t:TypeId}{jh ji:Operand}{x y:I}{a b:Value}(ab:a1 μ x a)(aU:a1 μ y b)(Fz:x≠ .bad)(MO:y≠ .bad)(h:pL P t jh ji x y=true):
  (eqGuard op t jh ji a b).run P w=.ok () w:=by
 have FA:=Fx ab Fz
 have MP:=Fx aU MO
 by_cases ai:qb a=0\/qb a≠qb b
 · exact AZ fi ai
 · have aa:rD x≠0:=λe=>ai (.inl (FA.trans e))
   have ad:rD x=rD y:=by
    rw[<-FA,<-MP];exact Classical.byContradiction λe=>ai (.inr e)
   cases x<;>simp[rD] at aa
   · cases y<;>simp[rD] at ad
     cases ab;cases aU
     simp only[pL] at h
     rcases fi with rfl|rfl<;>(cases jh<;>cases ji<;>first|rfl|simp at h)
   · cases y<;>simp[rD] at ad
     obtain⟨bq,rfl,_⟩:=ab
     obtain⟨bT,rfl,_⟩:=aU
     simp only[pL,Bool.not_eq_true'] at h
     rcases fi with rfl|rfl<;>simp[eqGuard,h]
theorem FB{d:Nat}{t:TypeId}{x y:I}{b:Bool}(h:g1 P H d t x y=some b):x≠ .bad/\y≠ .bad:=by
 cases d with
 |zero=>simp[g1] at h
 |succ d=>
  constructor
  · rintro rfl;unfold g1 at h;split at h<;>simp at h
  · rintro rfl;unfold g1 at h;split at h<;>(try cases x)<;>simp at h
theorem MQ(ah:bc μ H w){op:BinOp}{t yt:TypeId}{jh ji:Operand}{x y v:I}{bk ft:Value}(ab:a1 μ x bk)(aU:a1 μ y ft)(h:dX P H op t jh ji x y=some v):
  ∃u,(do eqGuard op t jh ji bk ft;binOp op t bk ft:Sem Value).run P w=.ok u w/\a1 μ v u:=by
 unfold dX at h
 split at h
 · rename_i k a dH b
   cases ab;cases aU
   have aj:(eqGuard op t jh ji (.int k a) (.int dH b)).run P w=.ok () w:=by
    by_cases fi:op=.eql\/op=.neq
    · exact AZ fi (.inl rfl)
    · exact Fw (λe=>fi (.inl e)) (λe=>fi (.inr e)) t jh ji _ _
   simp only[Sem.run_bind,aj,Result.andThen_ok]
   split at h
   · exact EH h t
   · exact EH h t
   · rename_i aa ad
     split at h
     · rename_i aq;subst aq
       exact Lt h ⟨aa,ad⟩ t
     · cases h
 · rename_i a b
   obtain⟨s1,rfl,rfl⟩:=ab
   obtain⟨s2,rfl,rfl⟩:=aU
   have aj:(eqGuard op t jh ji (.string s1) (.string s2)).run P w=.ok () w:=by
    by_cases fi:op=.eql\/op=.neq
    · exact AZ fi (.inl rfl)
    · exact Fw (λe=>fi (.inl e)) (λe=>fi (.inr e)) t jh ji _ _
   simp only[Sem.run_bind,aj,Result.andThen_ok]
   exact Lv h t
 · rename_i dv nN
   split at h
   · split at h
     · rename_i du
       split at h
       · rename_i b he
         cases h
         obtain⟨a4,a_⟩:=FB he
         have aj:=Fy (w:=w) (op:=.eql) (.inl rfl) ab aU a4 a_ du
         have aG:rC bk=false:=Fv he (λj a k c e=>dv j a k c e.1 e.2) (λa c e=>nN a c e.1 e.2) ab
         have ai:=rq (P:=P) ah 100 t x y b bk ft Op.maxDepth (by decide) he ab aU
         refine⟨.bool b,?_,rfl⟩
         simp only[Sem.run_bind,aj,Result.andThen_ok,binOp_eql t aG,Op.equal,ai,Sem.run_pure]
       · cases h
     · cases h
   · split at h
     · rename_i du
       split at h
       · rename_i b he
         cases h
         obtain⟨a4,a_⟩:=FB he
         have aj:=Fy (w:=w) (op:=.neq) (.inr rfl) ab aU a4 a_ du
         have aG:rC bk=false:=Fv he (λj a k c e=>dv j a k c e.1 e.2) (λa c e=>nN a c e.1 e.2) ab
         have ai:=rq (P:=P) ah 100 t x y b bk ft Op.maxDepth (by decide) he ab aU
         refine⟨.bool (!b),?_,rfl⟩
         simp only[Sem.run_bind,aj,Result.andThen_ok,binOp_neq t aG,Op.equal,ai,Sem.run_pure]
       · cases h
     · cases h
   · cases h
theorem MR{t:TypeId}{d:TypeDesc}(hu:P.underlying t=some d)(dv:∀m,d≠ .interface m){x:I}{bk:Value}(ab:a1 μ x bk):
  (Instr.makeInterface t bk).run P w=.ok (.iface t bk) w:=by
 simp only[Instr.makeInterface,Sem.run_bind,bx hu,Result.andThen_ok]
 cases d<;>first|rfl|exact absurd rfl (dv _)
theorem FC{xT as:TypeId}{ok:Bool}{d:TypeDesc}(hu:P.underlying as=some d)(dv:∀m,d≠ .interface m){x:I}{bk:Value}(ab:a1 μ x bk):
  (∀z,x=.dW->ok=true->dN P as=some z->∃u,(Instr.typeAssert bk xT as ok).run P w=.ok u w/\a1 μ (.aK [z,.bool false]) u)/\
  (∀v,x=.iface as v->∃u,(Instr.typeAssert bk xT as ok).run P w=.ok u w/\a1 μ (if ok then .aK [v,.bool true] else v) u)/\
  (∀t v z,x=.iface t v->t≠as->ok=true->dN P as=some z->∃u,(Instr.typeAssert bk xT as ok).run P w=.ok u w/\a1 μ (.aK [z,.bool false]) u):=by
 refine⟨λz j4 du aT=>?_,λv j4=>?_,λt v z j4 df du aT=>?_⟩
 · subst j4;cases ab;subst du
   obtain⟨eQ,vy,rfl,_⟩:=kz (P:=P) (w:=w) aT
   refine⟨.tuple #[eQ,.bool false],?_,⟨_,rfl,_,_,rfl,iP μ eQ,_,_,rfl,rfl,rfl⟩⟩
   simp only[Instr.typeAssert,Sem.run_bind,bx hu,Result.andThen_ok]
   cases d<;>first|exact absurd rfl (dv _)|simp[vy]
 · subst j4;obtain⟨y,rfl,aU⟩:=ab
   refine⟨if ok then .tuple #[y,.bool true] else y,?_,?_⟩
   · simp only[Instr.typeAssert,Sem.run_bind,bx hu,Result.andThen_ok]
     cases d<;>first|exact absurd rfl (dv _)|simp
   · cases ok
     · exact aU
     · exact⟨_,rfl,_,_,rfl,aU,_,_,rfl,rfl,rfl⟩
 · subst j4;obtain⟨y,rfl,aU⟩:=ab;subst du
   obtain⟨eQ,vy,rfl,_⟩:=kz (P:=P) (w:=w) aT
   refine⟨.tuple #[eQ,.bool false],?_,⟨_,rfl,_,_,rfl,iP μ eQ,_,_,rfl,rfl,rfl⟩⟩
   simp only[Instr.typeAssert,Sem.run_bind,bx hu,Result.andThen_ok]
   cases d<;>first|exact absurd rfl (dv _)|simp[vy,df]
theorem MS{vs:List I}{x:Value}{i:Nat}{v:I}(ab:a1 μ (.aK vs) x)(h:nth i vs=some v):∃u,(Instr.extract x i).run P w=.ok u w/\a1 μ v u:=by
 obtain⟨l,rfl,an⟩:=ab
 rw[oK] at h
 obtain⟨u,hu,ai⟩:=an.get h
 refine⟨u,?_,ai⟩
 simp[Instr.extract,hu]
theorem FD{r el:Nat}{c:Array Value}{cg:Nat×Nat}(h:w.heap[r]? =some (.cells c el cg)):(viewAt r).run P w=.ok none w:=by
 simp[viewAt,World.shape?,h]
theorem MT(ah:bc μ H w){src dst u:TypeId}{b off n:Nat}{cs:List I}{el a9 ae:Nat}{k:fB}(hs:P.underlying src=some (.pointer u))(az:P.underlying dst=some .unsafePointer)
  (aT:cV P u=some (n+1))(aj:H.get b=some (.cells cs el k a9 ae))(cj:off<cs.length){x:Value}(ab:a1 μ (.ptr b off) x):(convert src dst x).run P w=.ok x w:=by
 obtain⟨i,ae,rfl⟩:=ab
 obtain⟨c,eS,eT,aC,ax,bp,ds⟩:=ah.rel _ _ i aj ae
 obtain⟨v,aB⟩:∃v,cs[off]? =some v:=⟨_,List.getElem?_eq_getElem cj⟩
 obtain⟨MU,hu,_⟩:=ax off v aB
 have cJ:i.base+off<c.size:=by
  rcases Nat.lt_or_ge (i.base+off) c.size with h|h
  · exact h
  · rw[Array.getElem?_eq_none h] at hu;cases hu
 have vm:(Conv.seenAt ⟨i.a5,i.base+off,none⟩).run P w=.ok ⟨i.a5,i.base+off,none⟩ w:=by
  simp[Conv.seenAt,FD aC]
 have FE:(cellsIn i.a5).run P w=.ok (some c.size) w:=by simp[cellsIn,World.shape?,aC]
 have rl:¬(c.size<=i.base+off):=by omega
 simp[convert,bx hs,bx az,Conv.unsafePointer,vm,FE,run_sizeOf aT,rl]
theorem MV(ah:bc μ H w){src dst u:TypeId}{b off n:Nat}{cs:List I}{el a9 ae:Nat}(hs:P.underlying src=some .unsafePointer)(az:P.underlying dst=some (.pointer u))
  (aT:cV P u=some (n+1))(aj:H.get b=some (.cells cs el .own a9 ae))(an:liesAt P P.depth el (cs.length/P.cellsOf el) off u 1=true){x:Value}(ab:a1 μ (.ptr b off) x):(convert src dst x).run P w=.ok x w:=by
 obtain⟨i,ae,rfl⟩:=ab
 obtain⟨c,eS,eT,aC,ax,bp,ds,hh,_⟩:=ah.rel _ _ i aj ae
 have ag:c.size=cs.length:=by omega
 have vm:(Conv.seenAt ⟨i.a5,i.base+off,none⟩).run P w=.ok ⟨i.a5,i.base+off,none⟩ w:=by
  simp[Conv.seenAt,FD aC]
 have A0:(variablesAt ⟨i.a5,i.base+off,none⟩ u 1).run P w=.ok true w:=by
  simp[variablesAt,World.shape?,aC,ds,ag,an]
 simp[convert,bx hs,bx az,Conv.unsafePointer,vm,run_sizeOf aT,A0]
end
end aw
namespace aw
open Go
section
variable {P:Program} {μ:a8} {H:J} {w:World}
theorem FF(ah:bc μ H w){b:Nat}{i:dL}(ae:μ b=some i){cs:List I}{el a9 dY:Nat}{k:fB}(aj:H.get b=some (.cells cs el k a9 dY)):
  ∀(n off:Nat) (r:List I) (bs:List UInt8) (acc:ByteArray),takeN n (g0 off cs)=some r->lQ r=some bs->
   (loadBytes ⟨i.a5,i.base+off,none⟩ acc n).run P w=.ok ⟨acc.data++bs.toArray⟩ w
 |0,off,r,bs,acc,h,af=>by
  simp only[takeN] at h;cases h
  simp only[lQ] at af;cases af
  simp[loadBytes]
 |n+1,off,r,bs,acc,h,af=>by
  rw[lW] at h
  cases az:cs.drop off with
  |nil=>rw[az] at h;simp[takeN] at h
  |cons a l=>
   rw[az] at h
   simp only[takeN] at h
   cases aQ:takeN n l with
   |none=>rw[aQ] at h;cases h
   |some r'=>
    rw[aQ] at h;cases h
    unfold lQ at af
    split at af
    · rename_i heq;cases heq
    · rename_i m h4 heq
      cases heq
      split at af
      · rename_i MW hm hK
        cases af
        have FG:cs[off]? =some (.int .u8 (Int.ofNat m)):=by
         have:=congrArg List.head? az
         simpa[List.head?_drop] using this
        have an:l=cs.drop (off+1):=by
         have:=congrArg List.tail az
         simpa[List.tail_drop] using this.symm
        obtain⟨u,aa,ad⟩:=Az (P:=P) (off:=off) ah ae (show ay H b off=some (.int .u8 (Int.ofNat m)) by simp[ay,aj,oK,FG])
        cases ad
        have bg:=FF ah ae aj n (off+1) r' MW (acc.push (UInt8.ofNat m)) (by rw[lW,<-an];exact aQ) hK
        have e:(⟨i.a5,i.base+off,none⟩:Addr).add 1=⟨i.a5,i.base+(off+1),none⟩:=by simp[Addr.add,Nat.add_assoc]
        simp only[loadBytes,Sem.run_bind,aa,Result.andThen_ok,e]
        refine Eq.trans ?_ (bg.trans ?_)
        · rfl
        · congr 1
          simp[ByteArray.ext_iff,ByteArray.push]
      · cases af
    · cases af
theorem A1{α:Type}(p:Option Addr)(l:Value)(f:Option Addr->Value->α)(g:Array Value->α):Builtin.unsafeString_.match_3 (λ_=>α) #[.pointer p,l] f g=f p l:=rfl
theorem MX(argTypes:Array TypeId)(ty pT:TypeId)(h0:argTypes[0]? =some pT)(k:IntKind)(m:Nat)(a:Addr)(u:TypeId)(hu:P.underlying pT=some (.pointer u))(oO:m≠0)(hm:m<=281474976710656)
  {s:ByteArray}(aB:(variablesAt a u m).run P w=.ok true w)(an:(loadBytes a .empty m).run P w=.ok s w):
  (Builtin.unsafeString_ argTypes ty #[.pointer (some a),.int k (m:Int)]).run P w=.ok (.string s) (w.freeze a m):=by
 have vC:¬((9223372036854775807:Int)<(m:Int)):=by omega
 have hi:IntKind.i64.max=9223372036854775807:=rfl
 have he:(elemOf pT).run P w=.ok u w:=by simp[elemOf,bx hu]
 have vD:¬((m:Int)<0):=by omega
 delta Builtin.unsafeString_
 rw[A1]
 simp[asInt,asIntOf,h0,hi,vC,oO,he,aB,an,vD]
theorem FH(argTypes:Array TypeId)(ty pT:TypeId)(h0:argTypes[0]? =some pT)(k:IntKind)(p:Option Addr):(Builtin.unsafeString_ argTypes ty #[.pointer p,.int k 0]).run P w=.ok (.string .empty) w:=by
 have hi:IntKind.i64.max=9223372036854775807:=rfl
 cases p with
 |none=>
  delta Builtin.unsafeString_
  rw[A1]
  simp[asInt,asIntOf,h0,hi]
 |some a=>
  delta Builtin.unsafeString_
  rw[A1]
  simp[asInt,asIntOf,h0,hi]
theorem yd:P.depth=(2*(P.types.size+Made.depth)+1)+1:=rfl
theorem MY{e u count off n:Nat}(aa:P.underlyingId e=P.underlyingId u)(hs:P.cellsOf e=1)(af:off+n<=count):liesAt P P.depth e count off u n=true:=by
 have an:sameLayout P P.depth e u=true:=by rw[yd];simp[sameLayout,aa]
 have ai:rowAt P (sameLayout P P.depth · u) P.depth e count off n=true:=by
  rw[yd]
  unfold rowAt
  simp only[hs,Nat.div_one,Nat.mod_one]
  rw[yd] at an
  simp[af,an]
 have:∀d,rowAt P (sameLayout P P.depth · u) P.depth e count off n=true->liesAt P (d+1) e count off u n=true:=λd h=>by
  unfold liesAt;rw[h];rfl
 conv=>lhs;arg 2;rw[yd]
 exact this _ ai
theorem MZ(ah:bc μ H w){argTypes:Array TypeId}{ty pT:TypeId}(h0:argTypes[0]? =some pT){p n v:I}{A2 A3:Value}(a6:a1 μ p A2)(aG:a1 μ n A3){aO:J}(h:oB P H pT p n=some (v,aO)):
  eC P μ H w (Builtin.unsafeString_ argTypes ty #[A2,A3]) v aO:=by
 unfold oB at h
 have FI:∀m,e2 n=some m->∃k,A3=.int k (m:Int):=by
  intro m hm
  unfold e2 at hm
  split at hm
  · cases hm;cases aG;exact⟨_,rfl⟩
  · cases hm
 split at h
 · rename_i aT
   cases h;cases a6
   obtain⟨k,rfl⟩:=FI 0 aT
   exact .same ah (v':=.string .empty) (FH argTypes ty pT h0 k none) ⟨.empty,rfl,rfl⟩
 · rename_i b off m hm
   obtain⟨k,rfl⟩:=FI m hm
   obtain⟨i,ae,rfl⟩:=a6
   split at h
   · rename_i aT
     cases h;subst aT
     exact .same ah (v':=.string .empty) (FH argTypes ty pT h0 k _) ⟨.empty,rfl,rfl⟩
   · rename_i oO
     split at h
     · rename_i u cs el b3 a9 dY hu aj
       split at h
       · rename_i ag
         simp only[Bool.and_eq_true,decide_eq_true_eq,Nat.ble_eq] at ag
         obtain⟨⟨⟨c1,c2⟩,c3⟩,c4⟩:=ag
         split at h
         · rename_i r ai
           split at h
           · rename_i bs af
             cases h
             obtain⟨c,eS,eT,aC,ax,bp,ds⟩:=ah.rel _ _ i aj ae
             have M0:=FF (P:=P) ah ae aj m off r bs .empty ai af
             have hlen:off+m<=cs.length:=by
              rw[lW] at ai
              have:=(ri m _ _ ai).1
              rw[List.length_drop] at this
              omega
             have xZ:0<m:=Nat.pos_of_ne_zero oO
             have cJ:i.base+off+m<=c.size:=by
              obtain⟨x,ab⟩:∃x,cs[off+m-1]? =some x:=⟨_,List.getElem?_eq_getElem (by omega)⟩
              obtain⟨MU,k_,_⟩:=ax _ x ab
              rcases Nat.lt_or_ge (i.base+(off+m-1)) c.size with h|h
              · omega
              · rw[Array.getElem?_eq_none h] at k_;cases k_
             have FJ:P.cellsOf el=1:=by
              unfold cV at c2
              unfold Program.cellsOf
              cases dY:P.info? el with
              |none=>rw[dY] at c2;cases c2
              |some ii=>rw[dY] at c2;simpa using c2
             have A0:(variablesAt ⟨i.a5,i.base+off,none⟩ u m).run P w=.ok true w:=by
              have an:=MY (P:=P) (e:=el) (u:=u) (count:=c.size/P.cellsOf el) (off:=i.base+off) (n:=m) c1 FJ (by rw[FJ];simpa using cJ)
              simp[variablesAt,World.shape?,aC,an]
             have eo:=MX (P:=P) (w:=w) argTypes ty pT h0 k m _ u hu oO c3 A0 M0
             have M1:∃cg:Nat×Nat,w.freeze ⟨i.a5,i.base+off,none⟩ m={w with heap:=w.heap.modify i.a5 λ
               |.cells c elem (a9,ae)=>.cells c elem (if a9==ae then(i.base+off,i.base+off+m) else(min a9 (i.base+off),max ae (i.base+off+m)))
               |o=>o}/\(w.freeze ⟨i.a5,i.base+off,none⟩ m).heap[i.a5]? =some (.cells c el cg):=by
              have:w.freeze ⟨i.a5,i.base+off,none⟩ m={w with heap:=w.heap.modify i.a5 λ
               |.cells c elem (a9,ae)=>.cells c elem (if a9==ae then(i.base+off,i.base+off+m) else(min a9 (i.base+off),max ae (i.base+off+m)))
               |o=>o}:=by simp[World.freeze,oO];rfl
              refine⟨if eS==eT then(i.base+off,i.base+off+m) else(min eS (i.base+off),max eT (i.base+off+m)),this,?_⟩
              rw[this]
              simp[Array.getElem?_modify,aC]
             obtain⟨⟨f1,f2⟩,aR,a3⟩:=M1
             have gn:(ca.cells cs el b3 a9 dY).lV=false:=by cases b3<;>first|rfl|exact absurd rfl c4
             obtain⟨r1,r2⟩:=ah.update (w':=w.freeze ⟨i.a5,i.base+off,none⟩ m) (o':=.cells cs el .fz a9 dY) aj gn ae (by rw[aR];simp) (λr ai=>by rw[aR];simp[Array.getElem?_modify];intro e;exact absurd e.symm ai) (by rw[aR]) (by rw[aR]) (by rw[aR])
              ⟨c,f1,f2,a3,ax,bp,trivial⟩ (hdr:=by rw[aR];exact Nat.le_refl _)
             exact⟨μ,_,.string _,eo,⟨_,rfl,by simp⟩,r1,r2⟩
           · cases h
         · cases h
       · cases h
     · cases h
 · cases h
theorem M3{argTypes:Array TypeId}{ty:TypeId}{x:I}{bk:Value}(ab:a1 μ x bk):
  (x=.a0->(Builtin.unsafeSliceData_ argTypes ty #[bk]).run P w=.ok (.pointer none) w)/\
  (∀b off n c,x=.slice b off n (.exact c)->c≠0->∃u,(Builtin.unsafeSliceData_ argTypes ty #[bk]).run P w=.ok u w/\a1 μ (.ptr b off) u)/\
  (∀b off n e,x=.slice b off n (.aN e)->n≠0->∃u,(Builtin.unsafeSliceData_ argTypes ty #[bk]).run P w=.ok u w/\a1 μ (.ptr b off) u):=by
 have key:∀(a:Addr) (n c:Nat),c≠0->(Builtin.unsafeSliceData_ argTypes ty #[.slice (some a) n c]).run P w=.ok (.pointer (some a)) w:=λa n c ag=>by
  obtain⟨k,rfl⟩:∃k,c=k+1:=⟨c-1,by omega⟩
  rfl
 refine⟨λh=>?_,λb off n c h ag=>?_,λb off n e h aG=>?_⟩
 · subst h;cases ab;rfl
 · subst h;obtain⟨i,ae,nE⟩:=ab;cases nE
   exact⟨_,key _ n c ag,i,ae,rfl⟩
 · subst h;obtain⟨i,ae,c,rfl,hle,_⟩:=ab
   exact⟨_,key _ n c (by omega),i,ae,rfl⟩
theorem FK{kG:Value}{first aF:List I}{g:Nat}{args:List I}{vs:List Value}(hf:a1 μ (.fn g first aF) kG)(aX:bN μ args vs):
  ∃b2 cs:List Value,(do let d<-Deferred.ofValue kG ⟨vs⟩;invoke d.target d.args:Sem Next).run P w=(callFunc g ⟨b2++vs++cs⟩).run P w/\bN μ (first++args++aF) (b2++vs++cs)/\
   (Deferred.ofValue kG ⟨vs⟩).run P w=.ok {target:=.fn (.func g) ⟨cs⟩,args:=⟨b2++vs⟩} w:=by
 obtain⟨b2,cs,rfl,aa,ad⟩:=hf
 refine⟨b2,cs,?_,(aa.append aX).append ad,?_⟩
 · simp[Deferred.ofValue,invoke]
 · simp[Deferred.ofValue]
theorem M4{l:Nat}{kG:Value}{vs:List Value}(hf:a1 μ (.bQ l) kG):
  ∃i,μ l=some i/\(do let d<-Deferred.ofValue kG ⟨vs⟩;invoke d.target d.args:Sem Next).run P w=(Instr.yield i.a5 ⟨vs⟩).run P w:=by
 obtain⟨i,ae,rfl⟩:=hf
 exact⟨i,ae,by simp[Deferred.ofValue,invoke]⟩
theorem M5{t:TypeId}{name:String}{f:Nat}(h:xL P t name=some f)(v:Value)(n:Nat):(method (n+1) t v name).run P w=.ok (f,v) w:=by
 unfold xL at h
 split at h
 · rename_i i ae
   split at h
   · rename_i m hm
     have hf:∀q,m.path.isEmpty=q->m.path.isEmpty=q:=λ_ h=>h
     split at h
     all_goals first
      |(cases h;done)
      |(rename_i a6 l4 hu
        cases h
        have M6:m.path.toList=[]:=by simpa using a6
        simp[method,run_typeInfo ae,hm,M6,follow,l4,receiverAt,bx hu,Place.get]
        done)
   · cases h
 · cases h
end
end aw
namespace aw
open Go
def h5(P:Program)(μ:a8)(H:J)(w:World)(s:Sem Next):gg->Prop
 |.val v aO=>∃aH w' u,(s.run P w=.ok (.value u) w'\/(u=undef/\s.run P w=.ok .skip w'))/\a1 aH v u/\bc aH aO w'/\bO μ H w aH aO w'
 |.bK v aO=>aO=H/\∃u,s.run P w=.halt (.panic u) w/\a1 μ v u
 |.call f args aO=>aO=H/\∃vs:List Value,s.run P w=(callFunc f ⟨vs⟩).run P w/\bN μ args vs
 |.bQ l args aO=>aO=H/\∃i,∃vs:List Value,μ l=some i/\s.run P w=(Instr.yield i.a5 ⟨vs⟩).run P w/\bN μ args vs
 |.iI d=>∃oR,s.run P w=.ok (.defer oR) w/\rf μ d oR
 |.q8=>s.run P w=.ok .recover w
 |.fail _=>True
section
variable {P:Program} {μ:a8} {H:J} {w:World}
theorem h5.h6{s:Sem Value}{v:I}{aO:J}(h:eC P μ H w s v aO):h5 P μ H w (do pure (.value (<-s))) (.val v aO):=by
 obtain⟨aH,w',u,aa,ad,ar,aM⟩:=h
 exact⟨aH,w',u,.inl (by simp[aa]),ad,ar,aM⟩
theorem h5.of_same(ah:bc μ H w){s:Sem Value}{v:I}(h:∃u,s.run P w=.ok u w/\a1 μ v u):h5 P μ H w (do pure (.value (<-s))) (.val v H):=by
 obtain⟨u,aa,ad⟩:=h
 exact⟨μ,w,u,.inl (by simp[aa]),ad,ah,bO.refl _ _ _⟩
theorem h5.ye(ah:bc μ H w){u:Value}{v:I}(h:a1 μ v u){s:Sem Next}(hs:s.run P w=.ok (.value u) w):h5 P μ H w s (.val v H):=
 ⟨μ,w,u,.inl hs,h,ah,bO.refl _ _ _⟩
theorem h5.M7{s:Sem Unit}{aO:J}(h:∃w',s.run P w=.ok () w'/\bc μ aO w'/\bO μ H w μ aO w'):h5 P μ H w (do s;pure .skip) (.val (.aK []) aO):=by
 obtain⟨w',aa,ar,aM⟩:=h
 exact⟨μ,w',undef,.inr ⟨rfl,by simp[aa]⟩,⟨[],rfl,rfl⟩,ar,aM⟩
theorem vE(ah:bc μ H w){s:Sem Value}{o:Option I}{hI:String}(h:∀v,o=some v->∃u,s.run P w=.ok u w/\a1 μ v u):h5 P μ H w (do pure (.value (<-s))) (e3 H hI o):=by
 cases o with
 |none=>trivial
 |some v=>exact .of_same ah (h v rfl)
theorem qc{s:Sem Value}{o:Option I}{hI:String}(h:∀v,o=some v->eC P μ H w s v H):h5 P μ H w (do pure (.value (<-s))) (e3 H hI o):=by
 cases o with
 |none=>trivial
 |some v=>exact .h6 (h v rfl)
theorem rE{s:Sem Value}{o:Option (I×J)}{hI:String}(h:∀v aO,o=some (v,aO)->eC P μ H w s v aO):h5 P μ H w (do pure (.value (<-s))) (jT hI o):=by
 cases o with
 |none=>trivial
 |some p=>exact .h6 (h p.1 p.2 rfl)
theorem yf{s:Sem Unit}{o:Option J}{hI:String}(h:∀aO,o=some aO->∃w',s.run P w=.ok () w'/\bc μ aO w'/\bO μ H w μ aO w'):h5 P μ H w (do s;pure .skip) (oD hI o):=by
 cases o with
 |none=>trivial
 |some aO=>exact .M7 (h aO rfl)
theorem qd{a:I}{n:Nat}{v:Value}(h:e2 a=some n)(aB:a1 μ a v):∃k,v=.int k (n:Int):=by
 unfold e2 at h
 split at h
 · cases h;cases aB;exact⟨_,rfl⟩
 · cases h
theorem FL(ah:bc μ H w){f:I}{kG:Value}{args:List I}{vs:List Value}(hf:a1 μ f kG)(aX:bN μ args vs):
  h5 P μ H w (do let d<-Deferred.ofValue kG ⟨vs⟩;invoke d.target d.args) (q_ f args H):=by
 unfold q_
 split
 · obtain⟨b2,cs,aa,ad,_⟩:=FK (P:=P) (w:=w) hf aX
   exact⟨rfl,_,aa,ad⟩
 · obtain⟨i,aa,ad⟩:=M4 (P:=P) (w:=w) (vs:=vs) hf
   exact⟨rfl,i,vs,aa,ad,aX⟩
 · trivial
theorem M8(ah:bc μ H w){b:Builtin}{ats:Array TypeId}{ty:TypeId}{consts:Array Bool}{vs:List I}{us:List Value}(aB:bN μ vs us):
  h5 P μ H w (builtin b ats ty consts ⟨us⟩) (hg P b ats vs H):=by
 unfold hg
 split
 · rfl
 · cases vs with
   |nil=>trivial
   |cons x l=>
    obtain⟨bk,c6,rfl,aa,ad⟩:=aB
    refine vE ah λv h=>?_
    obtain⟨u,aR,a3⟩:=AO (P:=P) (w:=w) hp Builtin.min2 (λ_ _ _ _ _ h ab aU=>Me h ab aU) l x bk c6 v aa ad h
    exact⟨u,by simpa[Builtin.min_] using aR,a3⟩
 · cases vs with
   |nil=>trivial
   |cons x l=>
    obtain⟨bk,c6,rfl,aa,ad⟩:=aB
    refine vE ah λv h=>?_
    obtain⟨u,aR,a3⟩:=AO (P:=P) (w:=w) uX Builtin.max2 (λ_ _ _ _ _ h ab aU=>Mf h ab aU) l x bk c6 v aa ad h
    exact⟨u,by simpa[Builtin.max_] using aR,a3⟩
 · split
   · rename_i t x h0
     obtain⟨bk,c6,rfl,aa,ad⟩:=aB
     cases ad
     split
     · exact qc λv h=>Mc ah h0 aa h
     · exact qc λv h=>Md ah h0 aa h
     · exact rE λv aO h=>Ma ah h0 aa h
     · obtain⟨s1,s2,bI⟩:=M3 (P:=P) (w:=w) (argTypes:=ats) (ty:=ty) aa
       split
       · exact .of_same ah ⟨_,s1 rfl,rfl⟩
       · split
         · trivial
         · rename_i ag;exact .of_same ah (s2 _ _ _ _ rfl ag)
       · split
         · trivial
         · rename_i ag;exact .of_same ah (bI _ _ _ _ rfl ag)
       · trivial
     · trivial
   · rename_i t x y h0
     obtain⟨bk,c6,rfl,aa,ft,E5,rfl,ad,ar⟩:=aB
     cases ar
     split
     · exact rE λv aO h=>L4 ah h0 aa ad h
     · exact rE λv aO h=>L_ ah h0 aa ad h
     · exact rE λv aO h=>Mu ah h0 aa ad h
     · exact rE λv aO h=>MZ ah h0 aa ad h
     · trivial
   · trivial
theorem M9(ah:bc μ H w){src dst:TypeId}{x:I}{bk:Value}(ab:a1 μ x bk):
  h5 P μ H w (do pure (.value (<-convert src dst bk))) (fp P src dst x H):=by
 unfold fp
 split
 · rename_i rr k bG n hs az
   cases ab
   exact .of_same ah ⟨.int k (k.wrap n),by simp[convert,bx hs,bx az,Conv.intToInt],rfl⟩
 · rename_i rr bG n hs az
   cases ab
   exact .of_same ah ⟨.string (Utf8.encode n),by simp[convert,bx hs,bx az,Conv.intToString],_,rfl,rfl⟩
 · rename_i s hs az
   obtain⟨t,rfl,rfl⟩:=ab
   exact .of_same ah ⟨.string t,by simp[convert,bx hs,bx az],_,rfl,rfl⟩
 · rename_i e s hs az
   obtain⟨t,rfl,rfl⟩:=ab
   split
   · rename_i he
     refine .h6 ?_
     have b5:=Mh (P:=P) ah (e:=e) (bs:=t)
     obtain⟨aH,w',u,aa,ad,ar,aM⟩:=b5
     exact⟨aH,w',u,by simp[convert,bx hs,bx az,bx he,aa],ad,ar,aM⟩
   · trivial
 · rename_i e hs az
   have key:P.underlying e=some (.int .u8)->∀a n c,(convert src dst (.slice a n c)).run P w=(Conv.bytesToString (.slice a n c)).run P w:=by
    intro he a n c
    simp[convert,bx hs,bx az,bx he]
   split
   · rename_i he
     cases ab
     refine .of_same ah ⟨.string .empty,?_,.empty,rfl,rfl⟩
     rw[key he];rfl
   · rename_i b off n he
     split
     · rename_i aG
       subst aG
       obtain⟨i,_,_,a,c,rfl⟩:=ab
       refine .of_same ah ⟨.string .empty,?_,.empty,rfl,rfl⟩
       rw[key he];rfl
     · trivial
   · rename_i b off n c AN he
     split
     · rename_i cs an
       split
       · rename_i bs af
         obtain⟨aH,w',u,aa,ad,ar,aM⟩:=Mg (P:=P) ah (by intro e;subst e;exact AN rfl) ab an af
         refine .h6 ⟨aH,w',u,?_,ad,ar,aM⟩
         have nI:∃a m k,bk=.slice a m k:=by
          obtain⟨i,_,ag⟩:=ab
          cases c with
          |exact c=>cases ag;exact⟨_,_,_,rfl⟩
          |aN fA=>obtain⟨c,rfl,_⟩:=ag;exact⟨_,_,_,rfl⟩
          |dead=>obtain⟨_,a,c,rfl⟩:=ag;exact⟨_,_,_,rfl⟩
         obtain⟨a,m,k,rfl⟩:=nI
         rw[key he];exact aa
       · trivial
     · trivial
   · trivial
 · rename_i u b off hs az
   split
   · rename_i cs el k a9 ae n aj aT
     split
     · rename_i cj
       exact .of_same ah ⟨bk,MT ah hs az aT aj (by simpa using cj) ab,ab⟩
     · trivial
   · trivial
 · rename_i u b off hs az
   split
   · rename_i cs el a9 ae n aj aT
     split
     · rename_i ag
       exact .of_same ah ⟨bk,MV ah hs az aT aj ag ab,ab⟩
     · trivial
   · trivial
 · trivial
end
end aw
namespace aw
open Go
section
variable {P:Program} {μ:a8} {H:J} {w:World}
theorem FM(ah:bc μ H w){c a b:Operand}{g:Operand->I}{b7:Operand->Value}(aj:∀x,a1 μ (g x) (b7 x)){dh:Bool}(ag:g c=.bool dh):
  h5 P μ H w (do pure (.value (if<-asBool (b7 c) then b7 a else b7 b))) (.val (if dh then g a else g b) H):=by
 have aa:=aj c
 rw[ag] at aa
 refine .ye ah (u:=if dh then b7 a else b7 b) ?_ ?_
 · cases dh
   · exact aj b
   · exact aj a
 · have:b7 c=.bool dh:=aa
   simp[this,asBool]
theorem yg{g:Operand->I}{b7:Operand->Value}(aj:∀x,a1 μ (g x) (b7 x))(args:Array Operand):bN μ (args.toList.map g) (args.map b7).toList:=by
 rw[Array.toList_map];exact bN.map g b7 aj _
theorem M_(ah:bc μ H w){g:Operand->I}{b7:Operand->Value}(aj:∀x,a1 μ (g x) (b7 x))(o:Oper)(x:Operand)(a2:o.op=.nilCheck x):h5 P μ H w (execOp b7 o) (match g x with
  |.ptr b o=>.val (.ptr b o) H
  |.slice b o n c=>.val (.slice b o n c) H
  |.fn f a b=>.val (.fn f a b) H
  |.iface t v=>.val (.iface t v) H
  |_=>.fail "nilCheck"):=by
 have aa:=aj x
 have e:∀(v:I),g x=v->((∃b o,v=.ptr b o)\/(∃b o n c,v=.slice b o n c)\/(∃f a b,v=.fn f a b)\/∃t y,v=.iface t y)->h5 P μ H w (execOp b7 o) (.val v H):=by
  intro v aB hs
  have ad:=aa
  rw[aB] at ad
  exact .ye ah ad (Lp ad hs o x b7 rfl a2)
 split
 · rename_i b o ab;exact e _ ab (.inl ⟨_,_,rfl⟩)
 · rename_i b o n c ab;exact e _ ab (.inr (.inl ⟨_,_,_,_,rfl⟩))
 · rename_i f a b ab;exact e _ ab (.inr (.inr (.inl ⟨_,_,_,rfl⟩)))
 · rename_i t v ab;exact e _ ab (.inr (.inr (.inr ⟨_,_,rfl⟩)))
 · trivial
theorem Na(ah:bc μ H w){g:Operand->I}{b7:Operand->Value}(aj:∀x,a1 μ (g x) (b7 x))(c:Call)(type:TypeId):h5 P μ H w (do let d<-resolve b7 c type;invoke d.target d.args) (match c.callee with
  |.value f=>q_ (g f) (c.args.toList.map g) H
  |.invoke r name=>match g r with
   |.iface t v=>match xL P t name with
    |some f=>.call f (v::c.args.toList.map g) H
    |none=>.fail ("invoke " ++name)
   |_=>.fail ("invoke " ++name)
  |.builtin b=>hg P b c.argTypes (c.args.toList.map g) H):=by
 have aX:=yg (μ:=μ) aj c.args
 cases ag:c.callee with
 |value f=>
  simp only[resolve,ag]
  exact FL ah (aj f) aX
 |invoke r name=>
  simp only[]
  split
  · rename_i t v ai
    split
    · rename_i f hm
      have aa:=aj r
      rw[ai] at aa
      obtain⟨y,aU,aB⟩:=aa
      refine⟨rfl,y::(c.args.map b7).toList,?_,⟨_,_,rfl,aB,aX⟩⟩
      have Xc:0<Made.depth:=by decide
      obtain⟨n,aG⟩:∃n,P.types.size+Made.depth=n+1:=⟨P.types.size+Made.depth-1,by omega⟩
      have Nb:=M5 (P:=P) (w:=w) hm y n
      have h0:(#[b7 r]++c.args.map b7)[0]? =some (b7 r):=by rw[Array.getElem?_append_left (by simp)];rfl
      have ad:(#[b7 r]++c.args.map b7).extract 1 (#[b7 r]++c.args.map b7).size=c.args.map b7:=by
       apply Array.ext'
       simp only[Array.toList_extract,Array.toList_append,Array.toList_map,List.cons_append,List.nil_append,List.extract_eq_take_drop]
       rw[List.take_of_length_le]
       · rfl
       · simp
      have ar:(#[y]++c.args.map b7:Array Value)=⟨y::(c.args.map b7).toList⟩:=by apply Array.ext';simp
      rw[aU] at h0 ad
      simp only[resolve,ag,Sem.run_bind,Sem.run_pure,Result.andThen_ok,invoke,aU,h0,ad,callMethod,run_program,aG,Nb,ar]
    · trivial
  · trivial
 |builtin b=>
  have af:=M8 (P:=P) (b:=b) (ats:=c.argTypes) (ty:=type) (consts:=c.args.map λ|.const _=>true|_=>false) ah aX
  have he:(do let d<-resolve b7 c type;invoke d.target d.args:Sem Next)=builtin b c.argTypes type (c.args.map λ|.const _=>true|_=>false) (c.args.map b7):=by
   simp only[resolve,ag];rfl
  rw[he];exact af
set_option maxHeartbeats 4000000 in
theorem Nc(ah:bc μ H w)(o:Oper){g:Operand->I}{b7:Operand->Value}(aj:∀x,a1 μ (g x) (b7 x)):h5 P μ H w (execOp b7 o) (ch P o g H):=by
 obtain⟨dst,op,type,pos,after,guard⟩:=o
 cases op<;>simp only[ch,execOp]
 case move x=>exact .ye ah (aj x) rfl
 case assign x=>exact .ye ah (aj x) rfl
 case pick c a b=>
  split
  · rename_i ag;exact FM ah aj ag
  · rename_i ag;exact FM ah aj ag
  · trivial
 case alloc e=>
  split
  · rename_i z aT
    split
    · rename_i b ak ai;exact .h6 (Lc ah aT ai)
    · trivial
  · trivial
 case box e x=>
  split
  · rename_i b ak ai;exact .h6 (Ld ah (aj x) ai)
  · trivial
 case build t parts=>
  split
  · rename_i z aT
    split
    · rename_i b2 hu
      split
      · rename_i cs eO hf;exact .h6 (Lk ah g b7 aj aT hu eO parts hf)
      · trivial
    · rename_i n e hu
      split
      · rename_i sz hs
        split
        · rename_i cs hf;exact .h6 (Lm ah g b7 aj aT hu hs parts hf)
        · trivial
      · trivial
    · trivial
  · trivial
 case buildSlice t len parts=>
  split
  · rename_i e hu
    split
    · rename_i sz z hs aT
      split
      · rename_i cs ag hf
        rw[Bool.and_eq_true,Nat.ble_eq,Nat.beq_eq] at ag
        split
        · rename_i b ak ai;exact .h6 (Ln ah g b7 aj hu hs aT ag.1 ag.2 parts hf ai)
        · trivial
      · trivial
    · trivial
  · trivial
 case insert t m k v=>exact yf λaO h=>Fk ah (aj m) (aj k) (aj v) h
 case load t a=>
  split
  · rename_i b off aX
    have aa:=aj a
    rw[aX] at aa
    obtain⟨bq,bT⟩:=Le (P:=P) ah (t:=t) aa
    split
    · rename_i n A4 aG
      split
      · rename_i cs an;exact .h6 (bq n cs A4 aG an)
      · trivial
    · rename_i A4
      exact qc λv h=>bT v A4 h
    · trivial
  · trivial
 case store t a v=>
  split
  · rename_i b off aX
    have aa:=aj a
    rw[aX] at aa
    split
    · trivial
    · rename_i n aG Nd
      split
      · rename_i an
        exact yf λaO h=>Lf ah aa (aj v) Nd aG (by simpa using an) h
      · trivial
    · trivial
  · trivial
 case ready=>trivial
 case waits=>trivial
 case nilCheck x=>exact M_ ah aj ⟨dst,.nilCheck x,type,pos,after,guard⟩ x rfl
 case binOp op t x y yt=>exact vE ah λv h=>MQ ah (yt:=yt) (aj x) (aj y) h
 case unOp op t x=>
  have aa:=aj x
  split
  · rename_i b ab;rw[ab] at aa;exact .of_same ah (ML aa)
  · rename_i k n ab;rw[ab] at aa;exact .of_same ah (MM aa)
  · rename_i k n ab;rw[ab] at aa;exact vE ah λv h=>MN aa h
  · trivial
 case convert src Xd x=>exact M9 ah (aj x)
 case sliceToArrayPointer=>trivial
 case makeInterface t x=>
  split
  · trivial
  · rename_i d dv hu
    refine .of_same ah ⟨.iface t (b7 x),MR hu (λm e=>dv m (e▸rfl)) (aj x),_,rfl,aj x⟩
  · trivial
 case makeFunc fn first aF=>
  split
  · rename_i f
    exact .of_same ah ⟨.func (.func f) (first.map b7) (aF.map b7),rfl,_,_,rfl,yg aj first,yg aj aF⟩
  · trivial
 case makeMap t r=>
  cases r with
  |none=>exact .h6 (Mv ah)
  |some x=>
   simp only[]
   split
   · rename_i cI hc k n hu ab
     have aa:=aj x
     rw[ab] at aa
     have ad:b7 x=.int k n:=aa
     rw[Option.map_some,ad]
     exact .h6 (Mw ah hu)
   · trivial
 case makeChan=>trivial
 case makeSlice t l c=>
  split
  · rename_i e h4 c' hu an ag
    obtain⟨kl,el⟩:=qd an (aj l)
    obtain⟨kc,vF⟩:=qd ag (aj c)
    split
    · rename_i i z ae aT
      split
      · rename_i jl
        rw[Bool.and_eq_true,Bool.and_eq_true,Nat.ble_eq,Nat.beq_eq,decide_eq_true_eq] at jl
        split
        · rename_i b ak ai
          rw[el,vF]
          exact .h6 (Lo ah hu ae aT jl.1.1 jl.1.2 jl.2 ai)
        · trivial
      · trivial
    · trivial
  · trivial
 case slice t x a9 ae mx=>
  exact qc λv h=>LA ah (aj x) (lZ.map g b7 aj a9) (lZ.map g b7 aj ae) (lZ.map g b7 aj mx) h
 case fieldAddr s x f=>
  split
  · rename_i b2 b off hu ab
    have aa:=aj x
    rw[ab] at aa
    split
    · rename_i fd hf
      split
      · trivial
      · rename_i n vp aG
        exact .h6 (LD ah hu hf aG (λe=>vp e) aa)
      · trivial
    · trivial
  · trivial
 case field t x f=>
  split
  · rename_i b2 cs hu ab
    have aa:=aj x
    rw[ab] at aa
    split
    · rename_i fd hf
      exact qc λv h=>LC ah hu hf aa h
    · trivial
  · trivial
 case indexAddr t x i=>
  split
  · rename_i n e b off k hu ab ae
    have aa:=aj x
    rw[ab] at aa
    obtain⟨b3,rF⟩:=qd ae (aj i)
    split
    · rename_i sz hs
      split
      · rename_i aq;rw[rF];exact .h6 (LG ah hu hs aa aq)
      · trivial
    · trivial
  · rename_i e b off n c k hu ab ae
    have aa:=aj x
    rw[ab] at aa
    obtain⟨b3,rF⟩:=qd ae (aj i)
    split
    · rename_i sz hs
      split
      · rename_i aq;rw[rF];exact .h6 (LF ah hu hs aa aq)
      · trivial
    · trivial
  · trivial
 case index t x i=>
  split
  · rename_i n e cs k hu ab ae
    have aa:=aj x
    rw[ab] at aa
    obtain⟨b3,rF⟩:=qd ae (aj i)
    split
    · rename_i sz hs
      split
      · rename_i aq;rw[rF];exact qc λv h=>LH ah hu hs aa aq h
      · trivial
    · trivial
  · rename_i s k hu ab ae
    have aa:=aj x
    rw[ab] at aa
    obtain⟨b3,rF⟩:=qd ae (aj i)
    split
    · rename_i c ag;rw[rF];exact .h6 (LI ah hu aa ag)
    · trivial
  · trivial
 case lookup t x i ok=>exact qc λv h=>Mq ah (aj x) (aj i) h
 case mapUpdate t m k v=>exact yf λaO h=>Fk ah (aj m) (aj k) (aj v) h
 case mapEntry t m k=>exact rE λv aO h=>Ms ah (aj m) (aj k) h
 case entryStore t m s v=>exact yf λaO h=>Mt ah (aj m) (aj s) (aj v) h
 case range t x=>
  split
  · rename_i s hu ab
    have aa:=aj x
    rw[ab] at aa
    exact .h6 (Mx ah hu aa)
  · rename_i cI hc hu ab
    have aa:=aj x
    rw[ab] at aa
    exact .h6 (My ah hu aa)
  · rename_i cI hc m hu ab
    have aa:=aj x
    rw[ab] at aa
    split
    · rename_i es c AX
      obtain⟨i,ae,aB⟩:=aa
      obtain⟨ents,aC,ax⟩:=ah.rel _ _ i AX ae
      obtain⟨r1,r2⟩:=ah.alloc (.mapIter (some m) c [] c) (.mapIter (some i.a5) c #[] c) 0 ⟨rfl,i,ah.mK _ _ _ ae,World.heap_alloc_new _ _⟩
      refine .h6 ⟨_,_,.pointer (some ⟨w.heap.size,0,none⟩),?_,⟨_,fs _ _ _,rfl⟩,r1,r2⟩
      have gi:(getObj i.a5).run P w=.ok (.map ⟨ents⟩ c) w:=by simp[getObj,Sem.run,aC]
      rw[aB]
      simp only[Instr.range,Sem.run_bind,bx hu,Result.andThen_ok,gi,Sem.run_pure,run_newObj]
      rfl
    · trivial
  · trivial
 case next it isStr=>exact rE λv aO h=>MB ah (aj it) h
 case entry it=>exact qc λv h=>MF ah (aj it) h
 case typeAssert x xT as ok=>
  have aa:=aj x
  split
  · trivial
  · rename_i d dv hu ab
    obtain⟨t1,_,_⟩:=FC (P:=P) (w:=w) (xT:=xT) (ok:=ok) hu (λm e=>dv m (e▸rfl)) aa
    split
    · rename_i du
      split
      · rename_i z aT;exact .of_same ah (t1 z ab du aT)
      · trivial
    · trivial
  · rename_i d t v dv hu ab
    obtain⟨_,t2,t3⟩:=FC (P:=P) (w:=w) (xT:=xT) (ok:=ok) hu (λm e=>dv m (e▸rfl)) aa
    split
    · rename_i he;subst he;exact .of_same ah (t2 v ab)
    · rename_i df
      split
      · rename_i du
        split
        · rename_i z aT;exact .of_same ah (t3 t v z ab df du aT)
        · trivial
      · trivial
  · trivial
 case extract t i=>
  have aa:=aj t
  split
  · rename_i vs ab
    rw[ab] at aa
    exact vE ah λv h=>MS aa h
  · trivial
 case call c=>exact Na ah aj c type
 case go=>trivial
 case defer c=>
  split
  · rename_i f hf
    split
    · rename_i k first aF ab
      have aa:=aj f
      rw[ab] at aa
      obtain⟨b2,cs,_,ar,aM⟩:=FK (P:=P) (w:=w) aa (yg aj c.args)
      refine⟨_,?_,.call k _ cs _ ar⟩
      simp only[resolve,hf,Sem.run_bind]
      have A5:(Deferred.ofValue (b7 f) (c.args.map b7)).run P w=.ok {target:=.fn (.func k) ⟨cs⟩,args:=⟨b2++(c.args.map b7).toList⟩} w:=aM
      rw[A5];rfl
    · trivial
  · trivial
 case panic x=>
  have aa:=aj x
  split
  · rename_i t v ab
    rw[ab] at aa
    obtain⟨y,aU,aB⟩:=aa
    refine⟨rfl,.iface t y,?_,⟨y,rfl,aB⟩⟩
    rw[aU];rfl
  · trivial
 all_goals trivial
end
end aw
namespace aw
open Go
section
variable {P:Program} {μ:a8} {w:World}
def qe(P:Program)(μ:a8)(w:World)(s:Sem Value)(e:TypeId)(cs:List I)(val:Addr->Value):Prop:=
 ∃us:List Value,bN μ cs us/\s.run P w=.ok (val ⟨w.heap.size,0,none⟩) (w.alloc (.cells ⟨us⟩ e))
theorem FN(el:TypeId)(us:List Value):(_root_.Go.newRow el ⟨us⟩).run P w=.ok ⟨w.heap.size,0,none⟩ (w.alloc (.cells ⟨us⟩ el)):=by simp[_root_.Go.newRow]
theorem Nf{e:TypeId}{z:I}(aT:dN P e=some z):qe P μ w (Instr.alloc e true (.tuple #[])) e z.cells (λa=>.pointer (some a)):=by
 obtain⟨v,aB,rfl,af⟩:=kz (w:=w) aT
 refine⟨v.cells.toList,(iP μ v).cells af,?_⟩
 simp[Instr.alloc,aB,newVar,_root_.Go.newRow]
theorem Ng{e:TypeId}{x:I}{v:Value}(aB:a1 μ x v)(af:x≠ .bad):qe P μ w (Instr.box e v) e x.cells (λa=>.pointer (some a)):=by
 refine⟨v.cells.toList,aB.cells af,?_⟩
 simp[Instr.box,newVar,_root_.Go.newRow]
theorem Nh(g:Operand->I)(b7:Operand->Value)(aj:∀x,a1 μ (g x) (b7 x)){t e:TypeId}{len sz:Nat}{z:I}(hu:P.underlying t=some (.slice e))(hs:cV P e=some sz)
  (aT:dN P e=some z)(hle:len*sz<=16777216)(mM:z.cells.length=sz)(parts:Array (Nat×Operand)){cs:List I}
  (hf:iq (λi=>some (i*sz,sz)) (if len*sz=0 then[] else ej len z.cells) (parts.toList.map λp=>(p.1,g p.2))=some cs):
  qe P μ w (Instr.buildSlice t len (parts.map λ(i,x)=>(i,b7 x))) e cs (λa=>.slice (some a) len len):=by
 obtain⟨v,aB,rfl,af⟩:=kz (w:=w) aT
 have ag:=(iP μ v).cells af
 have rj:¬(len*sz>2^24):=by omega
 have key:∀zero:Array Value,bN μ (if len*sz=0 then[] else ej len (mD v).cells) ((Array.range (len*sz)).map (λi=>zero[i %zero.size]!)).toList->
   (∀r:Result Value,r=(match Instr.fill (λi=>some (i*sz,sz)) ((Array.range (len*sz)).map (λi=>zero[i %zero.size]!)) (parts.toList.map λp=>(p.1,b7 p.2)) with
    |some cells=>do pure (.slice (some (<-_root_.Go.newRow e cells)) len len)
    |none=>stuck "buildSlice: a part of the wrong size" :Sem Value).run P w->(Instr.buildSlice t len (parts.map λ(i,x)=>(i,b7 x))).run P w=r)->
   qe P μ w (Instr.buildSlice t len (parts.map λ(i,x)=>(i,b7 x))) e cs (λa=>.slice (some a) len len):=by
  intro zero oL eo
  obtain⟨c',aa,ad⟩:=vg _ g b7 aj parts.toList _ cs _ oL hf
  refine⟨c',ad,eo _ ?_⟩
  rw[aa]
  simp[FN]
 by_cases h0:len*sz=0
 · refine key #[] (by rw[if_pos h0,h0];simp[bN]) λr ai=>?_
   rw[ai]
   simp only[Instr.buildSlice,Sem.run_bind,bx hu,Result.andThen_ok,run_sizeOf hs,if_neg rj,if_pos h0,Sem.run_pure,Array.toList_map]
   generalize Instr.fill _ _ _=F
   cases F<;>rfl
 · refine key v.cells (by rw[if_neg h0];exact vj ag mM len) λr ai=>?_
   rw[ai]
   simp only[Instr.buildSlice,Sem.run_bind,bx hu,Result.andThen_ok,run_sizeOf hs,if_neg rj,if_neg h0,Sem.run_pure,Array.toList_map,aB]
   generalize Instr.fill _ _ _=F
   cases F<;>rfl
theorem Ni{t e:TypeId}{l c:Nat}{i:TypeInfo}{z:I}{kl kc:IntKind}(hu:P.underlying t=some (.slice e))(ae:P.info? e=some i)(aT:dN P e=some z)(pZ:l<=c)
  (tp:c*(i.bytes+1)<=1099511627776)(mM:z.cells.length=i.size):
  qe P μ w (Instr.makeSlice t (.int kl l) (.int kc c)) e (if c*i.size=0 then[] else ej c z.cells) (λa=>.slice (some a) l c):=by
 obtain⟨v,aB,rfl,af⟩:=kz (w:=w) aT
 have ag:=(iP μ v).cells af
 have AA:c<=1099511627776:=Nat.le_trans (Nat.le_mul_of_pos_right c (by omega)) tp
 have jC:i.bytes*c<=1099511627776:=by
  have:c*i.bytes<=c*(i.bytes+1):=Nat.mul_le_mul_left c (by omega)
  rw[Nat.mul_comm];omega
 have vk:∀n:Nat,n<=1099511627776->IntKind.wrap .i64 (n:Int)=(n:Int):=λn aG=>rk n (by omega)
 have jD:=vk l (by omega)
 have vl:=vk c AA
 have rl:¬((c:Int)<0||(i.bytes:Int)*(c:Int)>2^48||(l:Int)<0||(l:Int)>(c:Int))=true:=by
  have aa:((i.bytes:Int)*(c:Int))<=1099511627776:=by
   have h0:((i.bytes*c:Nat):Int)<=1099511627776:=by omega
   rw[Int.natCast_mul] at h0;exact h0
  have ad:(2:Int)^48=281474976710656:=by rfl
  generalize (i.bytes:Int)*(c:Int)=q at aa⊢
  rw[ad]
  simp only[Bool.or_eq_true,decide_eq_true_eq]
  omega
 have key:∀zero:Array Value,bN μ (if c*i.size=0 then[] else ej c (mD v).cells) ((Array.range (c*i.size)).map (λj=>zero[j %zero.size]!)).toList->
   (Instr.makeSlice t (.int kl l) (.int kc c)).run P w=(do let a<-_root_.Go.newRow e ((Array.range (c*i.size)).map (λj=>zero[j %zero.size]!));pure (.slice (some a) l c):Sem Value).run P w->
   qe P μ w (Instr.makeSlice t (.int kl l) (.int kc c)) e (if c*i.size=0 then[] else ej c (mD v).cells) (λa=>.slice (some a) l c):=by
  intro zero oL eo
  refine⟨_,oL,?_⟩
  rw[eo]
  simp only[Sem.run_bind,Sem.run_pure]
  have aI:=FN (P:=P) (w:=w) e ((Array.range (c*i.size)).map (λj=>zero[j %zero.size]!)).toList
  have:(⟨((Array.range (c*i.size)).map (λj=>zero[j %zero.size]!)).toList⟩:Array Value)=((Array.range (c*i.size)).map (λj=>zero[j %zero.size]!)):=rfl
  rw[this] at aI
  rw[aI];rfl
 have br:(_root_.Go.sizeOf e).run P w=.ok i.size w:=by simp[_root_.Go.sizeOf,run_typeInfo ae]
 by_cases h0:c*i.size=0
 · refine key #[] (by rw[if_pos h0,h0];simp[bN]) ?_
   simp only[Instr.makeSlice,Sem.run_bind,bx hu,Result.andThen_ok,asInt,asIntOf,Sem.run_pure,run_typeInfo ae,jD,vl]
   rw[if_neg rl]
   simp[br,h0]
 · refine key v.cells (by rw[if_neg h0];exact vj ag mM c) ?_
   simp only[Instr.makeSlice,Sem.run_bind,bx hu,Result.andThen_ok,asInt,asIntOf,Sem.run_pure,run_typeInfo ae,jD,vl]
   rw[if_neg rl]
   simp[br,h0,aB]
structure Laid(P:Program)(μ:a8)(w:World)(s:Sem Next)(b:Nat)(v:I)(ob:ca)(u:Value)(X:Obj)(sz:Nat):Prop where
 run:s.run P w=.ok (.value u) (w.alloc X)
 val:∀aH,en μ aH->aH b=some ⟨w.heap.size,0,sz⟩->a1 aH v u
 obj:∀aH w',en μ aH->w'.heap[w.heap.size]? =some X->lU aH ob ⟨w.heap.size,0,sz⟩ w'
 ro:ob.lV=false
theorem qe.laid{s:Sem Value}{e:TypeId}{cs:List I}{val:Addr->Value}(h:qe P μ w s e cs val){b:Nat}{v:I}(aB:∀aH sz,aH b=some ⟨w.heap.size,0,sz⟩->a1 aH v (val ⟨w.heap.size,0,none⟩)):
  ∃u X sz,Laid P μ w (do pure (.value (<-s))) b v (.cells cs e .own 0 0) u X sz:=by
 obtain⟨us,aa,ad⟩:=h
 refine⟨_,.cells ⟨us⟩ e,us.length,by simp[ad],λaH _ hm=>aB aH _ hm,λaH w' hle bf=>?_,rfl⟩
 exact⟨⟨us⟩,0,0,bf,λj v aD=>by
  obtain⟨u,hu,ai⟩:=aa.get aD
  exact⟨u,by simpa using hu,ai.mono hle⟩,by simp,rfl,aa.length.symm,rfl,rfl⟩
theorem Nj(o:Oper){g:Operand->I}{b7:Operand->Value}(aj:∀x,a1 μ (g x) (b7 x)){b:Nat}{v:I}{ob:ca}(h:iN P o.op g b=some (v,ob)):
  ∃u X sz,Laid P μ w (execOp b7 o) b v ob u X sz:=by
 obtain⟨dst,op,type,pos,after,guard⟩:=o
 cases op<;>simp only[iN] at h<;>try (cases h;done)
 case alloc e=>
  split at h
  · rename_i z aT
    split at h
    · cases h
      exact(Nf aT).laid λaH sz hm=>⟨_,hm,rfl⟩
    · cases h
  · cases h
 case box e x=>
  split at h
  · rename_i eO
    cases h
    have af:g x≠ .bad:=by intro e;rw[e] at eO;simp[I.cells,I.bC] at eO
    exact(Ng (aj x) af).laid λaH sz hm=>⟨_,hm,rfl⟩
  · cases h
 case buildSlice t len parts=>
  split at h
  · rename_i e hu
    split at h
    · rename_i sz z hs aT
      split at h
      · rename_i cs ag hf
        rw[Bool.and_eq_true,Nat.ble_eq,Nat.beq_eq] at ag
        split at h
        · cases h
          exact(Nh g b7 aj hu hs aT ag.1 ag.2 parts hf).laid λaH sz hm=>⟨_,hm,rfl⟩
        · cases h
      · cases h
    · cases h
  · cases h
 case makeMap t r=>
  cases r with
  |some x=>cases h
  |none=>
   cases h
   exact⟨.map (some w.heap.size),.map #[] 0,0,rfl,λaH _ hm=>⟨_,hm,rfl⟩,λaH w' _ bf=>⟨[],bf,rfl⟩,rfl⟩
 case makeSlice t l c=>
  split at h
  · rename_i e h4 c' hu an ag
    obtain⟨kl,el⟩:=qd an (aj l)
    obtain⟨kc,vF⟩:=qd ag (aj c)
    split at h
    · rename_i i z ae aT
      split at h
      · rename_i cs jl
        split at h
        · cases h
          rw[Bool.and_eq_true,Bool.and_eq_true,Nat.ble_eq,Nat.beq_eq,decide_eq_true_eq] at jl
          have:=(Ni (P:=P) (μ:=μ) (w:=w) (kl:=kl) (kc:=kc) hu ae aT jl.1.1 jl.1.2 jl.2).laid (b:=b) (v:=.slice b 0 h4 (.exact c')) λaH sz hm=>⟨_,hm,rfl⟩
          simp only[execOp,el,vF]
          exact this
        · cases h
      · cases h
    · cases h
  · cases h
end
end aw
namespace aw
open Go
def gp(P:Program)(μ:a8):Prop:=∀g,g<P.globals.size->∃i,μ g=some i/\i.a5=g/\i.base=0
theorem gp.mono{P:Program}{μ aH:a8}(h:gp P μ)(hle:en μ aH):gp P aH:=λg aj=>let⟨i,aa,ad⟩:=h g aj;⟨i,hle _ _ aa,ad⟩
def Ends(μ:a8)(H:J)(w:World):av->Ending->World->Prop
 |.ret v aO,e,w'=>∃aH u,e=.returned u/\a1 aH v u/\bc aH aO w'/\bO μ H w aH aO w'
 |.bK v aO,e,w'=>∃aH u,e=.panicked [{v:=u,recovered:=false}]/\a1 aH v u/\bc aH aO w'/\bO μ H w aH aO w'
 |.fail _,_,_=>True
def av.j5:av->Bool
 |.fail _=>false
 |_=>true
def tu(P:Program)(f:FuncId)(vs:List Value)(w:World)(R:Ending->World->Prop):Prop:=
 (∃v w',(callFunc f ⟨vs⟩).run P w=.ok (.value v) w'/\R (.returned v) w')\/
 ((callFunc f ⟨vs⟩).run P w=.ok (.enter f ⟨vs⟩) w/\Calls P f ⟨vs⟩ w R)
def qf(P:Program)(m:Machine)(c:Frame)(cs:List Frame)(R:Ending->World->Prop):Prop:=
 ∃e w',R e w'/\match e with
  |.returned v=>Steps P m (lone (c.finish v) cs w')
  |.panicked chain=>Steps P m (lone (c.raise chain) cs w')
  |.outgrown=>False
def FO(P:Program)(l:Nat)(vs:List Value)(w:World)(R:Ending->World->Prop):Prop:=
 ∃f tmps assign body,(Instr.yield l ⟨vs⟩).run P w=.ok (.round l f tmps assign body) w/\∀c cs,qf P (lone (Frame.round l f tmps assign body .normal) (c::cs) w) c cs R
structure kH(P:Program)(call:aP->List I->J->av):Prop where
 fn:∀f args H,(call (.fn f) args H).j5=true->∀μ w (vs:List Value),bc μ H w->gp P μ->bN μ args vs->tu P f vs w (Ends μ H w (call (.fn f) args H))
 bQ:∀l args H,(call (.bQ l) args H).j5=true->∀μ w i (vs:List Value),bc μ H w->gp P μ->μ l=some i->bN μ args vs->FO P i.a5 vs w (Ends μ H w (call (.bQ l) args H))
theorem qf.of_steps{P:Program}{m cm:Machine}{c:Frame}{cs:List Frame}{R:Ending->World->Prop}(h:Steps P m cm)(ak:qf P cm c cs R):qf P m c cs R:=by
 obtain⟨e,w',ai,hs⟩:=ak
 refine⟨e,w',ai,?_⟩
 cases e with
 |returned v=>exact h.trans hs
 |panicked Nk=>exact h.trans hs
 |outgrown=>exact hs.elim
theorem FP{P:Program}{f:FuncId}{args:Array Value}{w:World}{R:Ending->World->Prop}(Nl:∀w',¬R .outgrown w')(h:Calls P f args w R)(c:Frame)(cs:List Frame):
  qf P (lone (Frame.enter P f args .normal) (c::cs) w) c cs R:=by
 obtain⟨e,w',cg,ai,ag,_,an⟩:=h (c::cs)
 refine⟨e,w',ai,?_⟩
 cases e with
 |returned v=>exact Steps.trans ag (.one (step_leave_returned an))
 |panicked Nk=>exact Steps.trans ag (.one (step_leave_panicked an))
 |outgrown=>exact(Nl _ ai).elim
def g3(μ:a8)(kind:CallKind)(cs0:List Frame):bt->List Frame->Prop
 |.none,cs=>cs=cs0/\∀cg:Frame,cg.kind=kind->tryRecover cg cs0=none
 |.act v,cs=>cs=cs0/\kind=.deferred/\∃c rest u,cs0=c::rest/\c.mode=.panicking [{v:=u,recovered:=false}]/\a1 μ v u
 |.done v,cs=>kind=.deferred/\∃c rest u,cs0=c::rest/\c.mode=.panicking [{v:=u,recovered:=false}]/\a1 μ v u/\cs={c with mode:=.panicking [{v:=u,recovered:=true}]}::rest
theorem g3.mono{μ aH:a8}(hle:en μ aH){kind:CallKind}{cs0 cs:List Frame}{q:bt}(h:g3 μ kind cs0 q cs):g3 aH kind cs0 q cs:=by
 cases q with
 |none=>exact h
 |act v=>obtain⟨aa,ad,c,rest,u,ar,aM,bS⟩:=h;exact⟨aa,ad,c,rest,u,ar,aM,bS.mono hle⟩
 |done v=>obtain⟨aa,c,rest,u,ar,aM,bS,cK⟩:=h;exact⟨aa,c,rest,u,ar,aM,bS.mono hle,cK⟩
section
variable {P:Program} {μ:a8} {H:J} {w:World}
theorem A6{b:Frame}{a:Act}{ops:Array Oper}{i:Nat}{rest:List Nat}{k:List Item}{cs:List Frame}{s:Sem Next}
  (b5:stepG P true {frame:=b.atR a (.inRegion ops (i::rest)::k),callers:=cs,status:=.running,dying:=none} w=stepG.apply P true (b.atR a (.inRegion ops (i::rest)::k)) cs none s w):
  (∀v w',s.run P w=.ok (.value v) w'->Steps P (lone (b.atR a (.inRegion ops (i::rest)::k)) cs w) (lone ((b.atR a (.inRegion ops (i::rest)::k)).finish v) cs w'))/\
  (∀w',s.run P w=.ok .skip w'->Steps P (lone (b.atR a (.inRegion ops (i::rest)::k)) cs w) (lone ((b.atR a (.inRegion ops (i::rest)::k)).finish undef) cs w'))/\
  (∀u w',s.run P w=.halt (.panic u) w'->Steps P (lone (b.atR a (.inRegion ops (i::rest)::k)) cs w) (lone ((b.atR a (.inRegion ops (i::rest)::k)).raise [{v:=u,recovered:=false}]) cs w'))/\
  (∀d w',s.run P w=.ok (.defer d) w'->Steps P (lone (b.atR a (.inRegion ops (i::rest)::k)) cs w) (lone (b.atR ({a with defers:=d::a.defers}.put ((ops[i]?).bind (·.dst)) undef) (.inRegion ops rest::k)) cs w'))/\
  (∀f args w',s.run P w=.ok (.enter f args) w'->Steps P (lone (b.atR a (.inRegion ops (i::rest)::k)) cs w) (lone (Frame.enter P f args .normal) (b.atR a (.inRegion ops (i::rest)::k)::cs) w'))/\
  (∀l f tmps assign body w',s.run P w=.ok (.round l f tmps assign body) w'->Steps P (lone (b.atR a (.inRegion ops (i::rest)::k)) cs w) (lone (Frame.round l f tmps assign body .normal) (b.atR a (.inRegion ops (i::rest)::k)::cs) w'))/\
  (b.roundOf=none->∀w',s.run P w=.ok .recover w'->∀v bH,tryRecover (b.atR a (.inRegion ops (i::rest)::k)) cs=some (v,bH)->Steps P (lone (b.atR a (.inRegion ops (i::rest)::k)) cs w) (lone ((b.atR a (.inRegion ops (i::rest)::k)).finish v) bH w'))/\
  (b.roundOf=none->∀w',s.run P w=.ok .recover w'->tryRecover (b.atR a (.inRegion ops (i::rest)::k)) cs=none->Steps P (lone (b.atR a (.inRegion ops (i::rest)::k)) cs w) (lone ((b.atR a (.inRegion ops (i::rest)::k)).finish .nilIface) cs w')):=by
 refine⟨λv w' ai=>.one (step_lone_go ?_),λw' ai=>.one (step_lone_go ?_),λu w' ai=>.one (step_lone_go ?_),λd w' ai=>.one (step_lone_go ?_),λf args w' ai=>.one (step_lone_go ?_),λl f tmps assign body w' ai=>.one (step_lone_go ?_),λaf w' ai v bH aQ=>.one (step_lone_go ?_),λaf w' ai aQ=>.one (step_lone_go ?_)⟩
 · rw[b5];simp[stepG.apply,ai]
 · rw[b5];simp[stepG.apply,ai]
 · rw[b5];simp[stepG.apply,ai]
 · rw[b5]
   have:=Frame.finish_atR b {a with defers:=d::a.defers} ops i rest k undef
   simp only[stepG.apply,Sem.runT_eq,ai,GStep.bare_after]
   exact congrArg (λcg=>GStep.go {frame:=cg,callers:=cs,status:=.running,dying:=none} w') this
 · rw[b5];simp[stepG.apply,ai,Frame.atR]
 · rw[b5];simp[stepG.apply,ai,Frame.atR]
 · rw[b5]
   have hK:(b.atR a (.inRegion ops (i::rest)::k)).roundOf=none:=af
   simp[stepG.apply,ai,hK,aQ]
 · rw[b5]
   have hK:(b.atR a (.inRegion ops (i::rest)::k)).roundOf=none:=af
   simp[stepG.apply,ai,hK,aQ]
def A7(P:Program)(μ:a8)(H:J)(w:World)(b:Frame)(a:Act)(ops:Array Oper)(o:Oper)(i:Nat)(rest:List Nat)(k:List Item)(cs0 cs:List Frame):u4->Prop
 |.ok v bn q' aO=>∃aH w' u rG bH,Steps P (lone (b.atR a (.inRegion ops (i::rest)::k)) cs w) (lone (b.atR {tmps:=(a.put o.dst u).tmps,defers:=rG} (.inRegion ops rest::k)) bH w')/\
   a1 aH v u/\bc aH aO w'/\bO μ H w aH aO w'/\fI aH bn rG/\g3 aH b.kind cs0 q' bH
 |.bK v bn q' aO=>∃aH w' u,Steps P (lone (b.atR a (.inRegion ops (i::rest)::k)) cs w) (lone {b.atR a (.inRegion ops (i::rest)::k) with mode:=.panicking [{v:=u,recovered:=false}]} cs w')/\
   a1 aH v u/\bc aH aO w'/\bO μ H w aH aO w'/\fI aH bn a.defers/\g3 aH b.kind cs0 q' cs
 |.fail _=>True
theorem put_defers(a:Act)(dst:Option Tmp)(u:Value):(a.put dst u).defers=a.defers:=by cases dst<;>rfl
theorem yh(a:Act)(dst:Option Tmp)(u:Value):a.put dst u={tmps:=(a.put dst u).tmps,defers:=a.defers}:=by cases dst<;>rfl
theorem Nm(a:Act)(aS:List Deferred)(dst:Option Tmp)(u:Value):({a with defers:=aS}:Act).put dst u={tmps:=(a.put dst u).tmps,defers:=aS}:=by cases dst<;>rfl
theorem FQ{b:Frame}{a:Act}{ops:Array Oper}{o:Oper}{i:Nat}{rest:List Nat}{k:List Item}{cs0 cs:List Frame}(a2:ops[i]? =some o){d:List bA}{q:bt}
  (az:fI μ d a.defers)(bh:g3 μ b.kind cs0 q cs){r:av}{m:Machine}(hs:Steps P (lone (b.atR a (.inRegion ops (i::rest)::k)) cs w) m)
  (an:qf P m (b.atR a (.inRegion ops (i::rest)::k)) cs (Ends μ H w r)):A7 P μ H w b a ops o i rest k cs0 cs (u5 d q r):=by
 obtain⟨e,w',ai,b5⟩:=an
 cases r with
 |ret v aO=>
  obtain⟨aH,u,rfl,aa,ad,ar⟩:=ai
  refine⟨aH,w',u,a.defers,cs,hs.trans ?_,aa,ad,ar,az.mono ar.le,bh.mono ar.le⟩
  have:(b.atR a (.inRegion ops (i::rest)::k)).finish u=b.atR {tmps:=(a.put o.dst u).tmps,defers:=a.defers} (.inRegion ops rest::k):=by
   rw[Frame.finish_atR,a2,<-yh];rfl
  rw[<-this];exact b5
 |bK v aO=>
  obtain⟨aH,u,rfl,aa,ad,ar⟩:=ai
  exact⟨aH,w',u,hs.trans b5,aa,ad,ar,az.mono ar.le,bh.mono ar.le⟩
 |fail w=>trivial
theorem yi{r:av}(h:r.j5=false):∃s,r=.fail s:=by
 cases r with
 |fail s=>exact⟨s,rfl⟩
 |_=>cases h
theorem A8{r:av}(aj:r.j5=true):∀w',¬Ends μ H w r .outgrown w':=by
 intro w' h
 cases r with
 |ret v aO=>obtain⟨_,_,e,_⟩:=h;cases e
 |bK v aO=>obtain⟨_,_,e,_⟩:=h;cases e
 |fail s=>cases aj
theorem FR{call:aP->List I->J->av}(ag:kH P call)(ah:bc μ H w)(nO:gp P μ){b:Frame}{a:Act}{ops:Array Oper}{o:Oper}{i:Nat}{rest:List Nat}{k:List Item}{cs0 cs:List Frame}
  (a2:ops[i]? =some o){gd:Option (I×Bool)}(fZ:∀nP,dO gd=some nP->Region.wanted o (yielded ops a.tmps)=nP){g:Operand->I}(aj:∀x,a1 μ (g x) (a.eval x)){d:List bA}{q:bt}
  (az:fI μ d a.defers)(bh:g3 μ b.kind cs0 q cs){inR:Bool}(cJ:inR=b.roundOf.isSome):A7 P μ H w b a ops o i rest k cs0 cs (dm P inR call gd o g d q H):=by
 unfold dm
 have mR:∀u,(b.atR a (.inRegion ops (i::rest)::k)).finish u=b.atR {tmps:=(a.put o.dst u).tmps,defers:=a.defers} (.inRegion ops rest::k):=λu=>by
  rw[Frame.finish_atR,a2,<-yh];rfl
 split
 · trivial
 · rename_i hw
   have A9:=fZ _ hw
   refine⟨μ,w,undef,a.defers,cs,?_,⟨[],rfl,rfl⟩,ah,bO.refl _ _ _,az,bh⟩
   have hs:=stepR_op_skip (P:=P) (b:=b) (a:=a) (k:=k) (cs:=cs) (w:=w) (ops:=ops) (i:=i) (rest:=rest) (by simp[a2,A9])
   rw[a2] at hs
   have he:a.put ((some o).bind (·.dst)) undef={tmps:=(a.put o.dst undef).tmps,defers:=a.defers}:=yh a o.dst undef
   rw[he] at hs
   exact .one hs
 · rename_i hw
   have A_:=fZ _ hw
   have b5:=stepGR_op (P:=P) (b:=b) (a:=a) (k:=k) (cs:=cs) (w:=w) (rest:=rest) a2 A_
   have fi:=Nc (P:=P) ah o aj
   by_cases FT:b.roundOf.isSome=true/\∃c,o.op=.defer c
   · obtain⟨ai,c,Nn⟩:=FT
     have:(∃x,ch P o g H=.iI x)\/∃s,ch P o g H=.fail s:=by
      unfold ch
      rw[Nn]
      simp only
      split
      · split
        · exact .inl ⟨_,rfl⟩
        · exact .inr ⟨_,rfl⟩
      · exact .inr ⟨_,rfl⟩
     rcases this with⟨x,e⟩|⟨s,e⟩
     · rw[e];simp only[cJ,ai,if_true];trivial
     · rw[e];trivial
   · have vG:o.semAt b.roundOf a.eval=execOp a.eval o:=by
       cases gn:b.roundOf with
       |none=>rfl
       |some l=>exact Oper.semAt_eq _ _ _ λc e=>FT ⟨by rw[gn];rfl,c,e⟩
     rw[vG] at b5
     obtain⟨al,au,a7,b8,db,e7,hj,j6⟩:=A6 b5
     cases fE:ch P o g H with
     |val v aO=>
      rw[fE] at fi
      obtain⟨aH,w',u,ai,aa,ad,ar⟩:=fi
      refine⟨aH,w',u,a.defers,cs,?_,aa,ad,ar,az.mono ar.le,bh.mono ar.le⟩
      rw[<-mR]
      rcases ai with ai|⟨rfl,ai⟩
      · exact al _ _ ai
      · exact au _ ai
     |bK v aO=>
      rw[fE] at fi
      obtain⟨rfl,u,ai,aa⟩:=fi
      exact⟨μ,w,u,a7 _ _ ai,aa,ah,bO.refl _ _ _,az,bh⟩
     |call f args aO=>
      rw[fE] at fi
      obtain⟨rfl,vs,ai,aa⟩:=fi
      simp only
      cases bJ:(call (.fn f) args aO).j5 with
      |false=>obtain⟨s,hs⟩:=yi bJ;rw[hs];trivial
      |true=>
       rcases ag.fn f args aO bJ μ w vs ah nO aa with⟨v,w',aR,a3⟩|⟨aR,a3⟩
       · rw[<-ai] at aR
         have hs:=al _ _ aR
         cases FU:call (.fn f) args aO with
         |fail s=>trivial
         |ret v' bl=>
          rw[FU] at a3
          obtain⟨aH,u,e,ad,ar,aM⟩:=a3
          cases e
          exact⟨aH,w',_,a.defers,cs,by rw[<-mR];exact hs,ad,ar,aM,az.mono aM.le,bh.mono aM.le⟩
         |bK v' bl=>
          rw[FU] at a3
          obtain⟨aH,u,e,ad,ar,aM⟩:=a3
          cases e
       · rw[<-ai] at aR
         have hs:=db _ _ _ aR
         exact FQ a2 az bh hs (FP (A8 bJ) a3 _ _)
     |bQ l args aO=>
      rw[fE] at fi
      obtain⟨rfl,dJ,vs,an,ai,aa⟩:=fi
      simp only
      cases bJ:(call (.bQ l) args aO).j5 with
      |false=>obtain⟨s,hs⟩:=yi bJ;rw[hs];trivial
      |true=>
       obtain⟨f,tmps,as,b6,aR,a3⟩:=ag.bQ l args aO bJ μ w dJ vs ah nO an aa
       rw[<-ai] at aR
       have hs:=e7 _ _ _ _ _ _ aR
       exact FQ a2 az bh hs (a3 _ _)
     |iI x=>
      rw[fE] at fi
      obtain⟨oR,ai,aa⟩:=fi
      simp only
      split
      · trivial
      · refine⟨μ,w,undef,oR::a.defers,cs,?_,⟨[],rfl,rfl⟩,ah,bO.refl _ _ _,⟨_,_,rfl,aa,az⟩,bh⟩
        have hs:=b8 _ _ ai
        rw[a2] at hs
        have he:({a with defers:=oR::a.defers}:Act).put ((some o).bind (·.dst)) undef={tmps:=(a.put o.dst undef).tmps,defers:=oR::a.defers}:=Nm a _ o.dst undef
        rw[he] at hs
        exact hs
     |q8=>
      rw[fE] at fi
      have ai:(execOp a.eval o).run P w=.ok .recover w:=fi
      simp only
      split
      · trivial
      · rename_i x7
        have vH:b.roundOf=none:=by
         cases gn:b.roundOf with
         |none=>rfl
         |some l=>rw[gn] at cJ;exact absurd cJ x7
        have aq:(b.atR a (.inRegion ops (i::rest)::k)).kind=b.kind:=rfl
        split
        · obtain⟨rfl,aQ⟩:=bh
          refine⟨μ,w,.nilIface,a.defers,cs,?_,rfl,ah,bO.refl _ _ _,az,⟨rfl,aQ⟩⟩
          rw[<-mR]
          exact j6 vH _ ai (aQ _ aq)
        · have yj:=bh
          obtain⟨ld,c,rs,u,aC,ax,bp,rfl⟩:=bh
          refine⟨μ,w,.nilIface,a.defers,_,?_,rfl,ah,bO.refl _ _ _,az,yj⟩
          rw[<-mR]
          refine j6 vH _ ai ?_
          have vI:(b.atR a (.inRegion ops (i::rest)::k)).kind=.deferred:=aq.trans ld
          simp only[tryRecover,vI]
        · obtain⟨rfl,ld,c,rs,u,aC,ax,bp⟩:=bh
          subst aC
          refine⟨μ,w,u,a.defers,{c with mode:=.panicking [{v:=u,recovered:=true}]}::rs,?_,bp,ah,bO.refl _ _ _,az,⟨ld,c,rs,u,rfl,ax,bp,rfl⟩⟩
          rw[<-mR]
          refine hj vH _ ai _ _ ?_
          have vI:(b.atR a (.inRegion ops (i::rest)::k)).kind=.deferred:=aq.trans ld
          simp only[tryRecover,vI,ax]
     |fail s=>trivial
end
end aw
