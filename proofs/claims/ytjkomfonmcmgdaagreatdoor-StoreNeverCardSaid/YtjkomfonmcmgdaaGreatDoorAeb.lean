/-
  THE ABSTRACT EVALUATOR (operations): a deterministic semantics of loaded code, and the proof that its runs are runs of the program in the model, whatever the tape draws. No condition.
-/
import Derived.Test.YtjkomfonmcmgdaaGreatDoorAea
import Derived.ChangeKeysEq
import Derived.Laws.StructEq
import Derived.AtR
set_option linter.unusedVariables false
set_option linter.unusedSimpArgs false
namespace aM
open Go
section
variable {P:Program} {μ:bp} {H:J} {w:World}
theorem zR{b off n:Nat}{cs:List I}(h:loadCells H b off n=some cs):cs.length=n:=by
 unfold loadCells at h
 split at h
 · obtain⟨ab,rfl⟩:=sx _ _ _ h
   simp;omega
 · cases h
theorem zS:∀l:List UInt8,(c8 l).length=l.length
 |[]=>rfl
 |_::l=>by simp[c8,zS l]
theorem Hp{size n:Nat}{x:I}{cs:List I}(h:fP H size x=some (n,cs)):cs.length=n*size:=by
 cases x<;>simp only[fP] at h<;>try cases h
 · split at h<;>cases h
   rw[zS];simp
 · simp
 · rename_i b off len cap
   cases cap with
   |dead=>
    simp only at h
    split at h
    · cases h;simp
    · cases h
   |exact c=>
    simp only at h
    split at h
    · rename_i bN aw;cases h;exact zR aw
    · cases h
   |a1 gz=>
    simp only at h
    split at h
    · rename_i bN aw;cases h;exact zR aw
    · cases h
theorem Pu(ai:br μ H w){argTypes:Array TypeId}{ty sT:TypeId}(h0:argTypes[0]? =some sT){s x:I}{na bz:Value}(hs:bl μ s na)(aa:bl μ x bz){v:I}{aV:J}
  (h:dy P H sT argTypes[1]? s x=some (v,aV)):eO P μ H w (Builtin.append_ argTypes ty #[na,bz]) v aV:=by
 unfold dy at h
 split at h
 · rename_i e hu eF
   split at h
   · rename_i i z af aZ
     split at h
     · cases h
     · rename_i n cs fy
       obtain⟨aw,us,iM,la⟩:=zN (P:=P) ai aa fy
       have hI:=Hp fy
       cases s<;>(try simp only at h)<;>try cases h
       ·
        cases hs
        cases n with
        |zero=>
         cases h
         have:=xa (P:=P) (ty:=ty) h0 rfl hu eF af (base:=none) (sLen:=0) (sCap:=0) aw iM (by omega)
         exact .same ai this rfl
        |succ n=>
         have al:kh H e i.bytes i.size (0+(n+1)) z ([]++cs) 0=some (v,aV):=by simpa using h
         exact CG ai h0 rfl hu eF af aZ aa fy (old:=[]) ⟨[],rfl,rfl⟩ (by simp) hI (by omega) ai (b7.refl _ _ _) al
       · rename_i b off len cap
         obtain⟨eh,hJ,ag⟩:=hs
         cases cap with
         |dead=>cases h
         |exact cap=>
          cases ag
          simp only at h
          split at h
          · rename_i hle
            have hle:=Nat.le_of_ble_eq_true hle
            have ak:=xa (P:=P) (ty:=ty) h0 rfl hu eF af (base:=some ⟨eh.bk,eh.base+off,none⟩) (sLen:=len) (sCap:=cap) aw iM hle
            simp only[add_plain] at ak
            split at h
            · cases h
              have CJ:us=[]:=by
               have ab:=hI;have ad:=la.length
               cases us with
               |nil=>rfl
               |cons a l=>simp at ab ad;omega
              subst CJ
              refine .same ai (v':=.slice (some ⟨eh.bk,eh.base+off,none⟩) len cap) ?_ ⟨eh,hJ,rfl⟩
              rw[ak];simp[_root_.Go.storeCells]
            · split at h
              · rename_i ab ch
                cases h
                obtain⟨w',aA,ay,bx⟩:=wX (P:=P) ai hJ la ch
                refine⟨μ,w',.slice (some ⟨eh.bk,eh.base+off,none⟩) (len+n) cap,?_,⟨eh,hJ,rfl⟩,ay,bx⟩
                rw[ak,Nat.add_assoc,aA];rfl
              · cases h
          · rename_i hle
            have b8:cap<len+n:=by
             rcases Nat.lt_or_ge cap (len+n) with h|h
             · exact h
             · rw[w5 h] at hle;cases hle
            split at h
            · rename_i old hold
              obtain⟨os,dv,dC⟩:=q0 (P:=P) ai.drew hJ hold
              exact CG ai h0 rfl hu eF af aZ aa fy (old:=old) ⟨os,by simp only[Builtin.firstCells];exact dv,dC⟩ (zR hold) hI b8 ai (b7.refl _ _ _) h
            · cases h
         |a1 gz=>
          obtain⟨cap,rfl,q1,bw⟩:=ag
          simp only at h
          split at h
          · rename_i ki
            simp only[Bool.and_eq_true,Nat.blt_eq] at ki
            have Pv:=Nat.eq_of_beq_eq_true ki.1
            subst Pv
            have wY:=ki.2
            split at h
            · cases h
              have ak:=xa (P:=P) (ty:=ty) h0 rfl hu eF af (base:=some ⟨eh.bk,eh.base+off,none⟩) (sLen:=len) (sCap:=cap) aw iM (by omega)
              simp only[add_plain] at ak
              have CJ:us=[]:=by
               have ab:=hI;have ad:=la.length
               cases us with
               |nil=>rfl
               |cons a l=>simp at ab ad;omega
              subst CJ
              refine .same ai (v':=.slice (some ⟨eh.bk,eh.base+off,none⟩) len cap) ?_ ⟨eh,hJ,cap,rfl,q1,bw⟩
              rw[ak];simp[_root_.Go.storeCells]
            · split at h
              · rename_i old el aN eJ ae
                have Pw:=ai.rel b _ eh ae hJ
                obtain⟨c,gm,gn,ba,a7,b5,gr,gb⟩:=Pw
                split at h
                · rename_i q_
                  have q_:=Nat.le_of_ble_eq_true q_
                  split at h
                  · rename_i ab ch
                    cases h
                    have kj:len+n<=cap:=by
                     have:(len+n)*i.size<=cap*i.size:=by omega
                     exact Nat.le_of_mul_le_mul_right this wY
                    have ak:=xa (P:=P) (ty:=ty) h0 rfl hu eF af (base:=some ⟨eh.bk,eh.base+off,none⟩) (sLen:=len) (sCap:=cap) aw iM kj
                    simp only[add_plain] at ak
                    obtain⟨w',aA,ay,bx⟩:=wX (P:=P) ai hJ la ch
                    refine⟨μ,w',.slice (some ⟨eh.bk,eh.base+off,none⟩) (len+n) cap,?_,⟨eh,hJ,cap,rfl,kj,bw⟩,ay,bx⟩
                    rw[ak,Nat.add_assoc,aA];rfl
                  · cases h
                · split at h
                  · rename_i o Hq hold
                    simp only[Bool.and_eq_true] at Hq
                    obtain⟨j0,p1⟩:=Hq
                    have j0:=Nat.le_of_ble_eq_true j0
                    have p1:=Nat.eq_of_beq_eq_true p1
                    subst p1
                    have al:=h
                    unfold kh at h
                    split at h
                    · rename_i Hr
                      simp only[Bool.and_eq_true] at Hr
                      obtain⟨⟨o0,m8⟩,eg⟩:=Hr
                      cases h
                      have xb:=zR hold
                      by_cases q_:len+n<=cap
                      ·
                       have ak:=xa (P:=P) (ty:=ty) h0 rfl hu eF af (base:=some ⟨eh.bk,eh.base+off,none⟩) (sLen:=len) (sCap:=cap) aw iM q_
                       simp only[add_plain] at ak
                       have hmul:(len+n)*i.size<=cap*i.size:=Nat.mul_le_mul_right _ q_
                       have Ho:(len+n)*i.size=len*i.size+n*i.size:=Nat.add_mul _ _ _
                       have G9:us.length=n*i.size:=by rw[<-la.length];exact hI
                       obtain⟨w',c',aA,ay,bx,ef,ga,gM,gq,gX,gC⟩:=G7 P eh.bk (eh.base+(off+len*i.size)) us w 0 c el gm gn ba
                        (la.wV λa aS=>Pj eg a (List.mem_append_right _ aS)) (by omega) (λj sB sC ⟨f1,f2⟩=>by
                         have:=gb (j-eh.base) (by omega) (by omega) (by omega)
                         omega)
                       have Px:eh.base+off+(eh.size-off)=c'.size:=by rw[gX,<-b5,<-bw];omega
                       obtain⟨r1,r2⟩:=ai.Pd (w':=w') (o':=.cells (o++cs) el .a1 0 (eJ-off)) ae rfl hJ ef bx ga gM gq.1 (eh.base+off) (eh.size-off) (hdr:=Nat.le_of_eq gq.2.symm)
                        ⟨c',gm,gn,ay,λj a aL=>by
                         show∃u,c'[eh.base+off+j]? =some u/\_
                         rw[gC]
                         by_cases mg:j<o.length
                         · rw[List.getElem?_append_left mg] at aL
                           rw[if_neg (by omega)]
                           unfold loadCells at hold
                           rw[ae] at hold
                           simp only at hold
                           rw[m5] at hold
                           obtain⟨t1,rfl⟩:=sx _ _ _ hold
                           rw[List.getElem?_take] at aL
                           split at aL
                           · rw[List.getElem?_drop] at aL
                             obtain⟨u,CK,oZ⟩:=a7 (off+j) a aL
                             exact⟨u,by rw[Nat.add_assoc];exact CK,oZ.mono (ai.nU _)⟩
                           · cases aL
                         · rw[List.getElem?_append_right (by omega)] at aL
                           have Hs:j-o.length<cs.length:=by
                            rcases Nat.lt_or_ge (j-o.length) cs.length with h|h
                            · exact h
                            · rw[List.getElem?_eq_none h] at aL;cases aL
                           have ab6:=la.length
                           rw[if_pos (by omega)]
                           obtain⟨u,CK,oZ⟩:=la.get aL
                           refine⟨u,?_,oZ.mono (ai.nU _)⟩
                           rw[<-CK]
                           have Py:eh.base+off+j-(eh.base+(off+len*i.size)+0)=j-o.length:=by rw[xb];omega
                           rw[Py],Px,by
                         refine⟨?_,λj sB sC Ht=>?_⟩
                         · simp only[List.length_append];have:=hI;omega
                         · have:=gb (off+j) (by simp only at sB;omega) (by simp only at sC;omega) (by simp only at Ht;omega)
                           omega⟩
                       refine⟨_,w',.slice (some ⟨eh.bk,eh.base+off,none⟩) (len+n) cap,?_,⟨_,gp _ _ _,cap,by simp,q_,by simp only;omega⟩,r1,r2⟩
                       rw[ak,Nat.add_assoc,aA];rfl
                      ·
                       obtain⟨bE,b0⟩:=ai.kill ae rfl hJ
                       obtain⟨os,dv,dC⟩:=q0 (P:=P) ai.drew hJ hold
                       exact CG (ty:=ty) ai h0 rfl hu eF af aZ aa fy (old:=o) ⟨os,by simp only[Builtin.firstCells];exact dv,dC⟩ xb hI (by omega) bE b0 al
                    · cases h
                  · cases h
              · cases h
          · cases h
   · cases h
 · cases h
end
end aM
namespace aM
open Go
section
variable {P:Program} {μ:bp} {H:J} {w:World}
theorem b_.take{μ:bp}{as:List I}{vs:List Value}(h:b_ μ as vs)(n:Nat):b_ μ (as.take n) (vs.take n):=by
 refine b_.wU (by simp[h.length]) λj a aL=>?_
 rw[List.getElem?_take] at aL⊢
 split at aL
 · rename_i aw;rw[if_pos aw];exact h.get aL
 · cases aL
theorem Hu(ai:br μ H w){size n m:Nat}{x:I}{bz:Value}(aa:bl μ x bz){cs r:List I}(h:fP H size x=some (n,cs))(hm:m<=n)(ak:takeN (m*size) cs=some r):
  ∃us:List Value,(Builtin.firstCells size m bz).run P w=.ok ⟨us⟩ w/\b_ μ r us:=by
 obtain⟨a_,rfl⟩:=sx _ _ _ ak
 have hI:=Hp h
 cases x<;>simp only[fP] at h<;>try cases h
 · split at h<;>cases h
   obtain⟨bs,rfl,rfl⟩:=aa
   refine⟨_,?_,(zM μ _).take _⟩
   simp only[Builtin.firstCells,Sem.run_pure]
   congr 1
   apply Array.ext'
   simp[ByteArray.data_extract,List.map_take]
 · cases aa
   exact⟨[],rfl,by simp;rfl⟩
 · rename_i b off len cap
   obtain⟨i,af,ag⟩:=aa
   have load:∀bN,loadCells H b off (len*size)=some bN->n=len->cs=bN->∀c,∃us:List Value,(Builtin.firstCells size m (.slice (some ⟨i.bk,i.base+off,none⟩) len c)).run P w=.ok ⟨us⟩ w/\b_ μ (cs.take (m*size)) us:=by
    intro bN aw aK fx c
    subst fx;subst aK
    have sD:loadCells H b off (m*size)=some (cs.take (m*size)):=by
     unfold loadCells at aw⊢
     split at aw
     · rename_i ba a7 b5 gr gb ae
       obtain⟨t1,t2⟩:=sx _ _ _ aw
       have hmul:m*size<=n*size:=Nat.mul_le_mul_right _ hm
       have e:∀(k:Nat) (l:List I),k<=l.length->takeN k l=some (l.take k):=by
        intro k
        induction k with
        |zero=>intro l _;simp[takeN]
        |succ k a6=>
         intro l aw
         cases l with
         |nil=>simp at aw
         |cons a l=>simp[takeN,a6 l (by simpa using aw)]
       rw[e _ _ (by omega),t2,List.take_take,Nat.min_eq_left hmul]
     · cases aw
    obtain⟨us,ab,ad⟩:=q0 (P:=P) ai af sD
    exact⟨us,by simp only[Builtin.firstCells];exact ab,ad⟩
   cases cap with
   |dead=>
    simp only at h
    split at h
    · cases h
      obtain⟨_,a,c,rfl⟩:=ag
      have:m=0:=by omega
      subst this
      exact⟨[],by simp[Builtin.firstCells,_root_.Go.loadCells,loadCellsFrom],by simp;rfl⟩
    · cases h
   |exact c=>
    cases ag
    simp only at h
    split at h
    · rename_i bN aw;cases h;exact load _ aw rfl rfl c
    · cases h
   |a1 gz=>
    obtain⟨c,rfl,_⟩:=ag
    simp only at h
    split at h
    · rename_i bN aw;cases h;exact load _ aw rfl rfl c
    · cases h
theorem Pz(ai:br μ H w){argTypes:Array TypeId}{ty zw:TypeId}(h0:argTypes[0]? =some zw){d s:I}{CL na:Value}(ao:bl μ d CL)(hs:bl μ s na){v:I}{aV:J}
  (h:um P H zw d s=some (v,aV)):eO P μ H w (Builtin.copy_ argTypes ty #[CL,na]) v aV:=by
 unfold um at h
 split at h
 · rename_i e hu
   split at h
   · rename_i sz bw
     split at h
     · rename_i n cs fy
       obtain⟨aw,_⟩:=zN (P:=P) ai hs fy
       have nd:∀w:World,(_root_.Go.sizeOf e).run P w=.ok sz w:=λw=>run_sizeOf bw
       have Hv:∀bz:Value,bz=na->(Builtin.firstCells sz 0 na).run P w=.ok #[] w:=λbz _=>by
        obtain⟨us,ab,ad⟩:=Hu (P:=P) (m:=0) (r:=[]) ai hs fy (Nat.zero_le _) (by simp[takeN])
        cases us with
        |nil=>exact ab
        |cons a l=>cases ad
       split at h
       · cases h;cases ao
         refine .same ai (v':=.int .i64 0) ?_ rfl
         simp[Builtin.copy_,h0,bU hu,aw,nd,Hv na rfl,goInt]
       · rename_i b off len cap
         simp only at h
         obtain⟨i,af,ag⟩:=ao
         have ja:∃(a:Addr) (c:Nat),CL=.slice (some a) len c/\(cap≠ .dead->a=⟨i.bk,i.base+off,none⟩):=by
          cases cap with
          |exact c=>cases ag;exact⟨_,c,rfl,λ_=>rfl⟩
          |a1 gz=>obtain⟨c,rfl,_⟩:=ag;exact⟨_,c,rfl,λ_=>rfl⟩
          |dead=>obtain⟨rfl,a,c,rfl⟩:=ag;exact⟨a,c,rfl,λh=>absurd rfl h⟩
         obtain⟨a,c,rfl,aS⟩:=ja
         split at h
         · rename_i p2
           cases h
           refine .same ai (v':=.int .i64 0) ?_ rfl
           simp[Builtin.copy_,h0,bU hu,aw,nd,p2,Hv na rfl,goInt,_root_.Go.storeCells]
         · rename_i p2
           split at h
           · rename_i bN a_
             split at h
             · rename_i ab ch
               cases h
               have zT:cap≠ .dead:=by
                intro e;subst e
                obtain⟨aA,_⟩:=ag
                subst aA;simp[Nat.min_def] at p2
               have:=aS zT
               subst this
               obtain⟨us,ba,a7⟩:=Hu (P:=P) ai hs fy (Nat.min_le_left _ _) a_
               obtain⟨w',aA,ay,bx⟩:=wX (P:=P) ai af a7 ch
               refine⟨μ,w',.int .i64 (Nat.min n len:Nat),?_,rfl,ay,bx⟩
               simp[Builtin.copy_,h0,bU hu,aw,nd,ba,aA,goInt]
             · cases h
           · cases h
       · cases h
     · cases h
   · cases h
 · cases h
theorem PA(ai:br μ H w){argTypes:Array TypeId}{ty t:TypeId}(h0:argTypes[0]? =some t){x:I}{bz:Value}(aa:bl μ x bz){v:I}{aV:J}
  (h:oH P H t x=some (v,aV)):eO P μ H w (Builtin.clear_ argTypes ty #[bz]) v aV:=by
 unfold oH at h
 split at h
 · rename_i hu;cases h;cases aa
   exact .same ai (v':=.tuple #[]) (by simp[Builtin.clear_,h0,bU hu]) ⟨[],rfl,rfl⟩
 · rename_i hu;cases h;cases aa
   exact .same ai (v':=.tuple #[]) (by simp[Builtin.clear_,h0,bU hu]) ⟨[],rfl,rfl⟩
 · rename_i hu
   split at h
   · rename_i es c al
     cases h
     obtain⟨i,af,rfl⟩:=aa
     obtain⟨ents,aA,ay⟩:=ai.rel _ _ i al af
     have b8:i.bk<w.heap.size:=(ai.lt _ _ af).2
     obtain⟨r1,r2⟩:=ai.update (w':={w with heap:=w.heap.setIfInBounds i.bk (.map #[] c)}) (o':=.map [] c) al rfl af (by simp) (λr ak=>by simp[Array.getElem?_setIfInBounds];intro e;exact absurd e.symm ak) rfl rfl rfl
      ⟨[],by simp[b8],rfl⟩
     refine⟨μ,_,.tuple #[],?_,⟨[],rfl,rfl⟩,r1,r2⟩
     simp[Builtin.clear_,h0,bU hu,getObj,setObj,Sem.run,aA]
   · cases h
 · rename_i e b off n cap hu
   split at h
   · rename_i aK
     cases h
     subst aK
     obtain⟨i,af,ag⟩:=aa
     have:∃a c,bz=.slice (some a) 0 c:=by
      cases cap with
      |exact c=>cases ag;exact⟨_,c,rfl⟩
      |a1 gz=>obtain⟨c,rfl,_⟩:=ag;exact⟨_,c,rfl⟩
      |dead=>obtain⟨_,a,c,rfl⟩:=ag;exact⟨a,c,rfl⟩
     obtain⟨a,c,rfl⟩:=this
     exact .same ai (v':=.tuple #[]) (by simp[Builtin.clear_,h0,bU hu]) ⟨[],rfl,rfl⟩
   · rename_i aK
     split at h
     · rename_i z aZ
       split at h
       · rename_i ab ch
         cases h
         obtain⟨fr,lI,rfl,ae⟩:=lF (P:=P) (w:=w) aZ
         have ia:=Pb n ((jY μ fr).cells ae)
         obtain⟨i,af,ag⟩:=aa
         have:∃c,bz=.slice (some ⟨i.bk,i.base+off,none⟩) n c:=by
          cases cap with
          |exact c=>cases ag;exact⟨c,rfl⟩
          |a1 gz=>obtain⟨c,rfl,_⟩:=ag;exact⟨c,rfl⟩
          |dead=>obtain⟨h0,_⟩:=ag;exact absurd h0 aK
         obtain⟨c,rfl⟩:=this
         obtain⟨w',aA,ay,bx⟩:=wX (P:=P) ai af ia ch
         refine⟨μ,w',.tuple #[],?_,⟨[],rfl,rfl⟩,ay,bx⟩
         cases n with
         |zero=>exact absurd rfl aK
         |succ n=>simp[Builtin.clear_,h0,bU hu,lI,aA]
       · cases h
     · cases h
 · cases h
theorem PB(ai:br μ H w){argTypes:Array TypeId}{ty t:TypeId}(h0:argTypes[0]? =some t){x:I}{bz:Value}(aa:bl μ x bz){v:I}(h:b9 P H t x=some v):
  eO P μ H w (Builtin.len_ argTypes ty #[bz]) v H:=by
 unfold b9 at h
 split at h
 · rename_i s hu;cases h
   obtain⟨bs,rfl,rfl⟩:=aa
   refine .same ai (v':=.int .i64 (bs.size:Int)) (by simp[Builtin.len_,h0,bU hu,goInt]) ?_
   have:bs.data.toList.length=bs.size:=Array.length_toList
   rw[this];rfl
 · rename_i n e hu;cases h
   exact .same ai (v':=.int .i64 (n:Int)) (by simp[Builtin.len_,h0,bU hu,goInt]) rfl
 · rename_i e b off n cap hu;cases h
   obtain⟨i,af,ag⟩:=aa
   have:∃a c,bz=.slice a n c:=by
    cases cap with
    |exact c=>cases ag;exact⟨_,c,rfl⟩
    |a1 gz=>obtain⟨c,rfl,_⟩:=ag;exact⟨_,c,rfl⟩
    |dead=>obtain⟨rfl,a,c,rfl⟩:=ag;exact⟨_,c,rfl⟩
   obtain⟨a,c,rfl⟩:=this
   exact .same ai (v':=.int .i64 (n:Int)) (by simp[Builtin.len_,h0,bU hu,goInt]) rfl
 · rename_i hu;cases h;cases aa
   exact .same ai (v':=.int .i64 0) (by simp[Builtin.len_,h0,bU hu,goInt]) rfl
 · rename_i hu;cases h;cases aa
   exact .same ai (v':=.int .i64 0) (by simp[Builtin.len_,h0,bU hu,goInt]) rfl
 · rename_i r hu
   split at h
   · rename_i es c al
     cases h
     obtain⟨i,af,rfl⟩:=aa
     obtain⟨ents,aA,ay⟩:=ai.rel _ _ i al af
     have hlen:es.length=ents.length:=by
      clear aA al
      induction es generalizing ents with
      |nil=>cases ay;rfl
      |cons e es a6=>obtain⟨m,ms,rfl,_,ad⟩:=ay;simp[a6 ms ad]
     refine .same ai (v':=.int .i64 (ents.length:Int)) ?_ (by rw[hlen];rfl)
     simp[Builtin.len_,h0,bU hu,goInt,getObj,Sem.run,aA]
   · cases h
 · rename_i arr hu
   split at h
   · rename_i n e oZ;cases h
     exact .same ai (v':=.int .i64 (n:Int)) (by simp[Builtin.len_,h0,bU hu,bU oZ,goInt]) rfl
   · cases h
 · cases h
theorem PC(ai:br μ H w){argTypes:Array TypeId}{ty t:TypeId}(h0:argTypes[0]? =some t){x:I}{bz:Value}(aa:bl μ x bz){v:I}(h:uk P t x=some v):
  eO P μ H w (Builtin.cap_ argTypes ty #[bz]) v H:=by
 unfold uk at h
 split at h
 · rename_i n e hu;cases h
   exact .same ai (v':=.int .i64 (n:Int)) (by simp[Builtin.cap_,h0,bU hu,goInt]) rfl
 · rename_i e b off n c hu;cases h
   obtain⟨i,af,ag⟩:=aa
   cases ag
   exact .same ai (v':=.int .i64 (c:Int)) (by simp[Builtin.cap_,h0,bU hu,goInt]) rfl
 · rename_i hu;cases h;cases aa
   exact .same ai (v':=.int .i64 0) (by simp[Builtin.cap_,h0,bU hu,goInt]) rfl
 · cases h
theorem CM(f:I->I->Option I)(F:Value->Value->Sem Value)(hf:∀x y z bz gu,f x y=some z->bl μ x bz->bl μ y gu->∃fr,(F bz gu).run P w=.ok fr w/\bl μ z fr):
  ∀(l:List I) (x:I) (bz:Value) (kL:List Value) (z:I),bl μ x bz->b_ μ l kL->k7 f x l=some z->∃fr,(kL.foldlM F bz).run P w=.ok fr w/\bl μ z fr
 |[],x,bz,kL,z,aa,aw,h=>by
  cases aw;simp[k7] at h;subst h
  exact⟨bz,rfl,aa⟩
 |y::l,x,bz,kL,z,aa,⟨gu,Hw,e,aW,aw⟩,h=>by
  subst e
  simp only[k7] at h
  split at h
  · rename_i u hu
    obtain⟨PD,r1,r2⟩:=hf x y u bz gu hu aa aW
    obtain⟨fr,s1,s2⟩:=CM f F hf l u PD Hw z r2 aw h
    exact⟨fr,by simp only[List.foldlM_cons,Sem.run_bind,r1,Result.andThen_ok,s1],s2⟩
  · cases h
theorem PE{x y z:I}{bz gu:Value}(h:pL x y=some z)(aa:bl μ x bz)(aW:bl μ y gu):∃fr,(Builtin.min2 bz gu).run P w=.ok fr w/\bl μ z fr:=by
 unfold pL at h
 split at h
 · split at h
   · rename_i aq;cases h;subst aq
     cases aa;cases aW
     exact⟨_,rfl,by simp[bl,bM]⟩
   · cases h
 · cases h
theorem PF{x y z:I}{bz gu:Value}(h:qO x y=some z)(aa:bl μ x bz)(aW:bl μ y gu):∃fr,(Builtin.max2 bz gu).run P w=.ok fr w/\bl μ z fr:=by
 unfold qO at h
 split at h
 · split at h
   · rename_i aq;cases h;subst aq
     cases aa;cases aW
     exact⟨_,rfl,by simp[bl,bM]⟩
   · cases h
 · cases h
end
end aM
namespace aM
open Go
section
variable {P:Program} {μ:bp} {H:J} {w:World}
theorem Hx:∀(cs:List I) (bs:List UInt8) (us:List Value),m0 cs=some bs->b_ μ cs us->us=bs.map λb=>.int .u8 (b.toNat:Int)
 |[],bs,us,h,ak=>by cases ak;simp[m0] at h;subst h;rfl
 |c::cs,bs,us,h,⟨v,vs,e,ab,ad⟩=>by
  subst e
  unfold m0 at h
  split at h
  · rename_i heq;cases heq
  · rename_i n l heq
    cases heq
    split at h
    · rename_i r aK ak
      cases h
      cases ab
      rw[Hx cs r vs ak ad]
      simp only[Nat.blt_eq] at aK
      have:n %256=n:=Nat.mod_eq_of_lt aK
      simp[UInt8.toNat_ofNat',this]
    · cases h
  · cases h
theorem Hy(w:World):∀(bs:List UInt8) (acc:ByteArray),(forIn (bs.map λb=>Value.int .u8 (b.toNat:Int)) acc λc s=>
  (match c with
  |.int .u8 n=>pure (ForInStep.yield (s.push (UInt8.ofNat n.toNat)))
  |_=>do stuck "bytesToString: byte expected";pure (ForInStep.yield s):Sem (ForInStep ByteArray))).run P w=.ok ⟨acc.data++bs.toArray⟩ w
 |[],acc=>by simp
 |b::bs,acc=>by
  simp only[List.map_cons,List.forIn_cons,Sem.run_bind,Sem.run_pure,Result.andThen_ok,Hy w bs]
  congr 1
  simp[ByteArray.ext_iff,ByteArray.push]
theorem PG(ai:br μ H w){b off n:Nat}{cap:b3}(kj:cap≠ .dead){bz:Value}(aa:bl μ (.slice b off n cap) bz){cs:List I}(aw:loadCells H b off n=some cs){bs:List UInt8}(ae:m0 cs=some bs):
  eO P μ H w (Conv.bytesToString bz) (.str bs) H:=by
 obtain⟨i,af,ag⟩:=aa
 have:∃c,bz=.slice (some ⟨i.bk,i.base+off,none⟩) n c:=by
  cases cap with
  |exact c=>cases ag;exact⟨c,rfl⟩
  |a1 gz=>obtain⟨c,rfl,_⟩:=ag;exact⟨c,rfl⟩
  |dead=>exact absurd rfl kj
 obtain⟨c,rfl⟩:=this
 obtain⟨us,ab,ad⟩:=q0 (P:=P) ai af aw
 have iM:=Hx cs bs us ae ad
 subst iM
 refine .same ai (v':=.string ⟨bs.toArray⟩) ?_ ⟨_,rfl,by simp⟩
 simp only[Conv.bytesToString,Sem.run_bind,ab,Result.andThen_ok]
 have e:=Hy (P:=P) w bs ByteArray.empty
 rw[<-List.forIn_toArray] at e
 refine(congrArg (λr=>Result.andThen r _) e).trans ?_
 simp
theorem PH(ai:br μ H w){e:TypeId}{bs:ByteArray}:
  eO P μ H w (Conv.stringToBytes e bs) (.slice H.n 0 bs.data.toList.length (.a1 1)) (H.push (.cells (c8 bs.data.toList) e .a1 0 0)):=by
 have zO:(Question.appendCap bs.size 0 e).forced=false:=rfl
 have bw:bs.data.toList.length=bs.size:=Array.length_toList
 obtain⟨cap,kj,hle⟩:∃cap,(Question.appendCap bs.size 0 e).cut (w.tape w.drawn (Question.appendCap bs.size 0 e))=cap/\bs.size<=cap:=⟨_,rfl,by simp[Question.cut]⟩
 have zU:=ai.drew.nU ⟨w.heap.size,0,cap⟩
 let c:Array Value:=(bs.data.map λb=>.int .u8 b.toNat)++Array.replicate (cap-bs.size) (.int .u8 0)
 have fx:c.size=cap:=by
  have:bs.data.size=bs.size:=rfl
  simp only[c,Array.size_append,Array.size_map,Array.size_replicate,this];omega
 have lE:zG (fm μ H.n ⟨w.heap.size,0,cap⟩) (c8 bs.data.toList) c 0:=λj v aL=>by
  obtain⟨u,hu,ak⟩:=(zM μ bs.data.toList).get aL
  refine⟨u,?_,ak.mono zU⟩
  have uC:j<bs.data.size:=by
   rcases Nat.lt_or_ge j bs.data.size with h|h
   · exact h
   · rw[List.getElem?_eq_none (by simpa using h)] at hu;cases hu
  simp only[c,Nat.zero_add]
  rw[Array.getElem?_append_left (by simpa using uC)]
  simpa using hu
 have PI:br (fm μ H.n ⟨w.heap.size,0,cap⟩) (H.push (.cells (c8 bs.data.toList) e .a1 0 0)) (w.drew.alloc (.cells c e))/\b7 μ H w.drew (fm μ H.n ⟨w.heap.size,0,cap⟩) (H.push (.cells (c8 bs.data.toList) e .a1 0 0)) (w.drew.alloc (.cells c e)):=
  ai.drew.alloc (.cells (c8 bs.data.toList) e .a1 0 0) (.cells c e) cap
  ⟨c,0,0,World.heap_alloc_new _ _,lE,by simp[fx],by
    refine⟨?_,λj _ _ h=>by omega⟩
    rw[zS,bw];exact hle⟩
 obtain⟨r1,r2⟩:=PI
 let cG:World:=(w.drew.alloc (.cells c e)).freeze ⟨w.heap.size,cap,none⟩ 1
 have CN:cG.heap[w.heap.size]? =some (.cells c e (cap,cap+1)):=by
  simp only[cG,World.freeze,if_neg (show¬(1=0) by omega),Array.getElem?_modify]
  have:(w.drew.alloc (.cells c e)).heap[w.heap.size]? =some (.cells c e (0,0)):=World.heap_alloc_new _ _
  rw[this];simp
 have q8:(H.push (.cells (c8 bs.data.toList) e .a1 0 0)).get H.n=some (.cells (c8 bs.data.toList) e .a1 0 0):=by rw[J.gk,if_pos rfl]
 have ch:br (fm μ H.n ⟨w.heap.size,0,cap⟩) ((H.push (.cells (c8 bs.data.toList) e .a1 0 0)).set H.n (some (.cells (c8 bs.data.toList) e .a1 0 0))) cG/\
   b7 (fm μ H.n ⟨w.heap.size,0,cap⟩) (H.push (.cells (c8 bs.data.toList) e .a1 0 0)) (w.drew.alloc (.cells c e)) (fm μ H.n ⟨w.heap.size,0,cap⟩) ((H.push (.cells (c8 bs.data.toList) e .a1 0 0)).set H.n (some (.cells (c8 bs.data.toList) e .a1 0 0))) cG:=
  r1.update q8 rfl (gp _ _ _) (by simp[cG,World.freeze]) (λr ak=>by
   simp only[cG,World.freeze,if_neg (show¬(1=0) by omega),Array.getElem?_modify]
   rw[if_neg (λe=>ak e.symm)]) (by simp[cG,World.freeze]) (by simp[cG,World.freeze]) (by simp[cG,World.freeze])
   ⟨c,cap,cap+1,CN,lE,by simp[fx],by
     refine⟨by rw[zS,bw];exact hle,λj sB sC Ht=>by simp only at sB sC;omega⟩⟩
 refine⟨fm μ H.n ⟨w.heap.size,0,cap⟩,cG,.slice (some ⟨w.heap.size,0,none⟩) bs.size cap,?_,⟨⟨w.heap.size,0,cap⟩,gp _ _ _,cap,by simp[bw],by rw[bw];exact hle,by simp⟩,?_,?_⟩
 · simp only[Conv.stringToBytes,Sem.run_bind,run_choose,zO,Bool.false_eq_true,if_false,World.drew_eq,Result.andThen_ok,kj]
   have aA:(_root_.Go.newRow e c).run P w.drew=.ok ⟨w.heap.size,0,none⟩ (w.drew.alloc (.cells c e)):=rfl
   rw[show(_root_.Go.newRow e ((bs.data.map λb=>.int .u8 b.toNat)++Array.replicate (cap-bs.size) (.int .u8 0))).run P w.drew=_ from aA]
   have ay:(w.drew.alloc (.cells c e)).shape? w.heap.size=some (e,cap):=by
    have:(w.drew.alloc (.cells c e)).heap[w.heap.size]? =some (.cells c e (0,0)):=World.heap_alloc_new _ _
    simp only[World.shape?,this,fx]
   simp only[Result.andThen_ok,markStringish,Sem.run_bind,run_shape,ay,run_freeze,Sem.run_pure]
   rfl
 ·
  refine⟨λb o i ae af=>ch.1.rel b o i ?_ af,λb c' i j ae ag=>ch.1.inj b c' i j ?_ ?_,ch.1.lt,λb ae=>?_⟩
  · rw[J.cR];split
    · rename_i e;subst e;rw[q8] at ae;exact ae
    · exact ae
  · rw[J.cR];split
    · simp
    · exact ae
  · rw[J.cR];split
    · exact⟨_,rfl,rfl⟩
    · exact ag
  · exact r1.bound b ae
 · refine b7.trans ai ai.drew b7.drew (b7.trans ai.drew r1 r2 ⟨e2.refl _,ch.2.size,Nat.le_refl _,λ_ _ h=>h,λ_ _ _=>rfl,ch.2.old,λb i h an=>(by rw[h] at an;cases an),λb o i ae ak af=>⟨ae,(ch.2.ro b o i ae ak af).2⟩,ch.2.os,ch.2.out,ch.2.tape,ch.2.drawn⟩)
theorem PJ{i:eM}{o o':Nat}:(sameAddr ⟨i.bk,i.base+o,none⟩ ⟨i.bk,i.base+o',none⟩).run P w=.ok (Nat.beq o o') w:=by
 simp only[sameAddr,beq_self_eq_true,if_true,Sem.run_pure]
 congr 1
 rw[Bool.eq_iff_iff]
 simp
theorem PK{r r' o o' el o1:Nat}{c c':Array Value}(h:w.heap[r]? =some (.cells c el (0,0)))(an:w.heap[r']? =some (.cells c' o1 (0,0)))(cV:r≠r'):
  (sameAddr ⟨r,o,none⟩ ⟨r',o',none⟩).run P w=.ok false w:=by
 have ae:(r==r')=false:=beq_eq_false_iff_ne.2 cV
 have f1:∀k,w.frozen? ⟨r,k,none⟩=false:=λk=>by simp[World.frozen?,h]
 have f2:∀k,w.frozen? ⟨r',k,none⟩=false:=λk=>by simp[World.frozen?,an]
 have s1:w.shape? r=some (el,c.size):=by simp[World.shape?,h]
 have s2:w.shape? r'=some (o1,c'.size):=by simp[World.shape?,an]
 simp[sameAddr,ae,f1,f2,noView,viewAt,s1,s2,mayBeOne,stringish]
theorem CO(w:World)(D:Nat)(E:TypeId->I->I->Option Bool)(fp:∀t x y b bz gu,E t x y=some b->bl μ x bz->bl μ y gu->(Op.equalIn D t bz gu).run P w=.ok b w)
  {xs ys:List I}{p3 sE:List Value}(aa:b_ μ xs p3)(aW:b_ μ ys sE):∀(bR:List Field) (b:Bool),eqFields P E xs ys bR=some b->(Op.eqFields D ⟨p3⟩ ⟨sE⟩ bR).run P w=.ok b w
 |[],b,h=>by cases h;rfl
 |f::bR,b,h=>by
  simp only[eqFields] at h
  split at h
  · rename_i aK
    have aK:f.name= "_" :=of_decide_eq_true aK
    have a6:=CO w D E fp aa aW bR b h
    simp only[Op.eqFields,aK,ne_eq,not_true_eq_false,if_false]
    exact a6
  · rename_i aK
    have aK:¬(f.name= "_"):=of_decide_eq_false aK
    split at h
    · rename_i a c aS ag
      obtain⟨xc,eN,fR⟩:=q7 (P:=P) (w:=w) aa aS
      obtain⟨p4,ba,a7⟩:=q7 (P:=P) (w:=w) aW ag
      split at h
      · rename_i he
        have ak:=fp _ _ _ _ xc p4 he fR a7
        have a6:=CO w D E fp aa aW bR b h
        simp only[Op.eqFields,ne_eq,aK,not_false_eq_true,if_true,Sem.run_bind,eN,ba,Result.andThen_ok,ak,Bool.not_true,Bool.false_eq_true,if_false]
        exact a6
      · rename_i r ak
        cases b with
        |true=>exact absurd h ak
        |false=>
         have xd:=fp _ _ _ _ xc p4 h fR a7
         simp only[Op.eqFields,ne_eq,aK,not_false_eq_true,if_true,Sem.run_bind,eN,ba,Result.andThen_ok,xd,Bool.not_false,Sem.run_pure]
    · cases h
theorem Hz(w:World)(D:Nat){e:TypeId}{sz:Nat}(E:TypeId->I->I->Option Bool)(fp:∀t x y b bz gu,E t x y=some b->bl μ x bz->bl μ y gu->(Op.equalIn D t bz gu).run P w=.ok b w){xs ys:List I}{p3 sE:List Value}(aa:b_ μ xs p3)(aW:b_ μ ys sE):
  ∀(n i:Nat) (b:Bool),wH P E e sz xs ys n i=some b->(Op.eqItems D e sz ⟨p3⟩ ⟨sE⟩ (List.range' i n)).run P w=.ok b w
 |0,i,b,h=>by simp only[wH] at h;cases h;simp[Op.eqItems]
 |n+1,i,b,h=>by
  simp only[wH] at h
  rw[List.range'_succ]
  split at h
  · rename_i a c aS ag
    obtain⟨xc,eN,fR⟩:=q7 (P:=P) (w:=w) aa aS
    obtain⟨p4,ba,a7⟩:=q7 (P:=P) (w:=w) aW ag
    split at h
    · rename_i he
      have ak:=fp _ _ _ _ xc p4 he fR a7
      have a6:=Hz w D E fp aa aW n (i+1) b h
      simp only[Op.eqItems,Sem.run_bind,eN,ba,Result.andThen_ok,ak,Bool.not_true,Bool.false_eq_true,if_false]
      exact a6
    · rename_i r ak
      cases b with
      |true=>exact absurd h ak
      |false=>
       have xd:=fp _ _ _ _ xc p4 h fR a7
       simp only[Op.eqItems,Sem.run_bind,eN,ba,Result.andThen_ok,xd,Bool.not_false,if_true,Sem.run_pure]
  · cases h
set_option maxHeartbeats 4000000 in
theorem sF(ai:br μ H w):∀(d:Nat) (t:TypeId) (x y:I) (b:Bool) (bz gu:Value) (D:Nat),d<=D->fO P H d t x y=some b->bl μ x bz->bl μ y gu->(Op.equalIn D t bz gu).run P w=.ok b w
 |0,t,x,y,b,bz,gu,D,_,h,_,_=>by simp[fO] at h
 |d+1,t,x,y,b,bz,gu,0,ao,_,_,_=>by omega
 |d+1,t,x,y,b,bz,gu,D+1,ao,h,aa,aW=>by
  unfold fO at h
  cases hu:P.underlying t with
  |none=>rw[hu] at h;cases h
  |some u=>
   rw[hu] at h
   cases u<;>simp only at h
   case bool=>
    split at h<;>cases h
    cases aa;cases aW
    simp[Op.equalIn,bU hu]
   case int j1=>
    split at h
    · split at h
      · rename_i aq;cases h;subst aq;cases aa;cases aW
        simp[Op.equalIn,bU hu,a8]
      · cases h
    · cases h
   case string=>
    split at h<;>cases h
    obtain⟨s1,rfl,rfl⟩:=aa
    obtain⟨s2,rfl,rfl⟩:=aW
    rw[nW,<-q4,<-q4,<-beq_toListBytes]
    simp[Op.equalIn,bU hu]
   case pointer e=>
    split at h
    · cases h;cases aa;cases aW;simp[Op.equalIn,bU hu]
    · cases h;cases aa;obtain⟨i,_,rfl⟩:=aW;simp[Op.equalIn,bU hu]
    · cases h;cases aW;obtain⟨i,_,rfl⟩:=aa;simp[Op.equalIn,bU hu]
    · rename_i a i hK j
      split at h
      · rename_i n hs
        obtain⟨uD,CP,rfl⟩:=aa
        obtain⟨hc,zV,rfl⟩:=aW
        have bw:(_root_.Go.sizeOf e).run P w=.ok (n+1) w:=run_sizeOf hs
        have goal:∀r,(sameAddr ⟨uD.bk,uD.base+i,none⟩ ⟨hc.bk,hc.base+j,none⟩).run P w=r->(Op.equalIn (D+1) t (.pointer (some ⟨uD.bk,uD.base+i,none⟩)) (.pointer (some ⟨hc.bk,hc.base+j,none⟩))).run P w=r:=by
         intro r ak
         simp[Op.equalIn,bU hu,bw,ak]
        unfold Co at h
        split at h
        · rename_i fg
          cases h
          have:=Nat.eq_of_beq_eq_true fg
          subst this
          rw[CP] at zV;cases zV
          exact goal _ PJ
        · rename_i fg
          split at h
          · rename_i p5 zW
            cases h
            obtain⟨aG,_,_,bE,_,_,b0⟩:=ai.rel _ _ uD p5 CP
            obtain⟨a9,_,_,bB,_,_,b2⟩:=ai.rel _ _ hc zW zV
            obtain⟨_,_,rfl,rfl⟩:=b0
            obtain⟨_,_,rfl,rfl⟩:=b2
            refine goal _ (PK bE bB λe=>?_)
            have:=ai.inj _ _ uD hc (by rw[p5];simp) ⟨_,zW,rfl⟩ CP zV e
            subst this
            simp at fg
          · cases h
      · cases h
    · cases h
   case slice e=>
    have fS:∀(b off n:Nat) (c:b3) (v:Value),bl μ (.slice b off n c) v->∃a m k,v=.slice (some a) m k:=by
     rintro b off n c v ⟨i,_,ag⟩
     cases c with
     |exact c=>cases ag;exact⟨_,_,_,rfl⟩
     |a1 gz=>obtain⟨c,rfl,_⟩:=ag;exact⟨_,_,_,rfl⟩
     |dead=>obtain⟨_,a,c,rfl⟩:=ag;exact⟨_,_,_,rfl⟩
    split at h
    · cases h;cases aa;cases aW;simp[Op.equalIn,bU hu]
    · cases h;cases aa;obtain⟨a,m,k,rfl⟩:=fS _ _ _ _ _ aW;simp[Op.equalIn,bU hu]
    · cases h;cases aW;obtain⟨a,m,k,rfl⟩:=fS _ _ _ _ _ aa;simp[Op.equalIn,bU hu]
    · cases h
   case map k e=>
    split at h
    · cases h;cases aa;cases aW;simp[Op.equalIn,bU hu]
    · cases h;cases aa;obtain⟨i,_,rfl⟩:=aW;simp[Op.equalIn,bU hu]
    · cases h;cases aW;obtain⟨i,_,rfl⟩:=aa;simp[Op.equalIn,bU hu]
    · cases h
   case func ps rs v=>
    split at h
    · cases h;cases aa;cases aW;simp[Op.equalIn,bU hu]
    · cases h;cases aa;obtain⟨_,_,rfl,_⟩:=aW;simp[Op.equalIn,bU hu]
    · cases h;cases aW;obtain⟨_,_,rfl,_⟩:=aa;simp[Op.equalIn,bU hu]
    · cases h
   case interface ms=>
    split at h
    · cases h;cases aa;cases aW;simp[Op.equalIn,bU hu]
    · cases h;cases aa;obtain⟨_,rfl,_⟩:=aW;simp[Op.equalIn,bU hu]
    · cases h;cases aW;obtain⟨_,rfl,_⟩:=aa;simp[Op.equalIn,bU hu]
    · rename_i a v hK u
      obtain⟨v1,rfl,r1⟩:=aa
      obtain⟨jG,rfl,r2⟩:=aW
      split at h
      · rename_i fg
        cases h
        have:a≠hK:=by intro e;subst e;simp at fg
        simp[Op.equalIn,bU hu,this]
      · rename_i fg
        have:=Nat.eq_of_beq_eq_true fg
        subst this
        split at h
        · rename_i xe w_
          split at h
          · rename_i PL
            have a6:=sF ai d a v u b v1 jG D (by omega) h r1 r2
            simp[Op.equalIn,bU hu,run_typeInfo w_,PL,a6]
          · cases h
        · cases h
    · cases h
   case struct bR=>
    split at h
    · rename_i xs ys
      split at h
      · cases h
      · rename_i ch
        obtain⟨p3,rfl,fs⟩:=aa
        obtain⟨sE,rfl,CQ⟩:=aW
        have key:=CO (P:=P) w D (fO P H d) (λt x y b bz gu he ab ad=>sF ai d t x y b bz gu D (by omega) he ab ad) fs CQ bR.toList b h
        have nY:P.fieldsOf t=bR:=by simp[Program.fieldsOf,hu]
        rw[run_equalIn_struct w D t _ _ (by rw[nY];exact hu) ch,nY]
        exact key
    · cases h
   case array n e=>
    split at h
    · rename_i xs ys
      split at h
      · rename_i sz bw
        obtain⟨p3,rfl,fs⟩:=aa
        obtain⟨sE,rfl,CQ⟩:=aW
        have af:∃i,P.info? e=some i/\i.size=sz:=by
         unfold dh at bw
         split at bw
         · rename_i i af;cases bw;exact⟨i,af,rfl⟩
         · cases bw
        obtain⟨i,af,PM⟩:=af
        have PN:P.cellsOf e=sz:=by unfold Program.cellsOf;rw[af];exact PM
        rw[run_equalIn_array w D _ _ hu af,PN,List.range_eq_range']
        exact Hz w D (fO P H d) (λt x y b bz gu he ab ad=>sF ai d t x y b bz gu D (by omega) he ab ad) fs CQ n 0 b h
      · cases h
    · cases h
   all_goals cases h
theorem HA{u:TypeDesc}{kt:TypeId}(hu:P.underlying kt=some u){k x:I}{kv bz:Value}{b:Bool}(aq:nP P kt k=true)(h:oJ k x=some b)(ab:bl μ k kv)(ad:bl μ x bz):Instr.sameNow u kv bz=some b:=by
 unfold nP at aq
 rw[hu] at aq
 cases u<;>simp only at aq<;>try cases aq
 ·
  split at aq<;>try cases aq
  cases x<;>simp only[oJ] at h<;>cases h
  cases ab;cases ad;rfl
 ·
  split at aq<;>try cases aq
  cases x<;>simp only[oJ] at h<;>try cases h
  split at h
  · rename_i e;cases h;subst e;cases ab;cases ad;simp[Instr.sameNow,a8]
  · cases h
 · split at aq<;>try cases aq
   cases x<;>simp only[oJ] at h<;>cases h
   obtain⟨s1,rfl,rfl⟩:=ab
   obtain⟨s2,rfl,rfl⟩:=ad
   simp only[Instr.sameNow]
   rw[nW,<-q4,<-q4,<-beq_toListBytes]
def zX(μ:bp):Option (Nat×I)->Option (Nat×Value)->Prop
 |none,none=>True
 |some (i,a),some (j,v)=>i=j/\bl μ a v
 |_,_=>False
theorem HB{H:J}{kt:TypeId}{k x:I}(aq:∀cs,k≠ .agg cs):oK P H kt k x=oJ k x:=by
 cases k<;>first|rfl|exact absurd rfl (aq _)
theorem HC{kt:TypeId}{k:I}(aq:∀cs,k≠ .agg cs)(h:lB P kt k=true):nP P kt k=true:=by
 cases k<;>first|exact h|exact absurd rfl (aq _)
theorem HD{H:J}{u:TypeDesc}{kt:TypeId}(hu:P.underlying kt=some u){k:I}{kv:Value}(hs:∀cs,k≠ .agg cs)(aq:nP P kt k=true)(ab:bl μ k kv):∀(es:List dK) (ents:List MapEntry) (i:Nat) (r:Option (Nat×I)),fQ μ es ents->jo P H kt k es i=some r->
  ∃r',Instr.findNow u kv ents i=some r'/\zX μ r r'
 |[],_,i,r,he,h=>by
  cases he;simp[jo] at h;subst h
  exact⟨none,rfl,trivial⟩
 |e::es,_,i,r,⟨m,ms,aA,ay,bx⟩,h=>by
  subst aA
  simp only[jo,HB hs] at h
  split at h
  · rename_i hs
    cases h
    exact⟨some (i,m.val),by simp[Instr.findNow,HA hu aq hs ab ay.1],rfl,ay.2.1⟩
  · rename_i aT
    obtain⟨r',ba,a7⟩:=HD hu hs aq ab es ms (i+1) r bx h
    exact⟨r',by simp[Instr.findNow,HA hu aq aT ab ay.1,ba],a7⟩
  · cases h
theorem HE(ai:br μ H w){kt:TypeId}{cs:List I}{kv:Value}(ab:bl μ (.agg cs) kv):∀(es:List dK) (ents:List MapEntry) (i:Nat) (r:Option (Nat×I)),fQ μ es ents->jo P H kt (.agg cs) es i=some r->
  ∃r',(Instr.findAsking kt kv ents i).run P w=.ok r' w/\zX μ r r'
 |[],_,i,r,he,h=>by
  cases he;simp[jo] at h;subst h
  exact⟨none,rfl,trivial⟩
 |e::es,_,i,r,⟨m,ms,aA,ay,bx⟩,h=>by
  subst aA
  simp only[jo,oK] at h
  split at h
  · rename_i hs
    cases h
    have:=sF (P:=P) ai 8 kt _ _ true kv m.key Op.maxDepth (by decide) hs ab ay.1
    exact⟨some (i,m.val),by simp[Instr.findAsking,Op.equal,this],rfl,ay.2.1⟩
  · rename_i hs
    have:=sF (P:=P) ai 8 kt _ _ false kv m.key Op.maxDepth (by decide) hs ab ay.1
    obtain⟨r',ba,a7⟩:=HE ai ab es ms (i+1) r bx h
    exact⟨r',by simp[Instr.findAsking,Op.equal,this,ba],a7⟩
  · cases h
theorem CR{H:J}{kt:TypeId}{k:I}:∀(es:List dK) (i:Nat) (j:Nat) (v:I),jo P H kt k es i=some (some (j,v))->i<=j/\∃e,es[j-i]? =some e/\e.val=v/\oK P H kt k e.key=some true
 |[],i,j,v,h=>by simp[jo] at h
 |e::es,i,j,v,h=>by
  simp only[jo] at h
  split at h
  · rename_i hs
    cases h;exact⟨Nat.le_refl _,e,by simp,rfl,hs⟩
  · obtain⟨ab,cH,ad,ar⟩:=CR es (i+1) j v h
    refine⟨by omega,cH,?_,ar⟩
    have:j-i=(j-(i+1))+1:=by omega
    rw[this];simpa using ad
  · cases h
theorem CS{kt:TypeId}{k:I}{kv:Value}(aq:nP P kt k=true)(b:Bool)(n:Nat):(Instr.checkKey b (n+1) kt kv).run P w=.ok () w:=by
 unfold nP at aq
 cases hu:P.underlying kt with
 |none=>rw[hu] at aq;cases aq
 |some u=>
  rw[hu] at aq
  cases u<;>simp only at aq<;>try cases aq
  all_goals simp[Instr.checkKey,bU hu]
theorem HF(b:Bool){m n:Nat}(hm:m=n+1){cs:List I}{l:List Value}(aw:b_ μ cs l):∀(bR:List Field),zx P cs bR=true->
  (forIn bR PUnit.unit (λf _=>if f.name≠ "_" then(do let x<-part f.type ⟨l⟩ f.offset;Instr.checkKey b m f.type x;pure (ForInStep.yield PUnit.unit)) else pure (ForInStep.yield PUnit.unit)):Sem PUnit).run P w=.ok PUnit.unit w
 |[],h=>by simp
 |f::bR,h=>by
  unfold zx at h
  split at h
  · rename_i a aS
    split at h
    · rename_i aq
      have a6:=HF b hm aw bR h
      obtain⟨u,eN,fR⟩:=q7 (P:=P) (w:=w) aw aS
      have ag:=CS (P:=P) (w:=w) (kv:=u) aq b n
      rw[<-hm] at ag
      rw[List.forIn_cons]
      by_cases aK:f.name= "_"
      · simp only[aK,ne_eq,not_true_eq_false,if_false,Sem.run_bind,Sem.run_pure,Result.andThen_ok]
        exact a6
      · simp only[ne_eq,aK,not_false_eq_true,if_true,Sem.run_bind,eN,Result.andThen_ok,ag,Sem.run_pure]
        exact a6
    · cases h
  · cases h
theorem HG(b:Bool){m n:Nat}(hm:m=n+1){e:TypeId}{sz:Nat}(bw:dh P e=some sz){cs:List I}{l:List Value}(aw:b_ μ cs l):∀(k i:Nat),zy P e sz cs k i=true->
  (forIn (List.range' i k) PUnit.unit (λi _=>do (Instr.checkKey b m e (<-part e ⟨l⟩ (i*(<-_root_.Go.sizeOf e))));pure (ForInStep.yield PUnit.unit)):Sem PUnit).run P w=.ok PUnit.unit w
 |0,i,h=>by simp
 |k+1,i,h=>by
  unfold zy at h
  split at h
  · rename_i a aS
    split at h
    · rename_i aq
      have a6:=HG b hm bw aw k (i+1) h
      obtain⟨u,eN,fR⟩:=q7 (P:=P) (w:=w) aw aS
      have ag:=CS (P:=P) (w:=w) (kv:=u) aq b n
      rw[<-hm] at ag
      rw[List.range'_succ,List.forIn_cons]
      simp only[Sem.run_bind,run_sizeOf bw,eN,Result.andThen_ok,ag,Sem.run_pure]
      exact a6
    · cases h
  · cases h
theorem PO{kt:TypeId}{cs:List I}{l:List Value}(aw:b_ μ cs l)(aq:lB P kt (.agg cs)=true)(b:Bool){m n:Nat}(hm:m=n+1):(Instr.checkKey b (m+1) kt (.agg ⟨l⟩)).run P w=.ok () w:=by
 unfold lB at aq
 simp only at aq
 split at aq
 · rename_i bR hu
   have key:=HF (P:=P) (w:=w) b hm aw bR.toList aq
   simp only[Instr.checkKey,Sem.run_bind,bU hu,Result.andThen_ok]
   rw[<-Array.forIn_toList]
   first|exact key|exact Eq.trans (congrArg (λq=>Result.andThen q _) key) rfl|simpa using key
 · rename_i PQ e hu
   split at aq
   · rename_i sz bw
     have key:=HG (P:=P) (w:=w) b hm bw aw PQ 0 aq
     simp only[Instr.checkKey,Sem.run_bind,bU hu,Result.andThen_ok]
     simp only[Std.Legacy.Range.forIn_eq_forIn_range',Std.Legacy.Range.size,Nat.sub_zero,Nat.add_one_sub_one,Nat.div_one]
     first|exact key|exact Eq.trans (congrArg (λq=>Result.andThen q _) key) rfl|simpa using key
   · cases aq
 · cases aq
theorem o2{kt:TypeId}{k:I}{kv:Value}(aq:lB P kt k=true)(ab:bl μ k kv)(b:Bool):(Instr.checkKey b 10000 kt kv).run P w=.ok () w:=by
 by_cases hs:∀cs,k≠ .agg cs
 · exact CS (HC hs aq) b 9999
 · have:∃cs,k=.agg cs:=by
     cases k<;>first|exact⟨_,rfl⟩|exact absurd (λcs h=>by cases h) hs
   obtain⟨cs,rfl⟩:=this
   obtain⟨l,rfl,aw⟩:=ab
   exact PO aw aq b (m:=9999) (n:=9998) rfl
theorem ra(ai:br μ H w){kt:TypeId}{k:I}{kv:Value}(aq:lB P kt k=true)(ab:bl μ k kv){es:List dK}{ents:List MapEntry}{r:Option (Nat×I)}(he:fQ μ es ents)(h:jo P H kt k es 0=some r):
  ∃r',(Instr.findKey kt kv ents).run P w=.ok r' w/\zX μ r r':=by
 by_cases hs:∀cs,k≠ .agg cs
 · have eU:=HC hs aq
   cases hu:P.underlying kt with
   |none=>unfold nP at eU;rw[hu] at eU;cases eU
   |some u=>
    obtain⟨r',ba,a7⟩:=HD hu hs eU ab es ents 0 r he h
    exact⟨r',by simp[Instr.findKey,bU hu,ba],a7⟩
 · have:∃cs,k=.agg cs:=by
     cases k<;>first|exact⟨_,rfl⟩|exact absurd (λcs h=>by cases h) hs
   obtain⟨cs,rfl⟩:=this
   have hu:∃u,P.underlying kt=some u:=by
    unfold lB at aq
    simp only at aq
    split at aq
    · exact⟨_,by assumption⟩
    · exact⟨_,by assumption⟩
    · cases aq
   obtain⟨u,hu⟩:=hu
   obtain⟨r',ba,a7⟩:=HE (P:=P) ai ab es ents 0 r he h
   obtain⟨l,rfl,aw⟩:=ab
   refine⟨r',?_,a7⟩
   have aK:∀(ms:List MapEntry),ms≠[]->Instr.findNow u (.agg ⟨l⟩) ms 0=none:=λms PR=>by
    cases ms with
    |nil=>exact absurd rfl PR
    |cons m ms=>cases u<;>rfl
   cases ents with
   |nil=>
    cases es with
    |nil=>simp only[jo] at h;cases h;cases r' with
     |none=>simp[Instr.findKey,bU hu,Instr.findNow]
     |some y=>exact a7.elim
    |cons e es=>obtain⟨_,_,ag,_⟩:=he;cases ag
   |cons m ms=>
    simp only[Instr.findKey,Sem.run_bind,bU hu,Result.andThen_ok,aK (m::ms) (by simp)]
    exact ba
theorem fQ.append:∀{es bR:List dK} {ms ns:List MapEntry},fQ μ es ms->fQ μ bR ns->fQ μ (es++bR) (ms++ns)
 |[],_,_,_,h,an=>by cases h;exact an
 |_::_,_,_,_,⟨m,ms,e,ab,ad⟩,an=>by subst e;exact⟨m,ms++_,rfl,ab,fQ.append ad an⟩
theorem fQ.get:∀{es:List dK} {ms:List MapEntry} (_:fQ μ es ms) {j:Nat} {e:dK},es[j]? =some e->∃m,ms[j]? =some m/\qX μ e m
 |[],_,_,j,e,h=>by simp at h
 |x::es,_,⟨m,ms,e,ab,ad⟩,0,a,h=>by subst e;simp at h;subst h;exact⟨m,rfl,ab⟩
 |x::es,_,⟨m,ms,e,ab,ad⟩,j+1,a,h=>by subst e;simp at h;simpa using fQ.get ad h
theorem fQ.set{v key:I}{vv kv:Value}(aB:bl μ v vv)(aq:bl μ key kv):∀(i:Nat) {es:List dK} {ms:List MapEntry},fQ μ es ms->fQ μ (pM v key i es) (ms.modify i λe=>{e with key:=kv,val:=vv})
 |0,[],_,h=>by cases h;rfl
 |_+1,[],_,h=>by cases h;rfl
 |0,e::es,_,⟨m,ms,cH,ab,ad⟩=>by subst cH;exact⟨_,ms,rfl,⟨aq,aB,ab.2.2⟩,ad⟩
 |i+1,e::es,_,⟨m,ms,cH,ab,ad⟩=>by subst cH;exact⟨m,_,rfl,ab,fQ.set aB aq i ad⟩
theorem fQ.del:∀(i:Nat) {es:List dK} {ms:List MapEntry},fQ μ es ms->fQ μ (wK i es) (ms.eraseIdx i)
 |0,[],_,h=>by cases h;rfl
 |_+1,[],_,h=>by cases h;rfl
 |0,e::es,_,⟨m,ms,cH,ab,ad⟩=>by subst cH;exact ad
 |i+1,e::es,_,⟨m,ms,cH,ab,ad⟩=>by subst cH;exact⟨m,_,rfl,ab,fQ.del i ad⟩
theorem xf{r:Nat}{i:eM}{es:List dK}{clock:Nat}(ai:br μ H w)(af:μ r=some i)(al:H.get r=some (.map es clock)):∃ents,w.heap[i.bk]? =some (.map ⟨ents⟩ clock)/\fQ μ es ents/\(getObj i.bk).run P w=.ok (.map ⟨ents⟩ clock) w:=by
 obtain⟨ents,aA,ay⟩:=ai.rel _ _ i al af
 exact⟨ents,aA,ay,by simp[getObj,Sem.run,aA]⟩
theorem sG{r:Nat}{i:eM}{es rb:List dK}{clock c':Nat}{ents ents':List MapEntry}(ai:br μ H w)(af:μ r=some i)(al:H.get r=some (.map es clock))(he:w.heap[i.bk]? =some (.map ⟨ents⟩ clock))(ak:fQ μ rb ents'):
  ∃w',(setObj i.bk (.map ⟨ents'⟩ c')).run P w=.ok () w'/\br μ (H.set r (some (.map rb c'))) w'/\b7 μ H w μ (H.set r (some (.map rb c'))) w':=by
 have b8:i.bk<w.heap.size:=(ai.lt _ _ af).2
 obtain⟨r1,r2⟩:=ai.update (w':={w with heap:=w.heap.setIfInBounds i.bk (.map ⟨ents'⟩ c')}) (o':=.map rb c') al rfl af (by simp) (λr ak=>by simp[Array.getElem?_setIfInBounds];intro e;exact absurd e.symm ak) rfl rfl rfl
  ⟨ents',by simp[b8],ak⟩
 exact⟨_,by simp[setObj,Sem.run,he],r1,r2⟩
end
end aM
namespace aM
open Go
section
variable {P:Program} {μ:bp} {H:J} {w:World}
theorem HH{iZ:TypeId}{ok:Bool}{r:Option (Nat×I)}{r':Option (Nat×Value)}(ak:zX μ r r'){v:I}(h:oL P iZ ok r=some v):
  ∃u b,bl μ v (if ok then .tuple #[u,.bool b] else u)/\((∃j,r'=some (j,u)/\b=true)\/(r'=none/\(zeroValue iZ).run P w=.ok u w/\b=false)):=by
 cases r with
 |none=>
  cases r' with
  |some x=>exact ak.elim
  |none=>
   simp only[oL] at h
   split at h
   · rename_i z aZ
     cases h
     obtain⟨fr,ba,rfl,_⟩:=lF (P:=P) (w:=w) aZ
     have:=jY μ fr
     refine⟨fr,false,?_,.inr ⟨rfl,ba,rfl⟩⟩
     cases ok
     · exact this
     · exact⟨_,rfl,_,_,rfl,this,_,_,rfl,rfl,rfl⟩
   · cases h
 |some x=>
  cases r' with
  |none=>exact ak.elim
  |some y=>
   obtain⟨i,a⟩:=x
   obtain⟨j,u⟩:=y
   obtain⟨rfl,uE⟩:=ak
   simp only[oL] at h
   cases h
   refine⟨u,true,?_,.inl ⟨_,rfl,rfl⟩⟩
   cases ok
   · exact uE
   · exact⟨_,rfl,_,_,rfl,uE,_,_,rfl,rfl,rfl⟩
theorem PS(ai:br μ H w){t:TypeId}{m k:I}{gY kv:Value}(hm:bl μ m gY)(aq:bl μ k kv){ok:Bool}{v:I}(h:h9 P H t m k ok=some v):eO P μ H w (Instr.lookup t gY kv ok) v H:=by
 unfold h9 at h
 split at h
 · rename_i kt iZ hu
   split at h
   · rename_i jb
     split at h
     · cases hm
       obtain⟨u,b,ba,a7⟩:=HH (P:=P) (w:=w) (μ:=μ) (r:=none) (r':=none) trivial h
       refine .same ai (v':=if ok then .tuple #[u,.bool b] else u) ?_ ba
       have hf:(Instr.findKey kt kv []).run P w=.ok none w:=by
        obtain⟨r',cw,c2⟩:=ra (P:=P) (w:=w) (μ:=μ) (es:=[]) (ents:=[]) (r:=none) ai jb aq rfl rfl
        cases r' with
        |none=>exact cw
        |some x=>exact c2.elim
       rcases a7 with⟨j,e,_⟩|⟨_,a7,rfl⟩
       · cases e
       · simp[Instr.lookup,bU hu,o2 jb aq,hf,a7]
     · rename_i r
       split at h
       · rename_i es clock al
         split at h
         · rename_i c3 hf
           obtain⟨i,af,rfl⟩:=hm
           obtain⟨ents,aA,ay,bx⟩:=xf (P:=P) ai af al
           obtain⟨r',cw,c2⟩:=ra (P:=P) (w:=w) ai jb aq ay hf
           obtain⟨u,b,ba,a7⟩:=HH (P:=P) (w:=w) (μ:=μ) c2 h
           refine .same ai (v':=if ok then .tuple #[u,.bool b] else u) ?_ ba
           rcases a7 with⟨j,rfl,rfl⟩|⟨rfl,a7,rfl⟩
           · simp[Instr.lookup,bU hu,o2 jb aq,bx,cw]
           · simp[Instr.lookup,bU hu,o2 jb aq,bx,cw,a7]
         · cases h
       · cases h
     · cases h
   · cases h
 · cases h
theorem HI{k x:I}{kv bz:Value}(n:Nat)(h:oJ k x=some true)(ab:bl μ k kv)(ad:bl μ x bz):Instr.sameBits n bz kv=true:=by
 cases k<;>cases x<;>simp only[oJ] at h<;>try cases h
 · simp at h;subst h;cases ab;cases ad;simp[Instr.sameBits]
 · split at h
   · rename_i e;subst e
     simp[a8] at h;subst h;cases ab;cases ad;simp[Instr.sameBits]
   · cases h
 · simp only[Option.some.injEq] at h
   obtain⟨s1,rfl,rfl⟩:=ab
   obtain⟨s2,rfl,rfl⟩:=ad
   rw[nW,<-q4,<-q4,<-beq_toListBytes] at h
   have:(s2==s1)=true:=by rw[beq_toListBytes] at h⊢;rw[beq_iff_eq] at h⊢;exact h.symm
   simpa[Instr.sameBits] using this
theorem HJ(n:Nat):∀(a b:List I) (sH lJ:List Value),wI a b=true->b_ μ a sH->b_ μ b lJ->lJ.length=sH.length/\(lJ.zip sH).all (λ(x,y)=>Instr.sameBits n x y)=true
 |[],[],sH,lJ,_,ab,ad=>by cases ab;cases ad;exact⟨rfl,rfl⟩
 |[],_::_,_,_,h,_,_=>by cases h
 |_::_,[],_,_,h,_,_=>by cases h
 |x::a,y::b,_,_,h,⟨u,us,rfl,jG,uF⟩,⟨v,vs,rfl,v1,v2⟩=>by
  unfold wI at h
  split at h
  · rename_i hs
    obtain⟨aA,ay⟩:=HJ n a b us vs h uF v2
    refine⟨by simp[aA],?_⟩
    rw[List.zip_cons_cons,List.all_cons,ay,Bool.and_true]
    exact HI n hs jG v1
  · cases h
theorem HK{kt:TypeId}{k x:I}{kv bz:Value}(h:oK P H kt k x=some true)(ch:qP k x=true)(ab:bl μ k kv)(ad:bl μ x bz):Instr.sameBits 10000 bz kv=true:=by
 by_cases hs:∀cs,k≠ .agg cs
 · rw[HB hs] at h
   exact HI 10000 h ab ad
 · have:∃cs,k=.agg cs:=by
     cases k<;>first|exact⟨_,rfl⟩|exact absurd (λcs h=>by cases h) hs
   obtain⟨a,rfl⟩:=this
   have:∃b,x=.agg b:=by
    cases x<;>first|exact⟨_,rfl⟩|cases ch
   obtain⟨b,rfl⟩:=this
   obtain⟨sH,rfl,uF⟩:=ab
   obtain⟨lJ,rfl,v2⟩:=ad
   have PT:wI a b=true:=ch
   obtain⟨aA,ay⟩:=HJ (μ:=μ) 9999 a b sH lJ PT uF v2
   show Instr.sameBits (9999+1) (.agg ⟨lJ⟩) (.agg ⟨sH⟩)=true
   generalize 9999=n at ay⊢
   simp only[Instr.sameBits]
   rw[ay,Bool.and_true]
   simp[aA]
theorem CT(l:List MapEntry)(i:Nat)(f:MapEntry->MapEntry):(⟨l⟩:Array MapEntry).modify i f=⟨l.modify i f⟩:=by
 apply Array.ext'
 simp
theorem HL(ai:br μ H w){t:TypeId}{m k x:I}{gY kv bz:Value}(hm:bl μ m gY)(aq:bl μ k kv)(aa:bl μ x bz){aV:J}(h:uo P H t m k x=some aV):
  ∃w',(Instr.mapUpdate t gY kv bz).run P w=.ok () w'/\br μ aV w'/\b7 μ H w μ aV w':=by
 unfold uo at h
 split at h
 · rename_i kt iZ hu
   split at h
   · rename_i jb
     split at h
     · rename_i r
       split at h
       · rename_i es clock al
         obtain⟨i,af,rfl⟩:=hm
         obtain⟨ents,aA,ay,bx⟩:=xf (P:=P) ai af al
         split at h
         · rename_i j a hf
           have sI:qP k (wJ j es)=true:=by
            cases ag:qP k (wJ j es) with
            |true=>rfl
            |false=>rw[ag] at h;cases h
           rw[sI] at h
           cases h
           obtain⟨r',cw,c2⟩:=ra (P:=P) (w:=w) ai jb aq ay hf
           cases r' with
           |none=>exact c2.elim
           |some y=>
            obtain⟨jF,u⟩:=y
            obtain⟨rfl,uE⟩:=c2
            obtain⟨_,nf,ba,a7,b5⟩:=CR es 0 j a hf
            obtain⟨lK,eN,fR⟩:=ay.get (by simpa using ba)
            have sI:qP k nf.key=true:=by
             have:wJ j es=nf.key:=by unfold wJ;rw[pU,show es[j]? =some nf by simpa using ba]
             rw[<-this];exact sI
            have ch:(Instr.keyThatStays (((ents[j]?).map (·.key)).getD kv) kv).run P w=.ok kv w:=by
             simp only[Instr.keyThatStays,eN,Option.map_some,Option.getD_some,HK b5 sI aq fR.1,if_true,Sem.run_pure]
            obtain⟨w',ei,gf,lL⟩:=sG (P:=P) (c':=clock) ai af al aA (ay.set aa aq j)
            refine⟨w',?_,gf,lL⟩
            simp only[Instr.mapUpdate,Sem.run_bind,bU hu,Result.andThen_ok,bx,o2 jb aq,cw,List.getElem?_toArray,ch,CT,ei]
         · rename_i hf
           cases h
           obtain⟨r',cw,c2⟩:=ra (P:=P) (w:=w) ai jb aq ay hf
           cases r' with
           |some y=>exact c2.elim
           |none=>
            obtain⟨w',ei,gf,lL⟩:=sG (P:=P) (c':=clock+1) (ents':=ents++[⟨kv,bz,clock⟩]) ai af al aA (ay.append (show fQ μ [⟨k,x,clock⟩] [⟨kv,bz,clock⟩] from⟨_,_,rfl,⟨aq,aa,rfl⟩,rfl⟩))
            refine⟨w',?_,gf,lL⟩
            simp only[Instr.mapUpdate,Sem.run_bind,bU hu,Result.andThen_ok,bx,o2 jb aq,cw,List.push_toArray,ei]
         · cases h
       · cases h
     · cases h
   · cases h
 · cases h
theorem PU(ai:br μ H w){t:TypeId}{m k:I}{gY kv:Value}(hm:bl μ m gY)(aq:bl μ k kv){v:I}{aV:J}(h:oM P H t m k=some (v,aV)):eO P μ H w (Instr.mapEntry t gY kv) v aV:=by
 unfold oM at h
 split at h
 · rename_i kt iZ hu
   split at h
   · rename_i jb
     split at h
     · rename_i r
       split at h
       · rename_i es clock al
         obtain⟨i,af,rfl⟩:=hm
         obtain⟨ents,aA,ay,bx⟩:=xf (P:=P) ai af al
         split at h
         · rename_i j a hf
           split at h
           · rename_i nf o3
             have sI:qP k nf.key=true:=by
              cases ag:qP k nf.key with
              |true=>rfl
              |false=>rw[ag] at h;cases h
             rw[sI] at h
             cases h
             rw[pU] at o3
             obtain⟨r',cw,c2⟩:=ra (P:=P) (w:=w) ai jb aq ay hf
             cases r' with
             |none=>exact c2.elim
             |some y=>
              obtain⟨jF,u⟩:=y
              obtain⟨rfl,uE⟩:=c2
              obtain⟨_,HM,ba,a7,b5⟩:=CR es 0 j a hf
              have:HM=nf:=by
               have HN:es[j]? =some HM:=by simpa using ba
               rw[o3] at HN;cases HN;rfl
              subst this
              obtain⟨lK,eN,fR⟩:=ay.get o3
              have ch:(Instr.keyThatStays (((ents[j]?).map (·.key)).getD kv) kv).run P w=.ok kv w:=by
               simp only[Instr.keyThatStays,eN,Option.map_some,Option.getD_some,HK b5 sI aq fR.1,if_true,Sem.run_pure]
              have sJ:fQ μ (pM a k j es) (ents.modify j λe=>{e with key:=kv}):=by
               have hs:=ay.set (v:=a) (vv:=lK.val) (key:=k) (kv:=kv) (by rw[<-a7];exact fR.2.1) aq j
               have:(ents.modify j λe=>{e with key:=kv,val:=lK.val})=(ents.modify j λe=>{e with key:=kv}):=by
                apply List.ext_getElem?
                intro q
                rw[List.getElem?_modify,List.getElem?_modify]
                by_cases aT:j=q
                · subst aT;rw[eN];simp
                · simp[aT]
               rw[<-this];exact hs
              obtain⟨w',ei,gf,lL⟩:=sG (P:=P) (c':=clock) ai af al aA sJ
              refine⟨μ,w',.tuple #[u,.int .i64 (lK.born:Int)],?_,⟨_,rfl,_,_,rfl,uE,_,_,rfl,by rw[fR.2.2];rfl,rfl⟩,gf,lL⟩
              rw[eN,Option.map_some,Option.getD_some] at ch
              simp only[Instr.mapEntry,Sem.run_bind,bU hu,Result.andThen_ok,bx,o2 jb aq,cw,List.getElem?_toArray,eN,Option.map_some,Option.getD_some,ch,CT,ei,goInt,Sem.run_pure]
           · cases h
         · rename_i hf
           split at h
           · rename_i z aZ
             cases h
             obtain⟨fr,xg,rfl,_⟩:=lF (P:=P) (w:=w) aZ
             obtain⟨r',cw,c2⟩:=ra (P:=P) (w:=w) ai jb aq ay hf
             cases r' with
             |some y=>exact c2.elim
             |none=>
              obtain⟨w',ei,gf,lL⟩:=sG (P:=P) (c':=clock+1) (ents':=ents++[⟨kv,fr,clock⟩]) ai af al aA (ay.append (show fQ μ [⟨k,nO fr,clock⟩] [⟨kv,fr,clock⟩] from⟨_,_,rfl,⟨aq,jY μ fr,rfl⟩,rfl⟩))
              refine⟨μ,w',.tuple #[fr,.int .i64 (clock:Int)],?_,⟨_,rfl,_,_,rfl,jY μ fr,_,_,rfl,rfl,rfl⟩,gf,lL⟩
              simp only[Instr.mapEntry,Sem.run_bind,bU hu,Result.andThen_ok,bx,o2 jb aq,cw,xg,List.push_toArray,ei,goInt,Sem.run_pure]
           · cases h
         · cases h
       · cases h
     · cases h
   · cases h
 · cases h
theorem HO{born:Int}:∀(es:List dK) (ents:List MapEntry) (i j:Nat) (e:dK),fQ μ es ents->sn born es i=some (j,e)->i<=j/\es[j-i]? =some e/\ents.findIdx? (λm=>(m.born:Int)==born)=some (j-i)
 |[],_,i,j,e,_,h=>by simp[sn] at h
 |x::es,_,i,j,e,⟨m,ms,aA,ay,bx⟩,h=>by
  subst aA
  simp only[sn] at h
  have ae:a8 (Int.ofNat x.born) born=((m.born:Int)==born):=by rw[ay.2.2];rfl
  split at h
  · rename_i hs
    cases h
    rw[ae] at hs
    exact⟨Nat.le_refl _,by simp,by simp[List.findIdx?_cons,hs]⟩
  · rename_i hs
    rw[ae] at hs
    obtain⟨ba,a7,b5⟩:=HO es ms (i+1) j e bx h
    have:j-i=(j-(i+1))+1:=by omega
    refine⟨by omega,by rw[this];simpa using a7,?_⟩
    rw[this]
    simp[List.findIdx?_cons,hs,b5]
theorem PV(ai:br μ H w){t:TypeId}{m s x:I}{gY na bz:Value}(hm:bl μ m gY)(hs:bl μ s na)(aa:bl μ x bz){aV:J}(h:oN H m s x=some aV):
  ∃w',(Instr.entryStore t gY na bz).run P w=.ok () w'/\br μ aV w'/\b7 μ H w μ aV w':=by
 unfold oN at h
 split at h
 · rename_i r bh born
   split at h
   · rename_i es clock al
     split at h
     · rename_i j nf ae
       cases h
       cases hs
       obtain⟨i,af,rfl⟩:=hm
       obtain⟨ents,aA,ay,bx⟩:=xf (P:=P) ai af al
       obtain⟨_,ba,a7⟩:=HO es ents 0 j nf ay ae
       obtain⟨lK,eN,fR⟩:=ay.get (by simpa using ba)
       have sJ:fQ μ (pM x nf.key j es) (ents.modify j λe=>{e with val:=bz}):=by
        have hs:=ay.set (v:=x) (vv:=bz) (key:=nf.key) (kv:=lK.key) aa fR.1 j
        have:(ents.modify j λe=>{e with key:=lK.key,val:=bz})=(ents.modify j λe=>{e with val:=bz}):=by
         apply List.ext_getElem?
         intro q
         rw[List.getElem?_modify,List.getElem?_modify]
         by_cases aT:j=q
         · subst aT;rw[eN];simp
         · simp[aT]
        rw[<-this];exact hs
       obtain⟨w',ei,gf,lL⟩:=sG (P:=P) (c':=clock) ai af al aA sJ
       refine⟨w',?_,gf,lL⟩
       have PW:(⟨ents⟩:Array MapEntry).findIdx? (λe=>(e.born:Int)==born)=some j:=by
        have:=a7
        simp only[Nat.sub_zero] at this
        rw[<-this];simp
       simp only[Instr.entryStore,Sem.run_bind,Result.andThen_ok,bx,asInt,asIntOf,Sem.run_pure,PW,CT,ei]
     · cases h
   · cases h
 · cases h
theorem PX(ai:br μ H w){argTypes:Array TypeId}{ty t:TypeId}(h0:argTypes[0]? =some t){m k:I}{gY kv:Value}(hm:bl μ m gY)(aq:bl μ k kv){v:I}{aV:J}(h:oO P H t m k=some (v,aV)):
  eO P μ H w (Builtin.delete_ argTypes ty #[gY,kv]) v aV:=by
 unfold oO at h
 split at h
 · rename_i kt iZ hu
   split at h
   · rename_i jb
     split at h
     · cases h;cases hm
       refine .same ai (v':=.tuple #[]) ?_ ⟨[],rfl,rfl⟩
       simp[Builtin.delete_,h0,bU hu,o2 jb aq]
     · rename_i r
       split at h
       · rename_i es clock al
         obtain⟨i,af,rfl⟩:=hm
         obtain⟨ents,aA,ay,bx⟩:=xf (P:=P) ai af al
         split at h
         · rename_i j a hf
           cases h
           obtain⟨r',cw,c2⟩:=ra (P:=P) (w:=w) ai jb aq ay hf
           cases r' with
           |none=>exact c2.elim
           |some y=>
            obtain⟨jF,u⟩:=y
            obtain⟨rfl,uE⟩:=c2
            obtain⟨w',ei,gf,lL⟩:=sG (P:=P) (c':=clock) ai af al aA (ay.del j)
            refine⟨μ,w',.tuple #[],?_,⟨[],rfl,rfl⟩,gf,lL⟩
            have he:(⟨ents⟩:Array MapEntry).eraseIdxIfInBounds j=⟨ents.eraseIdx j⟩:=by
             apply Array.ext'
             simp
            simp[Builtin.delete_,h0,bU hu,o2 jb aq,bx,cw,he,ei]
         · rename_i hf
           cases h
           obtain⟨r',cw,c2⟩:=ra (P:=P) (w:=w) ai jb aq ay hf
           cases r' with
           |some y=>exact c2.elim
           |none=>
            obtain⟨w',ei,gf,lL⟩:=sG (P:=P) (c':=clock) ai af al aA ay
            refine⟨μ,w',.tuple #[],?_,⟨[],rfl,rfl⟩,gf,lL⟩
            simp[Builtin.delete_,h0,bU hu,o2 jb aq,bx,cw,ei]
         · cases h
       · cases h
     · cases h
   · cases h
 · cases h
theorem PY(ai:br μ H w){t:TypeId}:eO P μ H w (Instr.makeMap t none) (.map H.n) (H.push (.map [] 0)):=by
 obtain⟨r1,r2⟩:=ai.alloc (.map [] 0) (.map #[] 0) 0 ⟨[],World.heap_alloc_new _ _,rfl⟩
 exact⟨_,_,.map (some w.heap.size),rfl,⟨_,gp _ _ _,rfl⟩,r1,r2⟩
theorem PZ(ai:br μ H w){t kt iZ:TypeId}{k:IntKind}{n:Int}(hu:P.underlying t=some (.map kt iZ)):eO P μ H w (Instr.makeMap t (some (.int k n))) (.map H.n) (H.push (.map [] 0)):=by
 obtain⟨r1,r2⟩:=ai.alloc (.map [] 0) (.map #[] 0) 0 ⟨[],World.heap_alloc_new _ _,rfl⟩
 refine⟨_,_,.map (some w.heap.size),?_,⟨_,gp _ _ _,rfl⟩,r1,r2⟩
 simp only[Instr.makeMap,Sem.run_bind,bU hu,Result.andThen_ok,asInt,asIntOf,Sem.run_pure,run_newObj]
 rfl
theorem P0(ai:br μ H w){t:TypeId}(hu:P.underlying t=some .string){s:List UInt8}{bz:Value}(aa:bl μ (.str s) bz):eO P μ H w (Instr.range t bz) (.ptr H.n 0) (H.push (.qL s 0)):=by
 obtain⟨bs,rfl,rfl⟩:=aa
 obtain⟨r1,r2⟩:=ai.alloc (.qL bs.data.toList 0) (.stringIter bs 0) 0 ⟨rfl,bs,World.heap_alloc_new _ _,rfl⟩
 refine⟨_,_,.pointer (some ⟨w.heap.size,0,none⟩),?_,⟨_,gp _ _ _,rfl⟩,r1,r2⟩
 simp only[Instr.range,Sem.run_bind,bU hu,Result.andThen_ok,Sem.run_pure,run_newObj]
 rfl
theorem P1(ai:br μ H w){t kt iZ:TypeId}(hu:P.underlying t=some (.map kt iZ)){bz:Value}(aa:bl μ .hW bz):eO P μ H w (Instr.range t bz) (.ptr H.n 0) (H.push (.mapIter none 0 [] 0)):=by
 cases aa
 obtain⟨r1,r2⟩:=ai.alloc (.mapIter none 0 [] 0) (.mapIter none 0 #[] 0) 0 ⟨rfl,World.heap_alloc_new _ _⟩
 refine⟨_,_,.pointer (some ⟨w.heap.size,0,none⟩),?_,⟨_,gp _ _ _,rfl⟩,r1,r2⟩
 simp only[Instr.range,Sem.run_bind,bU hu,Result.andThen_ok,Sem.run_pure,run_newObj]
 rfl
def P2(at':Nat->Nat)(lt:Nat->Bool):Nat×Nat:=
 let cont (k:Nat):Bool:=lt k&&at' k/64==2
 let cA:=at' 0
 if cA<0x80 then(cA,1)
 else if cA/32==6&&cont 1 then
  let c:=(cA %32)*64+at' 1 %64
  if c>=0x80 then(c,2) else(Utf8.runeError,1)
 else if cA/16==14&&cont 1&&cont 2 then
  let c:=(cA %16)*4096+(at' 1 %64)*64+at' 2 %64
  if c>=0x800&&Utf8.valid c then(c,3) else(Utf8.runeError,1)
 else if cA/8==30&&cont 1&&cont 2&&cont 3 then
  let c:=(cA %8)*262144+(at' 1 %64)*4096+(at' 2 %64)*64+at' 3 %64
  if c>=0x10000&&Utf8.valid c then(c,4) else(Utf8.runeError,1)
 else(Utf8.runeError,1)
theorem HP(s:ByteArray)(i:Nat):Utf8.decode s i=P2 (λk=>(s.get! (i+k)).toNat) (λk=>decide (i+k<s.size)):=rfl
theorem P3(full:ByteArray)(pos:Nat)(aO:pos<=full.size):Utf8.decode full pos=Utf8.decode ⟨(full.data.toList.drop pos).toArray⟩ 0:=by
 have nY:full.data.toList.length=full.size:=Array.length_toList
 have bw:(⟨(full.data.toList.drop pos).toArray⟩:ByteArray).size=full.size-pos:=by
  show((full.data.toList.drop pos).toArray).size=_
  rw[List.size_toArray,List.length_drop,nY]
 have hH:∀k,full.get! (pos+k)=(⟨(full.data.toList.drop pos).toArray⟩:ByteArray).get! (0+k):=λk=>by
  show full.data[pos+k]! =((full.data.toList.drop pos).toArray)[0+k]!
  rw[Nat.zero_add]
  rw[getElem!_def,getElem!_def]
  have:((full.data.toList.drop pos).toArray)[k]? =full.data[pos+k]? :=by
   rw[List.getElem?_toArray,List.getElem?_drop,Array.getElem?_toList]
  rw[this]
 rw[HP,HP]
 have aS:(λk=>(full.get! (pos+k)).toNat)=(λk=>((⟨(full.data.toList.drop pos).toArray⟩:ByteArray).get! (0+k)).toNat):=by
  funext k;rw[hH k]
 have ae:(λk=>decide (pos+k<full.size))=(λk=>decide (0+k<(⟨(full.data.toList.drop pos).toArray⟩:ByteArray).size)):=by
  funext k
  exact decide_eq_decide.2 (by rw[bw];omega)
 rw[aS,ae]
theorem P4(ai:br μ H w){t:TypeId}{it:I}{p6:Value}(af:bl μ it p6){b:Bool}{v:I}{aV:J}(h:zz H it b=some (v,aV)):eO P μ H w (Instr.next p6 b t) v aV:=by
 unfold zz at h
 split at h
 · rename_i r
   obtain⟨i,hJ,rfl⟩:=af
   split at h
   · rename_i s pos al
     obtain⟨df,full,aA,ay⟩:=ai.rel _ _ i al hJ
     obtain⟨hc,i0,xh⟩:=i
     simp only at df;subst df
     have hH:(getObj hc).run P w=.ok (.stringIter full pos) w:=by simp[getObj,Sem.run,aA]
     have nY:full.data.toList.length=full.size:=Array.length_toList
     have kk:=congrArg List.length ay
     rw[List.length_drop,nY] at kk
     split at h
     · cases h
       have aK:¬pos<full.size:=by simp at kk;omega
       exact .same ai (v':=.tuple #[.bool false]) (by simp[Instr.next,hH,aK]) ⟨_,rfl,_,_,rfl,rfl,rfl⟩
     · rename_i cV
       have b8:pos<full.size:=by
        rcases Nat.lt_or_ge pos full.size with h|h
        · exact h
        · exfalso;apply cV
          exact List.length_eq_zero_iff.1 (by omega)
       have HQ:Utf8.decode full pos=Cp s:=by rw[P3 full pos (by omega),ay];rfl
       generalize Cp s=P5 at HQ h
       obtain⟨c,wd⟩:=P5
       cases h
       have CU:hc<w.heap.size:=(ai.lt _ _ hJ).2
       obtain⟨r1,r2⟩:=ai.update (w':={w with heap:=w.heap.setIfInBounds hc (.stringIter full (pos+wd))}) (o':=.qL (jn wd s) (pos+wd)) al rfl hJ (by simp) (λr ak=>by simp[Array.getElem?_setIfInBounds];intro e;exact absurd e.symm ak) rfl rfl rfl
        ⟨rfl,full,by simp[CU],by rw[m5,<-ay,List.drop_drop]⟩
       refine⟨μ,_,.tuple #[.bool true,.int .i64 (pos:Int),.int .i32 (c:Int)],?_,⟨_,rfl,_,_,rfl,rfl,_,_,rfl,rfl,_,_,rfl,rfl,rfl⟩,r1,r2⟩
       have p7:(setObj hc (.stringIter full (pos+wd))).run P w=.ok () {w with heap:=w.heap.setIfInBounds hc (.stringIter full (pos+wd))}:=by simp[setObj,Sem.run,aA]
       simp[Instr.next,hH,b8,HQ,p7,goInt]
   · rename_i since seen last al
     cases h
     obtain⟨df,aA⟩:=ai.rel _ _ i al hJ
     obtain⟨hc,i0,xh⟩:=i
     simp only at df;subst df
     have uG:w.heap[hc]? =some (.mapIter none since ⟨seen⟩ last):=aA
     have hH:(getObj hc).run P w=.ok (.mapIter none since ⟨seen⟩ last) w:=by simp[getObj,Sem.run,uG]
     exact .same ai (v':=.tuple #[.bool false]) (by simp[Instr.next,hH]) ⟨_,rfl,_,_,rfl,rfl,rfl⟩
   · cases h
 · cases h
theorem HR:∀(es:List dK) (ms:List MapEntry) (b:Nat) (e:dK),fQ μ es ms->so b es=some e->∃m,ms.find? (λx=>x.born==b)=some m/\qX μ e m
 |[],ms,b,e,ak,h=>by simp[so] at h
 |x::es,ms,b,e,ak,h=>by
  obtain⟨m,P6,rfl,ab,ad⟩:=ak
  unfold so at h
  rw[List.find?_cons,<-ab.2.2]
  cases ae:Nat.beq x.born b with
  |true=>
   rw[ae] at h
   cases h
   have:x.born=b:=Nat.eq_of_beq_eq_true ae
   rw[this]
   simp only[beq_self_eq_true]
   exact⟨m,rfl,ab⟩
  |false=>
   rw[ae] at h
   have:(x.born==b)=false:=by
    cases ag:x.born==b with
    |false=>rfl
    |true=>rw[beq_iff_eq.1 ag] at ae;rw[Nat.beq_refl] at ae;cases ae
   rw[this]
   exact HR es P6 b e ad h
theorem CV:∀(l:List Nat),wL l=l.getLast?
 |[]=>rfl
 |[b]=>rfl
 |a::b::l=>by
  show wL (b::l)=_
  rw[CV (b::l),List.getLast?_cons_cons]
theorem P7(ai:br μ H w){it:I}{p6:Value}(af:bl μ it p6){v:I}(h:sq H it=some v):eO P μ H w (Instr.entry p6) v H:=by
 unfold sq at h
 split at h
 · rename_i r
   obtain⟨i,hJ,rfl⟩:=af
   split at h
   · rename_i m since seen last al
     obtain⟨df,j,aL,aA⟩:=ai.rel _ _ i al hJ
     obtain⟨hc,i0,xh⟩:=i
     simp only at df;subst df
     have uG:w.heap[hc]? =some (.mapIter (some j.bk) since ⟨seen⟩ last):=aA
     split at h
     · rename_i es clock b xi P8
       obtain⟨ents,f1,f2⟩:=ai.rel _ _ j xi aL
       split at h
       · rename_i hI
         have hI:clock=last:=Nat.eq_of_beq_eq_true hI
         split at h
         · rename_i e CW
           cases h
           obtain⟨CX,aj,ax⟩:=HR es ents b e f2 CW
           have hH:(getObj hc).run P w=.ok (.mapIter (some j.bk) since ⟨seen⟩ last) w:=by simp[getObj,Sem.run,uG]
           have zY:(getObj j.bk).run P w=.ok (.map ⟨ents⟩ clock) w:=by simp[getObj,Sem.run,f1]
           have P9:(⟨seen⟩:Array Nat).back?=some b:=by
            rw[<-P8,CV];simp
           have xj:(⟨ents⟩:Array MapEntry).find? (λx=>x.born==b)=some CX:=by rw[<-aj];simp
           refine .same ai (v':=.tuple #[CX.key,CX.val]) ?_ ⟨_,rfl,_,_,rfl,ax.1,_,_,rfl,ax.2.1,rfl⟩
           have cV:(clock !=last)=false:=by simp[hI]
           simp only[Instr.entry,Sem.run_bind,hH,Result.andThen_ok,P9,zY,cV,Bool.false_eq_true,if_false,xj]
           rfl
         · cases h
       · cases h
     · cases h
   · cases h
 · cases h
end
end aM
namespace aM
open Go
section
variable {P:Program} {μ:bp} {H:J} {w:World}
theorem P_(k:IntKind)(x y:Int){v:I}(h:arith .xor k x y=some v):∃u,(Op.intBits .xor k x y).run P w=.ok u w/\bl μ v u:=by
 simp only[arith] at h;cases h;exact⟨_,rfl,rfl⟩
theorem Qa{x:Value}{b:Bool}(aa:bl μ (.bool b) x):∃u,(Op.unary .not x).run P w=.ok u w/\bl μ (.bool (!b)) u:=by
 cases aa;exact⟨_,rfl,rfl⟩
theorem Qb{x:Value}{k:IntKind}{n:Int}(aa:bl μ (.int k n) x):∃u,(Op.unary .neg x).run P w=.ok u w/\bl μ (.int k (k.wrap (0-n))) u:=by
 cases aa;exact⟨_,rfl,rfl⟩
theorem Qc{x:Value}{k:IntKind}{n:Int}{v:I}(aa:bl μ (.int k n) x)(h:arith .xor k (if k.signed then-1 else k.max) n=some v):∃u,(Op.unary .xor x).run P w=.ok u w/\bl μ v u:=by
 cases aa;exact P_ k _ n h
def sK:Value->Bool
 |.int _ _|.float _ _|.complex _ _ _|.string _=>true
 |_=>false
theorem binOp_eql(t:TypeId){x y:Value}(h:sK x=false):binOp .eql t x y=(do pure (.bool (<-Op.equal t x y))):=by
 cases x<;>simp[sK] at h<;>cases y<;>rfl
theorem binOp_neq(t:TypeId){x y:Value}(h:sK x=false):binOp .neq t x y=(do pure (.bool (!(<-Op.equal t x y)))):=by
 cases x<;>simp[sK] at h<;>cases y<;>rfl
theorem HS:∀{d:Nat} {t:TypeId} {x y:I} {b:Bool} {bz:Value},fO P H d t x y=some b->(∀j a k c,¬(x=.int j a/\y=.int k c))->(∀a c,¬(x=.str a/\y=.str c))->bl μ x bz->sK bz=false:=by
 intro d t x y b bz h af hs aa
 cases d with
 |zero=>simp[fO] at h
 |succ d=>
  cases x with
  |bad=>unfold fO at h;split at h<;>simp at h
  |int j a=>
   unfold fO at h
   split at h
   all_goals first
    |(cases y<;>simp at h;done)
    |(cases y<;>simp at h;exact absurd ⟨rfl,rfl⟩ (af _ _ _ _))
    |cases h
  |str a=>
   unfold fO at h
   split at h
   all_goals first
    |(cases y<;>simp at h;done)
    |(cases y<;>simp at h;exact absurd ⟨rfl,rfl⟩ (hs _ _))
    |cases h
  |bool b=>cases aa;rfl
  |bb=>cases aa;rfl
  |ptr b off=>obtain⟨i,_,rfl⟩:=aa;rfl
  |a0=>cases aa;rfl
  |slice b off n c=>
   obtain⟨i,_,ag⟩:=aa
   cases c with
   |exact c=>cases ag;rfl
   |a1 gz=>obtain⟨c,rfl,_⟩:=ag;rfl
   |dead=>obtain⟨_,a,c,rfl⟩:=ag;rfl
  |hW=>cases aa;rfl
  |map r=>obtain⟨i,_,rfl⟩:=aa;rfl
  |fL=>cases aa;rfl
  |fn f a b=>obtain⟨_,_,rfl,_⟩:=aa;rfl
  |dd l=>obtain⟨i,_,rfl⟩:=aa;rfl
  |eS=>cases aa;rfl
  |iface t x=>obtain⟨_,rfl,_⟩:=aa;rfl
  |agg cs=>obtain⟨_,rfl,_⟩:=aa;rfl
  |aP cs=>obtain⟨_,rfl,_⟩:=aa;rfl
theorem HT{op:BinOp}(h:op≠ .eql)(an:op≠ .neq)(t:TypeId)(kf kg:Operand)(a b:Value):(eqGuard op t kf kg a b).run P w=.ok () w:=by
 cases op<;>first|exact absurd rfl h|exact absurd rfl an|simp[eqGuard]
def re:Value->Nat
 |.nilIface=>1
 |.agg _=>2
 |_=>0
theorem CY{op:BinOp}(fo:op=.eql\/op=.neq){t:TypeId}{kf kg:Operand}{a b:Value}(h:re a=0\/re a≠re b):(eqGuard op t kf kg a b).run P w=.ok () w:=by
 rcases fo with rfl|rfl<;>(cases a<;>first|rfl|(cases b<;>first|rfl|simp[re] at h))
def sL:I->Nat
 |.eS=>1
 |.agg _=>2
 |_=>0
theorem HU{x:I}{a:Value}(aa:bl μ x a)(ae:x≠ .bad):re a=sL x:=by
 cases x with
 |bad=>exact absurd rfl ae
 |bool b=>cases aa;rfl
 |int k n=>cases aa;rfl
 |str s=>obtain⟨_,rfl,_⟩:=aa;rfl
 |bb=>cases aa;rfl
 |ptr b off=>obtain⟨i,_,rfl⟩:=aa;rfl
 |a0=>cases aa;rfl
 |slice b off n c=>
  obtain⟨i,_,ag⟩:=aa
  cases c with
  |exact c=>cases ag;rfl
  |a1 gz=>obtain⟨c,rfl,_⟩:=ag;rfl
  |dead=>obtain⟨_,a,c,rfl⟩:=ag;rfl
 |hW=>cases aa;rfl
 |map r=>obtain⟨i,_,rfl⟩:=aa;rfl
 |fL=>cases aa;rfl
 |fn f a b=>obtain⟨_,_,rfl,_⟩:=aa;rfl
 |dd l=>obtain⟨i,_,rfl⟩:=aa;rfl
 |eS=>cases aa;rfl
 |iface t x=>obtain⟨_,rfl,_⟩:=aa;rfl
 |agg cs=>obtain⟨_,rfl,_⟩:=aa;rfl
 |aP cs=>obtain⟨_,rfl,_⟩:=aa;rfl
theorem HV{op:BinOp}(fo:op=.eql\/op=.neq){t:TypeId}{kf kg:Operand}{x y:I}{a b:Value}(aa:bl μ x a)(aW:bl μ y b)(CZ:x≠ .bad)(xk:y≠ .bad)(h:qM P t kf kg x y=true):
  (eqGuard op t kf kg a b).run P w=.ok () w:=by
 have HW:=HU aa CZ
 have C0:=HU aW xk
 by_cases ak:re a=0\/re a≠re b
 · exact CY fo ak
 · have ab:sL x≠0:=λe=>ak (.inl (HW.trans e))
   have ad:sL x=sL y:=by
    rw[<-HW,<-C0];exact Classical.byContradiction λe=>ak (.inr e)
   cases x<;>simp[sL] at ab
   · cases y<;>simp[sL] at ad
     cases aa;cases aW
     simp only[qM] at h
     rcases fo with rfl|rfl<;>(cases kf<;>cases kg<;>first|rfl|simp at h)
   · cases y<;>simp[sL] at ad
     obtain⟨bB,rfl,_⟩:=aa
     obtain⟨b2,rfl,_⟩:=aW
     simp only[qM,Bool.not_eq_true'] at h
     rcases fo with rfl|rfl<;>simp[eqGuard,h]
theorem HX{d:Nat}{t:TypeId}{x y:I}{b:Bool}(h:fO P H d t x y=some b):x≠ .bad/\y≠ .bad:=by
 cases d with
 |zero=>simp[fO] at h
 |succ d=>
  constructor
  · rintro rfl;unfold fO at h;split at h<;>simp at h
  · rintro rfl;unfold fO at h;split at h<;>(try cases x)<;>simp at h
theorem Qd(ai:br μ H w){op:BinOp}{t yt:TypeId}{kf kg:Operand}{x y v:I}{bz gu:Value}(aa:bl μ x bz)(aW:bl μ y gu)(h:eB P H op t kf kg x y=some v):
  ∃u,(do eqGuard op t kf kg bz gu;binOp op t bz gu:Sem Value).run P w=.ok u w/\bl μ v u:=by
 unfold eB at h
 split at h
 · rename_i k a ea b
   cases aa;cases aW
   have al:(eqGuard op t kf kg (.int k a) (.int ea b)).run P w=.ok () w:=by
    by_cases fo:op=.eql\/op=.neq
    · exact CY fo (.inl rfl)
    · exact HT (λe=>fo (.inl e)) (λe=>fo (.inr e)) t kf kg _ _
   simp only[Sem.run_bind,al,Result.andThen_ok]
   split at h
   · exact Hb h t
   · exact Hb h t
   · rename_i ab ad
     split at h
     · rename_i aq;subst aq
       exact OX h ⟨ab,ad⟩ t
     · cases h
 · rename_i a b
   obtain⟨s1,rfl,rfl⟩:=aa
   obtain⟨s2,rfl,rfl⟩:=aW
   have al:(eqGuard op t kf kg (.string s1) (.string s2)).run P w=.ok () w:=by
    by_cases fo:op=.eql\/op=.neq
    · exact CY fo (.inl rfl)
    · exact HT (λe=>fo (.inl e)) (λe=>fo (.inr e)) t kf kg _ _
   simp only[Sem.run_bind,al,Result.andThen_ok]
   exact OZ h t
 · rename_i dR iz
   split at h
   · split at h
     · rename_i c9
       split at h
       · rename_i b he
         cases h
         obtain⟨bt,bH⟩:=HX he
         have al:=HV (w:=w) (op:=.eql) (.inl rfl) aa aW bt bH c9
         have aK:sK bz=false:=HS he (λj a k c e=>dR j a k c e.1 e.2) (λa c e=>iz a c e.1 e.2) aa
         have ak:=sF (P:=P) ai 100 t x y b bz gu Op.maxDepth (by decide) he aa aW
         refine⟨.bool b,?_,rfl⟩
         simp only[Sem.run_bind,al,Result.andThen_ok,binOp_eql t aK,Op.equal,ak,Sem.run_pure]
       · cases h
     · cases h
   · split at h
     · rename_i c9
       split at h
       · rename_i b he
         cases h
         obtain⟨bt,bH⟩:=HX he
         have al:=HV (w:=w) (op:=.neq) (.inr rfl) aa aW bt bH c9
         have aK:sK bz=false:=HS he (λj a k c e=>dR j a k c e.1 e.2) (λa c e=>iz a c e.1 e.2) aa
         have ak:=sF (P:=P) ai 100 t x y b bz gu Op.maxDepth (by decide) he aa aW
         refine⟨.bool (!b),?_,rfl⟩
         simp only[Sem.run_bind,al,Result.andThen_ok,binOp_neq t aK,Op.equal,ak,Sem.run_pure]
       · cases h
     · cases h
   · cases h
theorem Qe{t:TypeId}{d:TypeDesc}(hu:P.underlying t=some d)(dR:∀m,d≠ .interface m){x:I}{bz:Value}(aa:bl μ x bz):
  (Instr.makeInterface t bz).run P w=.ok (.iface t bz) w:=by
 simp only[Instr.makeInterface,Sem.run_bind,bU hu,Result.andThen_ok]
 cases d<;>first|rfl|exact absurd rfl (dR _)
theorem HY{xT as:TypeId}{ok:Bool}{d:TypeDesc}(hu:P.underlying as=some d)(dR:∀m,d≠ .interface m){x:I}{bz:Value}(aa:bl μ x bz):
  (∀z,x=.eS->ok=true->d_ P as=some z->∃u,(Instr.typeAssert bz xT as ok).run P w=.ok u w/\bl μ (.aP [z,.bool false]) u)/\
  (∀v,x=.iface as v->∃u,(Instr.typeAssert bz xT as ok).run P w=.ok u w/\bl μ (if ok then .aP [v,.bool true] else v) u)/\
  (∀t v z,x=.iface t v->t≠as->ok=true->d_ P as=some z->∃u,(Instr.typeAssert bz xT as ok).run P w=.ok u w/\bl μ (.aP [z,.bool false]) u):=by
 refine⟨λz mh c9 aZ=>?_,λv mh=>?_,λt v z mh cV c9 aZ=>?_⟩
 · subst mh;cases aa;subst c9
   obtain⟨fr,xg,rfl,_⟩:=lF (P:=P) (w:=w) aZ
   refine⟨.tuple #[fr,.bool false],?_,⟨_,rfl,_,_,rfl,jY μ fr,_,_,rfl,rfl,rfl⟩⟩
   simp only[Instr.typeAssert,Sem.run_bind,bU hu,Result.andThen_ok]
   cases d<;>first|exact absurd rfl (dR _)|simp[xg]
 · subst mh;obtain⟨y,rfl,aW⟩:=aa
   refine⟨if ok then .tuple #[y,.bool true] else y,?_,?_⟩
   · simp only[Instr.typeAssert,Sem.run_bind,bU hu,Result.andThen_ok]
     cases d<;>first|exact absurd rfl (dR _)|simp
   · cases ok
     · exact aW
     · exact⟨_,rfl,_,_,rfl,aW,_,_,rfl,rfl,rfl⟩
 · subst mh;obtain⟨y,rfl,aW⟩:=aa;subst c9
   obtain⟨fr,xg,rfl,_⟩:=lF (P:=P) (w:=w) aZ
   refine⟨.tuple #[fr,.bool false],?_,⟨_,rfl,_,_,rfl,jY μ fr,_,_,rfl,rfl,rfl⟩⟩
   simp only[Instr.typeAssert,Sem.run_bind,bU hu,Result.andThen_ok]
   cases d<;>first|exact absurd rfl (dR _)|simp[xg,cV]
theorem Qf{vs:List I}{x:Value}{i:Nat}{v:I}(aa:bl μ (.aP vs) x)(h:nth i vs=some v):∃u,(Instr.extract x i).run P w=.ok u w/\bl μ v u:=by
 obtain⟨l,rfl,aw⟩:=aa
 rw[pU] at h
 obtain⟨u,hu,ak⟩:=aw.get h
 refine⟨u,?_,ak⟩
 simp[Instr.extract,hu]
theorem HZ{r el:Nat}{c:Array Value}{c3:Nat×Nat}(h:w.heap[r]? =some (.cells c el c3)):(viewAt r).run P w=.ok none w:=by
 simp[viewAt,World.shape?,h]
theorem Qg(ai:br μ H w){src dst u:TypeId}{b off n:Nat}{cs:List I}{el aN af:Nat}{k:gE}(hs:P.underlying src=some (.pointer u))(ao:P.underlying dst=some .unsafePointer)
  (aZ:dh P u=some (n+1))(al:H.get b=some (.cells cs el k aN af))(b8:off<cs.length){x:Value}(aa:bl μ (.ptr b off) x):(convert src dst x).run P w=.ok x w:=by
 obtain⟨i,af,rfl⟩:=aa
 obtain⟨c,gm,gn,aA,ay,bx,ef⟩:=ai.rel _ _ i al af
 obtain⟨v,aB⟩:∃v,cs[off]? =some v:=⟨_,List.getElem?_eq_getElem b8⟩
 obtain⟨Qh,hu,_⟩:=ay off v aB
 have fe:i.base+off<c.size:=by
  rcases Nat.lt_or_ge (i.base+off) c.size with h|h
  · exact h
  · rw[Array.getElem?_eq_none h] at hu;cases hu
 have q5:(Conv.seenAt ⟨i.bk,i.base+off,none⟩).run P w=.ok ⟨i.bk,i.base+off,none⟩ w:=by
  simp[Conv.seenAt,HZ aA]
 have H0:(cellsIn i.bk).run P w=.ok (some c.size) w:=by simp[cellsIn,World.shape?,aA]
 have sy:¬(c.size<=i.base+off):=by omega
 simp[convert,bU hs,bU ao,Conv.unsafePointer,q5,H0,run_sizeOf aZ,sy]
theorem Qi(ai:br μ H w){src dst u:TypeId}{b off n:Nat}{cs:List I}{el aN af:Nat}(hs:P.underlying src=some .unsafePointer)(ao:P.underlying dst=some (.pointer u))
  (aZ:dh P u=some (n+1))(al:H.get b=some (.cells cs el .own aN af))(aw:liesAt P P.depth el (cs.length/P.cellsOf el) off u 1=true){x:Value}(aa:bl μ (.ptr b off) x):(convert src dst x).run P w=.ok x w:=by
 obtain⟨i,af,rfl⟩:=aa
 obtain⟨c,gm,gn,aA,ay,bx,ef,ga,_⟩:=ai.rel _ _ i al af
 have ag:c.size=cs.length:=by omega
 have q5:(Conv.seenAt ⟨i.bk,i.base+off,none⟩).run P w=.ok ⟨i.bk,i.base+off,none⟩ w:=by
  simp[Conv.seenAt,HZ aA]
 have uH:(variablesAt ⟨i.bk,i.base+off,none⟩ u 1).run P w=.ok true w:=by
  simp[variablesAt,World.shape?,aA,ef,ag,aw]
 simp[convert,bU hs,bU ao,Conv.unsafePointer,q5,run_sizeOf aZ,uH]
end
end aM
namespace aM
open Go
section
variable {P:Program} {μ:bp} {H:J} {w:World}
theorem H2(ai:br μ H w){b:Nat}{i:eM}(af:μ b=some i){cs:List I}{el aN eJ:Nat}{k:gE}(al:H.get b=some (.cells cs el k aN eJ)):
  ∀(n off:Nat) (r:List I) (bs:List UInt8) (acc:ByteArray),takeN n (jn off cs)=some r->m0 r=some bs->
   (loadBytes ⟨i.bk,i.base+off,none⟩ acc n).run P w=.ok ⟨acc.data++bs.toArray⟩ w
 |0,off,r,bs,acc,h,ae=>by
  simp only[takeN] at h;cases h
  simp only[m0] at ae;cases ae
  simp[loadBytes]
 |n+1,off,r,bs,acc,h,ae=>by
  rw[m5] at h
  cases ao:cs.drop off with
  |nil=>rw[ao] at h;simp[takeN] at h
  |cons a l=>
   rw[ao] at h
   simp only[takeN] at h
   cases a_:takeN n l with
   |none=>rw[a_] at h;cases h
   |some r'=>
    rw[a_] at h;cases h
    unfold m0 at ae
    split at ae
    · rename_i heq;cases heq
    · rename_i m nZ heq
      cases heq
      split at ae
      · rename_i Qj hm jZ
        cases ae
        have H3:cs[off]? =some (.int .u8 (Int.ofNat m)):=by
         have:=congrArg List.head? ao
         simpa[List.head?_drop] using this
        have aw:l=cs.drop (off+1):=by
         have:=congrArg List.tail ao
         simpa[List.tail_drop] using this.symm
        obtain⟨u,ab,ad⟩:=Cz (P:=P) (off:=off) ai af (show au H b off=some (.int .u8 (Int.ofNat m)) by simp[au,al,pU,H3])
        cases ad
        have a6:=H2 ai af al n (off+1) r' Qj (acc.push (UInt8.ofNat m)) (by rw[m5,<-aw];exact a_) jZ
        have e:(⟨i.bk,i.base+off,none⟩:Addr).add 1=⟨i.bk,i.base+(off+1),none⟩:=by simp[Addr.add,Nat.add_assoc]
        simp only[loadBytes,Sem.run_bind,ab,Result.andThen_ok,e]
        refine Eq.trans ?_ (a6.trans ?_)
        · rfl
        · congr 1
          simp[ByteArray.ext_iff,ByteArray.push]
      · cases ae
    · cases ae
theorem C1{α:Type}(p:Option Addr)(l:Value)(f:Option Addr->Value->α)(g:Array Value->α):Builtin.unsafeString_.match_3 (λ_=>α) #[.pointer p,l] f g=f p l:=rfl
theorem Qk(argTypes:Array TypeId)(ty pT:TypeId)(h0:argTypes[0]? =some pT)(k:IntKind)(m:Nat)(a:Addr)(u:TypeId)(hu:P.underlying pT=some (.pointer u))(p2:m≠0)(hm:m<=281474976710656)
  {s:ByteArray}(aB:(variablesAt a u m).run P w=.ok true w)(aw:(loadBytes a .empty m).run P w=.ok s w):
  (Builtin.unsafeString_ argTypes ty #[.pointer (some a),.int k (m:Int)]).run P w=.ok (.string s) (w.freeze a m):=by
 have xl:¬((9223372036854775807:Int)<(m:Int)):=by omega
 have iy:IntKind.i64.max=9223372036854775807:=rfl
 have he:(elemOf pT).run P w=.ok u w:=by simp[elemOf,bU hu]
 have xm:¬((m:Int)<0):=by omega
 delta Builtin.unsafeString_
 rw[C1]
 simp[asInt,asIntOf,h0,iy,xl,p2,he,aB,aw,xm]
theorem H4(argTypes:Array TypeId)(ty pT:TypeId)(h0:argTypes[0]? =some pT)(k:IntKind)(p:Option Addr):(Builtin.unsafeString_ argTypes ty #[.pointer p,.int k 0]).run P w=.ok (.string .empty) w:=by
 have iy:IntKind.i64.max=9223372036854775807:=rfl
 cases p with
 |none=>
  delta Builtin.unsafeString_
  rw[C1]
  simp[asInt,asIntOf,h0,iy]
 |some a=>
  delta Builtin.unsafeString_
  rw[C1]
  simp[asInt,asIntOf,h0,iy]
theorem zZ:P.depth=(2*(P.types.size+Made.depth)+1)+1:=rfl
theorem Ql{e u count off n:Nat}(ab:P.underlyingId e=P.underlyingId u)(hs:P.cellsOf e=1)(ae:off+n<=count):liesAt P P.depth e count off u n=true:=by
 have aw:sameLayout P P.depth e u=true:=by rw[zZ];simp[sameLayout,ab]
 have ak:rowAt P (sameLayout P P.depth · u) P.depth e count off n=true:=by
  rw[zZ]
  unfold rowAt
  simp only[hs,Nat.div_one,Nat.mod_one]
  rw[zZ] at aw
  simp[ae,aw]
 have:∀d,rowAt P (sameLayout P P.depth · u) P.depth e count off n=true->liesAt P (d+1) e count off u n=true:=λd h=>by
  unfold liesAt;rw[h];rfl
 conv=>lhs;arg 2;rw[zZ]
 exact this _ ak
theorem Qm(ai:br μ H w){argTypes:Array TypeId}{ty pT:TypeId}(h0:argTypes[0]? =some pT){p n v:I}{C2 C3:Value}(aO:bl μ p C2)(aK:bl μ n C3){aV:J}(h:oI P H pT p n=some (v,aV)):
  eO P μ H w (Builtin.unsafeString_ argTypes ty #[C2,C3]) v aV:=by
 unfold oI at h
 have H5:∀m,eC n=some m->∃k,C3=.int k (m:Int):=by
  intro m hm
  unfold eC at hm
  split at hm
  · cases hm;cases aK;exact⟨_,rfl⟩
  · cases hm
 split at h
 · rename_i aZ
   cases h;cases aO
   obtain⟨k,rfl⟩:=H5 0 aZ
   exact .same ai (v':=.string .empty) (H4 argTypes ty pT h0 k none) ⟨.empty,rfl,rfl⟩
 · rename_i b off m hm
   obtain⟨k,rfl⟩:=H5 m hm
   obtain⟨i,af,rfl⟩:=aO
   split at h
   · rename_i aZ
     cases h;subst aZ
     exact .same ai (v':=.string .empty) (H4 argTypes ty pT h0 k _) ⟨.empty,rfl,rfl⟩
   · rename_i p2
     split at h
     · rename_i u cs el bh aN eJ hu al
       split at h
       · rename_i ag
         simp only[Bool.and_eq_true,decide_eq_true_eq,Nat.ble_eq] at ag
         obtain⟨⟨⟨aG,a9⟩,dn⟩,gN⟩:=ag
         split at h
         · rename_i r ak
           split at h
           · rename_i bs ae
             cases h
             obtain⟨c,gm,gn,aA,ay,bx,ef⟩:=ai.rel _ _ i al af
             have C4:=H2 (P:=P) ai af al m off r bs .empty ak ae
             have hlen:off+m<=cs.length:=by
              rw[m5] at ak
              have:=(sx m _ _ ak).1
              rw[List.length_drop] at this
              omega
             have wY:0<m:=Nat.pos_of_ne_zero p2
             have fe:i.base+off+m<=c.size:=by
              obtain⟨x,aa⟩:∃x,cs[off+m-1]? =some x:=⟨_,List.getElem?_eq_getElem (by omega)⟩
              obtain⟨Qh,mf,_⟩:=ay _ x aa
              rcases Nat.lt_or_ge (i.base+(off+m-1)) c.size with h|h
              · omega
              · rw[Array.getElem?_eq_none h] at mf;cases mf
             have xn:P.cellsOf el=1:=by
              unfold dh at a9
              unfold Program.cellsOf
              cases eJ:P.info? el with
              |none=>rw[eJ] at a9;cases a9
              |some ii=>rw[eJ] at a9;simpa using a9
             have uH:(variablesAt ⟨i.bk,i.base+off,none⟩ u m).run P w=.ok true w:=by
              have aw:=Ql (P:=P) (e:=el) (u:=u) (count:=c.size/P.cellsOf el) (off:=i.base+off) (n:=m) aG xn (by rw[xn];simpa using fe)
              simp[variablesAt,World.shape?,aA,aw]
             have eP:=Qk (P:=P) (w:=w) argTypes ty pT h0 k m _ u hu p2 dn uH C4
             have Qn:∃c3:Nat×Nat,w.freeze ⟨i.bk,i.base+off,none⟩ m={w with heap:=w.heap.modify i.bk λ
               |.cells c elem (aN,af)=>.cells c elem (if aN==af then(i.base+off,i.base+off+m) else(min aN (i.base+off),max af (i.base+off+m)))
               |o=>o}/\(w.freeze ⟨i.bk,i.base+off,none⟩ m).heap[i.bk]? =some (.cells c el c3):=by
              have:w.freeze ⟨i.bk,i.base+off,none⟩ m={w with heap:=w.heap.modify i.bk λ
               |.cells c elem (aN,af)=>.cells c elem (if aN==af then(i.base+off,i.base+off+m) else(min aN (i.base+off),max af (i.base+off+m)))
               |o=>o}:=by simp[World.freeze,p2];rfl
              refine⟨if gm==gn then(i.base+off,i.base+off+m) else(min gm (i.base+off),max gn (i.base+off+m)),this,?_⟩
              rw[this]
              simp[Array.getElem?_modify,aA]
             obtain⟨⟨f1,f2⟩,ba,a7⟩:=Qn
             have g_:(da.cells cs el bh aN eJ).oV=false:=by cases bh<;>first|rfl|exact absurd rfl gN
             obtain⟨r1,r2⟩:=ai.update (w':=w.freeze ⟨i.bk,i.base+off,none⟩ m) (o':=.cells cs el .fz aN eJ) al g_ af (by rw[ba];simp) (λr ak=>by rw[ba];simp[Array.getElem?_modify];intro e;exact absurd e.symm ak) (by rw[ba]) (by rw[ba]) (by rw[ba])
              ⟨c,f1,f2,a7,ay,bx,trivial⟩ (hdr:=by rw[ba];exact Nat.le_refl _)
             exact⟨μ,_,.string _,eP,⟨_,rfl,by simp⟩,r1,r2⟩
           · cases h
         · cases h
       · cases h
     · cases h
 · cases h
theorem Qo{argTypes:Array TypeId}{ty:TypeId}{x:I}{bz:Value}(aa:bl μ x bz):
  (x=.a0->(Builtin.unsafeSliceData_ argTypes ty #[bz]).run P w=.ok (.pointer none) w)/\
  (∀b off n c,x=.slice b off n (.exact c)->c≠0->∃u,(Builtin.unsafeSliceData_ argTypes ty #[bz]).run P w=.ok u w/\bl μ (.ptr b off) u)/\
  (∀b off n e,x=.slice b off n (.a1 e)->n≠0->∃u,(Builtin.unsafeSliceData_ argTypes ty #[bz]).run P w=.ok u w/\bl μ (.ptr b off) u):=by
 have key:∀(a:Addr) (n c:Nat),c≠0->(Builtin.unsafeSliceData_ argTypes ty #[.slice (some a) n c]).run P w=.ok (.pointer (some a)) w:=λa n c ag=>by
  obtain⟨k,rfl⟩:∃k,c=k+1:=⟨c-1,by omega⟩
  rfl
 refine⟨λh=>?_,λb off n c h ag=>?_,λb off n e h aK=>?_⟩
 · subst h;cases aa;rfl
 · subst h;obtain⟨i,af,oW⟩:=aa;cases oW
   exact⟨_,key _ n c ag,i,af,rfl⟩
 · subst h;obtain⟨i,af,c,rfl,hle,_⟩:=aa
   exact⟨_,key _ n c (by omega),i,af,rfl⟩
theorem H6{p8:Value}{first aR:List I}{g:Nat}{args:List I}{vs:List Value}(hf:bl μ (.fn g first aR) p8)(aS:b_ μ args vs):
  ∃bR cs:List Value,(do let d<-Deferred.ofValue p8 ⟨vs⟩;invoke d.target d.args:Sem Next).run P w=(callFunc g ⟨bR++vs++cs⟩).run P w/\b_ μ (first++args++aR) (bR++vs++cs)/\
   (Deferred.ofValue p8 ⟨vs⟩).run P w=.ok {target:=.fn (.func g) ⟨cs⟩,args:=⟨bR++vs⟩} w:=by
 obtain⟨bR,cs,rfl,ab,ad⟩:=hf
 refine⟨bR,cs,?_,(ab.append aS).append ad,?_⟩
 · simp[Deferred.ofValue,invoke]
 · simp[Deferred.ofValue]
theorem Qp{l:Nat}{p8:Value}{vs:List Value}(hf:bl μ (.dd l) p8):
  ∃i,μ l=some i/\(do let d<-Deferred.ofValue p8 ⟨vs⟩;invoke d.target d.args:Sem Next).run P w=(Instr.yield i.bk ⟨vs⟩).run P w:=by
 obtain⟨i,af,rfl⟩:=hf
 exact⟨i,af,by simp[Deferred.ofValue,invoke]⟩
theorem Qq{t:TypeId}{name:String}{f:Nat}(h:zA P t name=some f)(v:Value)(n:Nat):(method (n+1) t v name).run P w=.ok (f,v) w:=by
 unfold zA at h
 split at h
 · rename_i i af
   split at h
   · rename_i m hm
     have hf:∀q,m.path.isEmpty=q->m.path.isEmpty=q:=λ_ h=>h
     split at h
     all_goals first
      |(cases h;done)
      |(rename_i aO ng hu
        cases h
        have z0:m.path.toList=[]:=by simpa using aO
        simp[method,run_typeInfo af,hm,z0,follow,ng,receiverAt,bU hu,Place.get]
        done)
   · cases h
 · cases h
end
end aM
namespace aM
open Go
def ju(P:Program)(μ:bp)(H:J)(w:World)(s:Sem Next):iX->Prop
 |.val v aV=>∃aX w' u,(s.run P w=.ok (.value u) w'\/(u=undef/\s.run P w=.ok .skip w'))/\bl aX v u/\br aX aV w'/\b7 μ H w aX aV w'
 |.b4 v aV=>aV=H/\∃u,s.run P w=.halt (.panic u) w/\bl μ v u
 |.call f args aV=>aV=H/\∃vs:List Value,s.run P w=(callFunc f ⟨vs⟩).run P w/\b_ μ args vs
 |.dd l args aV=>aV=H/\∃i,∃vs:List Value,μ l=some i/\s.run P w=(Instr.yield i.bk ⟨vs⟩).run P w/\b_ μ args vs
 |.k6 d=>∃rf,s.run P w=.ok (.defer rf) w/\sw μ d rf
 |.sm=>s.run P w=.ok .recover w
 |.fail _=>True
section
variable {P:Program} {μ:bp} {H:J} {w:World}
theorem ju.jv{s:Sem Value}{v:I}{aV:J}(h:eO P μ H w s v aV):ju P μ H w (do pure (.value (<-s))) (.val v aV):=by
 obtain⟨aX,w',u,ab,ad,ar,aJ⟩:=h
 exact⟨aX,w',u,.inl (by simp[ab]),ad,ar,aJ⟩
theorem ju.of_same(ai:br μ H w){s:Sem Value}{v:I}(h:∃u,s.run P w=.ok u w/\bl μ v u):ju P μ H w (do pure (.value (<-s))) (.val v H):=by
 obtain⟨u,ab,ad⟩:=h
 exact⟨μ,w,u,.inl (by simp[ab]),ad,ai,b7.refl _ _ _⟩
theorem ju.z1(ai:br μ H w){u:Value}{v:I}(h:bl μ v u){s:Sem Next}(hs:s.run P w=.ok (.value u) w):ju P μ H w s (.val v H):=
 ⟨μ,w,u,.inl hs,h,ai,b7.refl _ _ _⟩
theorem ju.Qr{s:Sem Unit}{aV:J}(h:∃w',s.run P w=.ok () w'/\br μ aV w'/\b7 μ H w μ aV w'):ju P μ H w (do s;pure .skip) (.val (.aP []) aV):=by
 obtain⟨w',ab,ar,aJ⟩:=h
 exact⟨μ,w',undef,.inr ⟨rfl,by simp[ab]⟩,⟨[],rfl,rfl⟩,ar,aJ⟩
theorem xo(ai:br μ H w){s:Sem Value}{o:Option I}{iY:String}(h:∀v,o=some v->∃u,s.run P w=.ok u w/\bl μ v u):ju P μ H w (do pure (.value (<-s))) (fC H iY o):=by
 cases o with
 |none=>trivial
 |some v=>exact .of_same ai (h v rfl)
theorem rh{s:Sem Value}{o:Option I}{iY:String}(h:∀v,o=some v->eO P μ H w s v H):ju P μ H w (do pure (.value (<-s))) (fC H iY o):=by
 cases o with
 |none=>trivial
 |some v=>exact .jv (h v rfl)
theorem sM{s:Sem Value}{o:Option (I×J)}{iY:String}(h:∀v aV,o=some (v,aV)->eO P μ H w s v aV):ju P μ H w (do pure (.value (<-s))) (k8 iY o):=by
 cases o with
 |none=>trivial
 |some p=>exact .jv (h p.1 p.2 rfl)
theorem z2{s:Sem Unit}{o:Option J}{iY:String}(h:∀aV,o=some aV->∃w',s.run P w=.ok () w'/\br μ aV w'/\b7 μ H w μ aV w'):ju P μ H w (do s;pure .skip) (pN iY o):=by
 cases o with
 |none=>trivial
 |some aV=>exact .Qr (h aV rfl)
theorem ri{a:I}{n:Nat}{v:Value}(h:eC a=some n)(aB:bl μ a v):∃k,v=.int k (n:Int):=by
 unfold eC at h
 split at h
 · cases h;cases aB;exact⟨_,rfl⟩
 · cases h
theorem H7(ai:br μ H w){f:I}{p8:Value}{args:List I}{vs:List Value}(hf:bl μ f p8)(aS:b_ μ args vs):
  ju P μ H w (do let d<-Deferred.ofValue p8 ⟨vs⟩;invoke d.target d.args) (sr f args H):=by
 unfold sr
 split
 · obtain⟨bR,cs,ab,ad,_⟩:=H6 (P:=P) (w:=w) hf aS
   exact⟨rfl,_,ab,ad⟩
 · obtain⟨i,ab,ad⟩:=Qp (P:=P) (w:=w) (vs:=vs) hf
   exact⟨rfl,i,vs,ab,ad,aS⟩
 · trivial
theorem Qs(ai:br μ H w){b:Builtin}{ats:Array TypeId}{ty:TypeId}{consts:Array Bool}{vs:List I}{us:List Value}(aB:b_ μ vs us):
  ju P μ H w (builtin b ats ty consts ⟨us⟩) (hY P b ats vs H):=by
 unfold hY
 split
 · rfl
 · cases vs with
   |nil=>trivial
   |cons x l=>
    obtain⟨bz,kL,rfl,ab,ad⟩:=aB
    refine xo ai λv h=>?_
    obtain⟨u,ba,a7⟩:=CM (P:=P) (w:=w) pL Builtin.min2 (λ_ _ _ _ _ h aa aW=>PE h aa aW) l x bz kL v ab ad h
    exact⟨u,by simpa[Builtin.min_] using ba,a7⟩
 · cases vs with
   |nil=>trivial
   |cons x l=>
    obtain⟨bz,kL,rfl,ab,ad⟩:=aB
    refine xo ai λv h=>?_
    obtain⟨u,ba,a7⟩:=CM (P:=P) (w:=w) qO Builtin.max2 (λ_ _ _ _ _ h aa aW=>PF h aa aW) l x bz kL v ab ad h
    exact⟨u,by simpa[Builtin.max_] using ba,a7⟩
 · split
   · rename_i t x h0
     obtain⟨bz,kL,rfl,ab,ad⟩:=aB
     cases ad
     split
     · exact rh λv h=>PB ai h0 ab h
     · exact rh λv h=>PC ai h0 ab h
     · exact sM λv aV h=>PA ai h0 ab h
     · obtain⟨s1,s2,bI⟩:=Qo (P:=P) (w:=w) (argTypes:=ats) (ty:=ty) ab
       split
       · exact .of_same ai ⟨_,s1 rfl,rfl⟩
       · split
         · trivial
         · rename_i ag;exact .of_same ai (s2 _ _ _ _ rfl ag)
       · split
         · trivial
         · rename_i ag;exact .of_same ai (bI _ _ _ _ rfl ag)
       · trivial
     · trivial
   · rename_i t x y h0
     obtain⟨bz,kL,rfl,ab,gu,Hw,rfl,ad,ar⟩:=aB
     cases ar
     split
     · exact sM λv aV h=>Pu ai h0 ab ad h
     · exact sM λv aV h=>Pz ai h0 ab ad h
     · exact sM λv aV h=>PX ai h0 ab ad h
     · exact sM λv aV h=>Qm ai h0 ab ad h
     · trivial
   · trivial
theorem Qt(ai:br μ H w){src dst:TypeId}{x:I}{bz:Value}(aa:bl μ x bz):
  ju P μ H w (do pure (.value (<-convert src dst bz))) (iJ P src dst x H):=by
 unfold iJ
 split
 · rename_i j1 k bE n hs ao
   cases aa
   exact .of_same ai ⟨.int k (k.wrap n),by simp[convert,bU hs,bU ao,Conv.intToInt],rfl⟩
 · rename_i j1 bE n hs ao
   cases aa
   exact .of_same ai ⟨.string (Utf8.encode n),by simp[convert,bU hs,bU ao,Conv.intToString],_,rfl,rfl⟩
 · rename_i s hs ao
   obtain⟨t,rfl,rfl⟩:=aa
   exact .of_same ai ⟨.string t,by simp[convert,bU hs,bU ao],_,rfl,rfl⟩
 · rename_i e s hs ao
   obtain⟨t,rfl,rfl⟩:=aa
   split
   · rename_i he
     refine .jv ?_
     have ch:=PH (P:=P) ai (e:=e) (bs:=t)
     obtain⟨aX,w',u,ab,ad,ar,aJ⟩:=ch
     exact⟨aX,w',u,by simp[convert,bU hs,bU ao,bU he,ab],ad,ar,aJ⟩
   · trivial
 · rename_i e hs ao
   have key:P.underlying e=some (.int .u8)->∀a n c,(convert src dst (.slice a n c)).run P w=(Conv.bytesToString (.slice a n c)).run P w:=by
    intro he a n c
    simp[convert,bU hs,bU ao,bU he]
   split
   · rename_i he
     cases aa
     refine .of_same ai ⟨.string .empty,?_,.empty,rfl,rfl⟩
     rw[key he];rfl
   · rename_i b off n he
     split
     · rename_i aK
       subst aK
       obtain⟨i,_,_,a,c,rfl⟩:=aa
       refine .of_same ai ⟨.string .empty,?_,.empty,rfl,rfl⟩
       rw[key he];rfl
     · trivial
   · rename_i b off n c zT he
     split
     · rename_i cs aw
       split
       · rename_i bs ae
         obtain⟨aX,w',u,ab,ad,ar,aJ⟩:=PG (P:=P) ai (by intro e;subst e;exact zT rfl) aa aw ae
         refine .jv ⟨aX,w',u,?_,ad,ar,aJ⟩
         have ja:∃a m k,bz=.slice a m k:=by
          obtain⟨i,_,ag⟩:=aa
          cases c with
          |exact c=>cases ag;exact⟨_,_,_,rfl⟩
          |a1 gz=>obtain⟨c,rfl,_⟩:=ag;exact⟨_,_,_,rfl⟩
          |dead=>obtain⟨_,a,c,rfl⟩:=ag;exact⟨_,_,_,rfl⟩
         obtain⟨a,m,k,rfl⟩:=ja
         rw[key he];exact ab
       · trivial
     · trivial
   · trivial
 · rename_i u b off hs ao
   split
   · rename_i cs el k aN af n al aZ
     split
     · rename_i b8
       exact .of_same ai ⟨bz,Qg ai hs ao aZ al (by simpa using b8) aa,aa⟩
     · trivial
   · trivial
 · rename_i u b off hs ao
   split
   · rename_i cs el aN af n al aZ
     split
     · rename_i ag
       exact .of_same ai ⟨bz,Qi ai hs ao aZ al ag aa,aa⟩
     · trivial
   · trivial
 · trivial
end
end aM
namespace aM
open Go
section
variable {P:Program} {μ:bp} {H:J} {w:World}
theorem H8(ai:br μ H w){c a b:Operand}{g:Operand->I}{cr:Operand->Value}(al:∀x,bl μ (g x) (cr x)){fh:Bool}(ag:g c=.bool fh):
  ju P μ H w (do pure (.value (if<-asBool (cr c) then cr a else cr b))) (.val (if fh then g a else g b) H):=by
 have ab:=al c
 rw[ag] at ab
 refine .z1 ai (u:=if fh then cr a else cr b) ?_ ?_
 · cases fh
   · exact al b
   · exact al a
 · have:cr c=.bool fh:=ab
   simp[this,asBool]
theorem z3{g:Operand->I}{cr:Operand->Value}(al:∀x,bl μ (g x) (cr x))(args:Array Operand):b_ μ (args.toList.map g) (args.map cr).toList:=by
 rw[Array.toList_map];exact b_.map g cr al _
theorem Qu(ai:br μ H w){g:Operand->I}{cr:Operand->Value}(al:∀x,bl μ (g x) (cr x))(o:Oper)(x:Operand)(a2:o.op=.nilCheck x):ju P μ H w (execOp cr o) (match g x with
  |.ptr b o=>.val (.ptr b o) H
  |.slice b o n c=>.val (.slice b o n c) H
  |.fn f a b=>.val (.fn f a b) H
  |.iface t v=>.val (.iface t v) H
  |_=>.fail "nilCheck"):=by
 have ab:=al x
 have e:∀(v:I),g x=v->((∃b o,v=.ptr b o)\/(∃b o n c,v=.slice b o n c)\/(∃f a b,v=.fn f a b)\/∃t y,v=.iface t y)->ju P μ H w (execOp cr o) (.val v H):=by
  intro v aB hs
  have ad:=ab
  rw[aB] at ad
  exact .z1 ai ad (OT ad hs o x cr rfl a2)
 split
 · rename_i b o aa;exact e _ aa (.inl ⟨_,_,rfl⟩)
 · rename_i b o n c aa;exact e _ aa (.inr (.inl ⟨_,_,_,_,rfl⟩))
 · rename_i f a b aa;exact e _ aa (.inr (.inr (.inl ⟨_,_,_,rfl⟩)))
 · rename_i t v aa;exact e _ aa (.inr (.inr (.inr ⟨_,_,rfl⟩)))
 · trivial
theorem Qv(ai:br μ H w){g:Operand->I}{cr:Operand->Value}(al:∀x,bl μ (g x) (cr x))(c:Call)(type:TypeId):ju P μ H w (do let d<-resolve cr c type;invoke d.target d.args) (match c.callee with
  |.value f=>sr (g f) (c.args.toList.map g) H
  |.invoke r name=>match g r with
   |.iface t v=>match zA P t name with
    |some f=>.call f (v::c.args.toList.map g) H
    |none=>.fail ("invoke " ++name)
   |_=>.fail ("invoke " ++name)
  |.builtin b=>hY P b c.argTypes (c.args.toList.map g) H):=by
 have aS:=z3 (μ:=μ) al c.args
 cases ag:c.callee with
 |value f=>
  simp only[resolve,ag]
  exact H7 ai (al f) aS
 |invoke r name=>
  simp only[]
  split
  · rename_i t v ak
    split
    · rename_i f hm
      have ab:=al r
      rw[ak] at ab
      obtain⟨y,aW,aB⟩:=ab
      refine⟨rfl,y::(c.args.map cr).toList,?_,⟨_,_,rfl,aB,aS⟩⟩
      have ab7:0<Made.depth:=by decide
      obtain⟨n,aK⟩:∃n,P.types.size+Made.depth=n+1:=⟨P.types.size+Made.depth-1,by omega⟩
      have Qw:=Qq (P:=P) (w:=w) hm y n
      have h0:(#[cr r]++c.args.map cr)[0]? =some (cr r):=by rw[Array.getElem?_append_left (by simp)];rfl
      have ad:(#[cr r]++c.args.map cr).extract 1 (#[cr r]++c.args.map cr).size=c.args.map cr:=by
       apply Array.ext'
       simp only[Array.toList_extract,Array.toList_append,Array.toList_map,List.cons_append,List.nil_append,List.extract_eq_take_drop]
       rw[List.take_of_length_le]
       · rfl
       · simp
      have ar:(#[y]++c.args.map cr:Array Value)=⟨y::(c.args.map cr).toList⟩:=by apply Array.ext';simp
      rw[aW] at h0 ad
      simp only[resolve,ag,Sem.run_bind,Sem.run_pure,Result.andThen_ok,invoke,aW,h0,ad,callMethod,run_program,aK,Qw,ar]
    · trivial
  · trivial
 |builtin b=>
  have ae:=Qs (P:=P) (b:=b) (ats:=c.argTypes) (ty:=type) (consts:=c.args.map λ|.const _=>true|_=>false) ai aS
  have he:(do let d<-resolve cr c type;invoke d.target d.args:Sem Next)=builtin b c.argTypes type (c.args.map λ|.const _=>true|_=>false) (c.args.map cr):=by
   simp only[resolve,ag];rfl
  rw[he];exact ae
set_option maxHeartbeats 4000000 in
theorem Qx(ai:br μ H w)(o:Oper){g:Operand->I}{cr:Operand->Value}(al:∀x,bl μ (g x) (cr x)):ju P μ H w (execOp cr o) (cB P o g H):=by
 obtain⟨dst,op,type,pos,after,guard⟩:=o
 cases op<;>simp only[cB,execOp]
 case move x=>exact .z1 ai (al x) rfl
 case assign x=>exact .z1 ai (al x) rfl
 case pick c a b=>
  split
  · rename_i ag;exact H8 ai al ag
  · rename_i ag;exact H8 ai al ag
  · trivial
 case alloc e=>
  split
  · rename_i z aZ
    split
    · rename_i b an ak;exact .jv (OH ai aZ ak)
    · trivial
  · trivial
 case box e x=>
  split
  · rename_i b an ak;exact .jv (OI ai (al x) ak)
  · trivial
 case build t parts=>
  split
  · rename_i z aZ
    split
    · rename_i bR hu
      split
      · rename_i cs eg hf;exact .jv (OO ai g cr al aZ hu eg parts hf)
      · trivial
    · rename_i n e hu
      split
      · rename_i sz hs
        split
        · rename_i cs hf;exact .jv (OQ ai g cr al aZ hu hs parts hf)
        · trivial
      · trivial
    · trivial
  · trivial
 case buildSlice t len parts=>
  split
  · rename_i e hu
    split
    · rename_i sz z hs aZ
      split
      · rename_i cs ag hf
        rw[Bool.and_eq_true,Nat.ble_eq,Nat.beq_eq] at ag
        split
        · rename_i b an ak;exact .jv (OR ai g cr al hu hs aZ ag.1 ag.2 parts hf ak)
        · trivial
      · trivial
    · trivial
  · trivial
 case insert t m k v=>exact z2 λaV h=>HL ai (al m) (al k) (al v) h
 case load t a=>
  split
  · rename_i b off aS
    have ab:=al a
    rw[aS] at ab
    obtain⟨bB,b2⟩:=OJ (P:=P) ai (t:=t) ab
    split
    · rename_i n C5 aK
      split
      · rename_i cs aw;exact .jv (bB n cs C5 aK aw)
      · trivial
    · rename_i C5
      exact rh λv h=>b2 v C5 h
    · trivial
  · trivial
 case store t a v=>
  split
  · rename_i b off aS
    have ab:=al a
    rw[aS] at ab
    split
    · trivial
    · rename_i n aK kM
      split
      · rename_i aw
        exact z2 λaV h=>OK ai ab (al v) kM aK (by simpa using aw) h
      · trivial
    · trivial
  · trivial
 case ready=>trivial
 case waits=>trivial
 case nilCheck x=>exact Qu ai al ⟨dst,.nilCheck x,type,pos,after,guard⟩ x rfl
 case binOp op t x y yt=>exact xo ai λv h=>Qd ai (yt:=yt) (al x) (al y) h
 case unOp op t x=>
  have ab:=al x
  split
  · rename_i b aa;rw[aa] at ab;exact .of_same ai (Qa ab)
  · rename_i k n aa;rw[aa] at ab;exact .of_same ai (Qb ab)
  · rename_i k n aa;rw[aa] at ab;exact xo ai λv h=>Qc ab h
  · trivial
 case convert src ab8 x=>exact Qt ai (al x)
 case sliceToArrayPointer=>trivial
 case makeInterface t x=>
  split
  · trivial
  · rename_i d dR hu
    refine .of_same ai ⟨.iface t (cr x),Qe hu (λm e=>dR m (e▸rfl)) (al x),_,rfl,al x⟩
  · trivial
 case makeFunc fn first aR=>
  split
  · rename_i f
    exact .of_same ai ⟨.func (.func f) (first.map cr) (aR.map cr),rfl,_,_,rfl,z3 al first,z3 al aR⟩
  · trivial
 case makeMap t r=>
  cases r with
  |none=>exact .jv (PY ai)
  |some x=>
   simp only[]
   split
   · rename_i kt iZ k n hu aa
     have ab:=al x
     rw[aa] at ab
     have ad:cr x=.int k n:=ab
     rw[Option.map_some,ad]
     exact .jv (PZ ai hu)
   · trivial
 case makeChan=>trivial
 case makeSlice t l c=>
  split
  · rename_i e nZ c' hu aw ag
    obtain⟨kl,el⟩:=ri aw (al l)
    obtain⟨kc,xp⟩:=ri ag (al c)
    split
    · rename_i i z af aZ
      split
      · rename_i ki
        rw[Bool.and_eq_true,Bool.and_eq_true,Nat.ble_eq,Nat.beq_eq,decide_eq_true_eq] at ki
        split
        · rename_i b an ak
          rw[el,xp]
          exact .jv (OS ai hu af aZ ki.1.1 ki.1.2 ki.2 ak)
        · trivial
      · trivial
    · trivial
  · trivial
 case slice t x aN af mx=>
  exact rh λv h=>O4 ai (al x) (m9.map g cr al aN) (m9.map g cr al af) (m9.map g cr al mx) h
 case fieldAddr s x f=>
  split
  · rename_i bR b off hu aa
    have ab:=al x
    rw[aa] at ab
    split
    · rename_i fd hf
      split
      · trivial
      · rename_i n w8 aK
        exact .jv (O6 ai hu hf aK (λe=>w8 e) ab)
      · trivial
    · trivial
  · trivial
 case field t x f=>
  split
  · rename_i bR cs hu aa
    have ab:=al x
    rw[aa] at ab
    split
    · rename_i fd hf
      exact rh λv h=>O5 ai hu hf ab h
    · trivial
  · trivial
 case indexAddr t x i=>
  split
  · rename_i n e b off k hu aa af
    have ab:=al x
    rw[aa] at ab
    obtain⟨bh,mi⟩:=ri af (al i)
    split
    · rename_i sz hs
      split
      · rename_i aq;rw[mi];exact .jv (O8 ai hu hs ab aq)
      · trivial
    · trivial
  · rename_i e b off n c k hu aa af
    have ab:=al x
    rw[aa] at ab
    obtain⟨bh,mi⟩:=ri af (al i)
    split
    · rename_i sz hs
      split
      · rename_i aq;rw[mi];exact .jv (O7 ai hu hs ab aq)
      · trivial
    · trivial
  · trivial
 case index t x i=>
  split
  · rename_i n e cs k hu aa af
    have ab:=al x
    rw[aa] at ab
    obtain⟨bh,mi⟩:=ri af (al i)
    split
    · rename_i sz hs
      split
      · rename_i aq;rw[mi];exact rh λv h=>O9 ai hu hs ab aq h
      · trivial
    · trivial
  · rename_i s k hu aa af
    have ab:=al x
    rw[aa] at ab
    obtain⟨bh,mi⟩:=ri af (al i)
    split
    · rename_i c ag;rw[mi];exact .jv (O_ ai hu ab ag)
    · trivial
  · trivial
 case lookup t x i ok=>exact rh λv h=>PS ai (al x) (al i) h
 case mapUpdate t m k v=>exact z2 λaV h=>HL ai (al m) (al k) (al v) h
 case mapEntry t m k=>exact sM λv aV h=>PU ai (al m) (al k) h
 case entryStore t m s v=>exact z2 λaV h=>PV ai (al m) (al s) (al v) h
 case range t x=>
  split
  · rename_i s hu aa
    have ab:=al x
    rw[aa] at ab
    exact .jv (P0 ai hu ab)
  · rename_i kt iZ hu aa
    have ab:=al x
    rw[aa] at ab
    exact .jv (P1 ai hu ab)
  · rename_i kt iZ m hu aa
    have ab:=al x
    rw[aa] at ab
    split
    · rename_i es c xi
      obtain⟨i,af,aB⟩:=ab
      obtain⟨ents,aA,ay⟩:=ai.rel _ _ i xi af
      obtain⟨r1,r2⟩:=ai.alloc (.mapIter (some m) c [] c) (.mapIter (some i.bk) c #[] c) 0 ⟨rfl,i,ai.nU _ _ _ af,World.heap_alloc_new _ _⟩
      refine .jv ⟨_,_,.pointer (some ⟨w.heap.size,0,none⟩),?_,⟨_,gp _ _ _,rfl⟩,r1,r2⟩
      have iA:(getObj i.bk).run P w=.ok (.map ⟨ents⟩ c) w:=by simp[getObj,Sem.run,aA]
      rw[aB]
      simp only[Instr.range,Sem.run_bind,bU hu,Result.andThen_ok,iA,Sem.run_pure,run_newObj]
      rfl
    · trivial
  · trivial
 case next it isStr=>exact sM λv aV h=>P4 ai (al it) h
 case entry it=>exact rh λv h=>P7 ai (al it) h
 case typeAssert x xT as ok=>
  have ab:=al x
  split
  · trivial
  · rename_i d dR hu aa
    obtain⟨t1,_,_⟩:=HY (P:=P) (w:=w) (xT:=xT) (ok:=ok) hu (λm e=>dR m (e▸rfl)) ab
    split
    · rename_i c9
      split
      · rename_i z aZ;exact .of_same ai (t1 z aa c9 aZ)
      · trivial
    · trivial
  · rename_i d t v dR hu aa
    obtain⟨_,t2,t3⟩:=HY (P:=P) (w:=w) (xT:=xT) (ok:=ok) hu (λm e=>dR m (e▸rfl)) ab
    split
    · rename_i he;subst he;exact .of_same ai (t2 v aa)
    · rename_i cV
      split
      · rename_i c9
        split
        · rename_i z aZ;exact .of_same ai (t3 t v z aa cV c9 aZ)
        · trivial
      · trivial
  · trivial
 case extract t i=>
  have ab:=al t
  split
  · rename_i vs aa
    rw[aa] at ab
    exact xo ai λv h=>Qf ab h
  · trivial
 case call c=>exact Qv ai al c type
 case go=>trivial
 case defer c=>
  split
  · rename_i f hf
    split
    · rename_i k first aR aa
      have ab:=al f
      rw[aa] at ab
      obtain⟨bR,cs,_,ar,aJ⟩:=H6 (P:=P) (w:=w) ab (z3 al c.args)
      refine⟨_,?_,.call k _ cs _ ar⟩
      simp only[resolve,hf,Sem.run_bind]
      have C6:(Deferred.ofValue (cr f) (c.args.map cr)).run P w=.ok {target:=.fn (.func k) ⟨cs⟩,args:=⟨bR++(c.args.map cr).toList⟩} w:=aJ
      rw[C6];rfl
    · trivial
  · trivial
 case panic x=>
  have ab:=al x
  split
  · rename_i t v aa
    rw[aa] at ab
    obtain⟨y,aW,aB⟩:=ab
    refine⟨rfl,.iface t y,?_,⟨y,rfl,aB⟩⟩
    rw[aW];rfl
  · trivial
 all_goals trivial
end
end aM
namespace aM
open Go
section
variable {P:Program} {μ:bp} {w:World}
def rj(P:Program)(μ:bp)(w:World)(s:Sem Value)(e:TypeId)(cs:List I)(val:Addr->Value):Prop:=
 ∃us:List Value,b_ μ cs us/\s.run P w=.ok (val ⟨w.heap.size,0,none⟩) (w.alloc (.cells ⟨us⟩ e))
theorem H9(el:TypeId)(us:List Value):(_root_.Go.newRow el ⟨us⟩).run P w=.ok ⟨w.heap.size,0,none⟩ (w.alloc (.cells ⟨us⟩ el)):=by simp[_root_.Go.newRow]
theorem Qy{e:TypeId}{z:I}(aZ:d_ P e=some z):rj P μ w (Instr.alloc e true (.tuple #[])) e z.cells (λa=>.pointer (some a)):=by
 obtain⟨v,aB,rfl,ae⟩:=lF (w:=w) aZ
 refine⟨v.cells.toList,(jY μ v).cells ae,?_⟩
 simp[Instr.alloc,aB,newVar,_root_.Go.newRow]
theorem Qz{e:TypeId}{x:I}{v:Value}(aB:bl μ x v)(ae:x≠ .bad):rj P μ w (Instr.box e v) e x.cells (λa=>.pointer (some a)):=by
 refine⟨v.cells.toList,aB.cells ae,?_⟩
 simp[Instr.box,newVar,_root_.Go.newRow]
theorem QA(g:Operand->I)(cr:Operand->Value)(al:∀x,bl μ (g x) (cr x)){t e:TypeId}{len sz:Nat}{z:I}(hu:P.underlying t=some (.slice e))(hs:dh P e=some sz)
  (aZ:d_ P e=some z)(hle:len*sz<=16777216)(m8:z.cells.length=sz)(parts:Array (Nat×Operand)){cs:List I}
  (hf:jE (λi=>some (i*sz,sz)) (if len*sz=0 then[] else fc len z.cells) (parts.toList.map λp=>(p.1,g p.2))=some cs):
  rj P μ w (Instr.buildSlice t len (parts.map λ(i,x)=>(i,cr x))) e cs (λa=>.slice (some a) len len):=by
 obtain⟨v,aB,rfl,ae⟩:=lF (w:=w) aZ
 have ag:=(jY μ v).cells ae
 have w2:¬(len*sz>2^24):=by omega
 have key:∀zero:Array Value,b_ μ (if len*sz=0 then[] else fc len (nO v).cells) ((Array.range (len*sz)).map (λi=>zero[i %zero.size]!)).toList->
   (∀r:Result Value,r=(match Instr.fill (λi=>some (i*sz,sz)) ((Array.range (len*sz)).map (λi=>zero[i %zero.size]!)) (parts.toList.map λp=>(p.1,cr p.2)) with
    |some cells=>do pure (.slice (some (<-_root_.Go.newRow e cells)) len len)
    |none=>stuck "buildSlice: a part of the wrong size" :Sem Value).run P w->(Instr.buildSlice t len (parts.map λ(i,x)=>(i,cr x))).run P w=r)->
   rj P μ w (Instr.buildSlice t len (parts.map λ(i,x)=>(i,cr x))) e cs (λa=>.slice (some a) len len):=by
  intro zero pX eP
  obtain⟨c',ab,ad⟩:=wZ _ g cr al parts.toList _ cs _ pX hf
  refine⟨c',ad,eP _ ?_⟩
  rw[ab]
  simp[H9]
 by_cases h0:len*sz=0
 · refine key #[] (by rw[if_pos h0,h0];simp[b_]) λr ak=>?_
   rw[ak]
   simp only[Instr.buildSlice,Sem.run_bind,bU hu,Result.andThen_ok,run_sizeOf hs,if_neg w2,if_pos h0,Sem.run_pure,Array.toList_map]
   generalize Instr.fill _ _ _=F
   cases F<;>rfl
 · refine key v.cells (by rw[if_neg h0];exact w1 ag m8 len) λr ak=>?_
   rw[ak]
   simp only[Instr.buildSlice,Sem.run_bind,bU hu,Result.andThen_ok,run_sizeOf hs,if_neg w2,if_neg h0,Sem.run_pure,Array.toList_map,aB]
   generalize Instr.fill _ _ _=F
   cases F<;>rfl
theorem QB{t e:TypeId}{l c:Nat}{i:TypeInfo}{z:I}{kl kc:IntKind}(hu:P.underlying t=some (.slice e))(af:P.info? e=some i)(aZ:d_ P e=some z)(q1:l<=c)
  (uB:c*(i.bytes+1)<=1099511627776)(m8:z.cells.length=i.size):
  rj P μ w (Instr.makeSlice t (.int kl l) (.int kc c)) e (if c*i.size=0 then[] else fc c z.cells) (λa=>.slice (some a) l c):=by
 obtain⟨v,aB,rfl,ae⟩:=lF (w:=w) aZ
 have ag:=(jY μ v).cells ae
 have q3:c<=1099511627776:=Nat.le_trans (Nat.le_mul_of_pos_right c (by omega)) uB
 have lG:i.bytes*c<=1099511627776:=by
  have:c*i.bytes<=c*(i.bytes+1):=Nat.mul_le_mul_left c (by omega)
  rw[Nat.mul_comm];omega
 have w3:∀n:Nat,n<=1099511627776->IntKind.wrap .i64 (n:Int)=(n:Int):=λn aK=>q2 n (by omega)
 have kK:=w3 l (by omega)
 have w4:=w3 c q3
 have sy:¬((c:Int)<0||(i.bytes:Int)*(c:Int)>2^48||(l:Int)<0||(l:Int)>(c:Int))=true:=by
  have ab:((i.bytes:Int)*(c:Int))<=1099511627776:=by
   have h0:((i.bytes*c:Nat):Int)<=1099511627776:=by omega
   rw[Int.natCast_mul] at h0;exact h0
  have ad:(2:Int)^48=281474976710656:=by rfl
  generalize (i.bytes:Int)*(c:Int)=q at ab⊢
  rw[ad]
  simp only[Bool.or_eq_true,decide_eq_true_eq]
  omega
 have key:∀zero:Array Value,b_ μ (if c*i.size=0 then[] else fc c (nO v).cells) ((Array.range (c*i.size)).map (λj=>zero[j %zero.size]!)).toList->
   (Instr.makeSlice t (.int kl l) (.int kc c)).run P w=(do let a<-_root_.Go.newRow e ((Array.range (c*i.size)).map (λj=>zero[j %zero.size]!));pure (.slice (some a) l c):Sem Value).run P w->
   rj P μ w (Instr.makeSlice t (.int kl l) (.int kc c)) e (if c*i.size=0 then[] else fc c (nO v).cells) (λa=>.slice (some a) l c):=by
  intro zero pX eP
  refine⟨_,pX,?_⟩
  rw[eP]
  simp only[Sem.run_bind,Sem.run_pure]
  have aD:=H9 (P:=P) (w:=w) e ((Array.range (c*i.size)).map (λj=>zero[j %zero.size]!)).toList
  have:(⟨((Array.range (c*i.size)).map (λj=>zero[j %zero.size]!)).toList⟩:Array Value)=((Array.range (c*i.size)).map (λj=>zero[j %zero.size]!)):=rfl
  rw[this] at aD
  rw[aD];rfl
 have bw:(_root_.Go.sizeOf e).run P w=.ok i.size w:=by simp[_root_.Go.sizeOf,run_typeInfo af]
 by_cases h0:c*i.size=0
 · refine key #[] (by rw[if_pos h0,h0];simp[b_]) ?_
   simp only[Instr.makeSlice,Sem.run_bind,bU hu,Result.andThen_ok,asInt,asIntOf,Sem.run_pure,run_typeInfo af,kK,w4]
   rw[if_neg sy]
   simp[bw,h0]
 · refine key v.cells (by rw[if_neg h0];exact w1 ag m8 c) ?_
   simp only[Instr.makeSlice,Sem.run_bind,bU hu,Result.andThen_ok,asInt,asIntOf,Sem.run_pure,run_typeInfo af,kK,w4]
   rw[if_neg sy]
   simp[bw,h0,aB]
structure Laid(P:Program)(μ:bp)(w:World)(s:Sem Next)(b:Nat)(v:I)(cq:da)(u:Value)(X:Obj)(sz:Nat):Prop where
 run:s.run P w=.ok (.value u) (w.alloc X)
 val:∀aX,e2 μ aX->aX b=some ⟨w.heap.size,0,sz⟩->bl aX v u
 obj:∀aX w',e2 μ aX->w'.heap[w.heap.size]? =some X->oU aX cq ⟨w.heap.size,0,sz⟩ w'
 ro:cq.oV=false
theorem rj.laid{s:Sem Value}{e:TypeId}{cs:List I}{val:Addr->Value}(h:rj P μ w s e cs val){b:Nat}{v:I}(aB:∀aX sz,aX b=some ⟨w.heap.size,0,sz⟩->bl aX v (val ⟨w.heap.size,0,none⟩)):
  ∃u X sz,Laid P μ w (do pure (.value (<-s))) b v (.cells cs e .own 0 0) u X sz:=by
 obtain⟨us,ab,ad⟩:=h
 refine⟨_,.cells ⟨us⟩ e,us.length,by simp[ad],λaX _ hm=>aB aX _ hm,λaX w' hle bu=>?_,rfl⟩
 exact⟨⟨us⟩,0,0,bu,λj v aL=>by
  obtain⟨u,hu,ak⟩:=ab.get aL
  exact⟨u,by simpa using hu,ak.mono hle⟩,by simp,rfl,ab.length.symm,rfl,rfl⟩
theorem QC(o:Oper){g:Operand->I}{cr:Operand->Value}(al:∀x,bl μ (g x) (cr x)){b:Nat}{v:I}{cq:da}(h:jX P o.op g b=some (v,cq)):
  ∃u X sz,Laid P μ w (execOp cr o) b v cq u X sz:=by
 obtain⟨dst,op,type,pos,after,guard⟩:=o
 cases op<;>simp only[jX] at h<;>try (cases h;done)
 case alloc e=>
  split at h
  · rename_i z aZ
    split at h
    · cases h
      exact(Qy aZ).laid λaX sz hm=>⟨_,hm,rfl⟩
    · cases h
  · cases h
 case box e x=>
  split at h
  · rename_i eg
    cases h
    have ae:g x≠ .bad:=by intro e;rw[e] at eg;simp[I.cells,I.cQ] at eg
    exact(Qz (al x) ae).laid λaX sz hm=>⟨_,hm,rfl⟩
  · cases h
 case buildSlice t len parts=>
  split at h
  · rename_i e hu
    split at h
    · rename_i sz z hs aZ
      split at h
      · rename_i cs ag hf
        rw[Bool.and_eq_true,Nat.ble_eq,Nat.beq_eq] at ag
        split at h
        · cases h
          exact(QA g cr al hu hs aZ ag.1 ag.2 parts hf).laid λaX sz hm=>⟨_,hm,rfl⟩
        · cases h
      · cases h
    · cases h
  · cases h
 case makeMap t r=>
  cases r with
  |some x=>cases h
  |none=>
   cases h
   exact⟨.map (some w.heap.size),.map #[] 0,0,rfl,λaX _ hm=>⟨_,hm,rfl⟩,λaX w' _ bu=>⟨[],bu,rfl⟩,rfl⟩
 case makeSlice t l c=>
  split at h
  · rename_i e nZ c' hu aw ag
    obtain⟨kl,el⟩:=ri aw (al l)
    obtain⟨kc,xp⟩:=ri ag (al c)
    split at h
    · rename_i i z af aZ
      split at h
      · rename_i cs ki
        split at h
        · cases h
          rw[Bool.and_eq_true,Bool.and_eq_true,Nat.ble_eq,Nat.beq_eq,decide_eq_true_eq] at ki
          have:=(QB (P:=P) (μ:=μ) (w:=w) (kl:=kl) (kc:=kc) hu af aZ ki.1.1 ki.1.2 ki.2).laid (b:=b) (v:=.slice b 0 nZ (.exact c')) λaX sz hm=>⟨_,hm,rfl⟩
          simp only[execOp,el,xp]
          exact this
        · cases h
      · cases h
    · cases h
  · cases h
end
end aM
namespace aM
open Go
def hd(P:Program)(μ:bp):Prop:=∀g,g<P.globals.size->∃i,μ g=some i/\i.bk=g/\i.base=0
theorem hd.mono{P:Program}{μ aX:bp}(h:hd P μ)(hle:e2 μ aX):hd P aX:=λg al=>let⟨i,ab,ad⟩:=h g al;⟨i,hle _ _ ab,ad⟩
def Ends(μ:bp)(H:J)(w:World):av->Ending->World->Prop
 |.ret v aV,e,w'=>∃aX u,e=.returned u/\bl aX v u/\br aX aV w'/\b7 μ H w aX aV w'
 |.b4 v aV,e,w'=>∃aX u,e=.panicked [{v:=u,recovered:=false}]/\bl aX v u/\br aX aV w'/\b7 μ H w aX aV w'
 |.fail _,_,_=>True
def av.kN:av->Bool
 |.fail _=>false
 |_=>true
def sN(P:Program)(f:FuncId)(vs:List Value)(w:World)(R:Ending->World->Prop):Prop:=
 (∃v w',(callFunc f ⟨vs⟩).run P w=.ok (.value v) w'/\R (.returned v) w')\/
 ((callFunc f ⟨vs⟩).run P w=.ok (.enter f ⟨vs⟩) w/\Calls P f ⟨vs⟩ w R)
def rk(P:Program)(m:Machine)(c:Frame)(cs:List Frame)(R:Ending->World->Prop):Prop:=
 ∃e w',R e w'/\match e with
  |.returned v=>Steps P m (lone (c.finish v) cs w')
  |.panicked chain=>Steps P m (lone (c.raise chain) cs w')
  |.outgrown=>False
def H_(P:Program)(l:Nat)(vs:List Value)(w:World)(R:Ending->World->Prop):Prop:=
 ∃f tmps assign body,(Instr.yield l ⟨vs⟩).run P w=.ok (.round l f tmps assign body) w/\∀c cs,rk P (lone (Frame.round l f tmps assign body .normal) (c::cs) w) c cs R
structure jc(P:Program)(call:aI->List I->J->av):Prop where
 fn:∀f args H,(call (.fn f) args H).kN=true->∀μ w (vs:List Value),br μ H w->hd P μ->b_ μ args vs->sN P f vs w (Ends μ H w (call (.fn f) args H))
 dd:∀l args H,(call (.dd l) args H).kN=true->∀μ w i (vs:List Value),br μ H w->hd P μ->μ l=some i->b_ μ args vs->H_ P i.bk vs w (Ends μ H w (call (.dd l) args H))
theorem rk.of_steps{P:Program}{m a3:Machine}{c:Frame}{cs:List Frame}{R:Ending->World->Prop}(h:Steps P m a3)(an:rk P a3 c cs R):rk P m c cs R:=by
 obtain⟨e,w',ak,hs⟩:=an
 refine⟨e,w',ak,?_⟩
 cases e with
 |returned v=>exact h.trans hs
 |panicked uI=>exact h.trans hs
 |outgrown=>exact hs.elim
theorem Ia{P:Program}{f:FuncId}{args:Array Value}{w:World}{R:Ending->World->Prop}(ee:∀w',¬R .outgrown w')(h:Calls P f args w R)(c:Frame)(cs:List Frame):
  rk P (lone (Frame.enter P f args .normal) (c::cs) w) c cs R:=by
 obtain⟨e,w',c3,ak,ag,_,aw⟩:=h (c::cs)
 refine⟨e,w',ak,?_⟩
 cases e with
 |returned v=>exact Steps.trans ag (.one (step_leave_returned aw))
 |panicked uI=>exact Steps.trans ag (.one (step_leave_panicked aw))
 |outgrown=>exact(ee _ ak).elim
def ht(μ:bp)(kind:CallKind)(cs0:List Frame):bD->List Frame->Prop
 |.none,cs=>cs=cs0/\∀c3:Frame,c3.kind=kind->tryRecover c3 cs0=none
 |.act v,cs=>cs=cs0/\kind=.deferred/\∃c rest u,cs0=c::rest/\c.mode=.panicking [{v:=u,recovered:=false}]/\bl μ v u
 |.done v,cs=>kind=.deferred/\∃c rest u,cs0=c::rest/\c.mode=.panicking [{v:=u,recovered:=false}]/\bl μ v u/\cs={c with mode:=.panicking [{v:=u,recovered:=true}]}::rest
theorem ht.mono{μ aX:bp}(hle:e2 μ aX){kind:CallKind}{cs0 cs:List Frame}{q:bD}(h:ht μ kind cs0 q cs):ht aX kind cs0 q cs:=by
 cases q with
 |none=>exact h
 |act v=>obtain⟨ab,ad,c,rest,u,ar,aJ,bO⟩:=h;exact⟨ab,ad,c,rest,u,ar,aJ,bO.mono hle⟩
 |done v=>obtain⟨ab,c,rest,u,ar,aJ,bO,cj⟩:=h;exact⟨ab,c,rest,u,ar,aJ,bO.mono hle,cj⟩
section
variable {P:Program} {μ:bp} {H:J} {w:World}
theorem z4{b:Frame}{a:Act}{ops:Array Oper}{i:Nat}{rest:List Nat}{k:List Item}{cs:List Frame}{s:Sem Next}
  (ch:stepG P true {frame:=b.atR a (.inRegion ops (i::rest)::k),callers:=cs,status:=.running,dying:=none} w=stepG.apply P true (b.atR a (.inRegion ops (i::rest)::k)) cs none s w):
  (∀v w',s.run P w=.ok (.value v) w'->Steps P (lone (b.atR a (.inRegion ops (i::rest)::k)) cs w) (lone ((b.atR a (.inRegion ops (i::rest)::k)).finish v) cs w'))/\
  (∀w',s.run P w=.ok .skip w'->Steps P (lone (b.atR a (.inRegion ops (i::rest)::k)) cs w) (lone ((b.atR a (.inRegion ops (i::rest)::k)).finish undef) cs w'))/\
  (∀u w',s.run P w=.halt (.panic u) w'->Steps P (lone (b.atR a (.inRegion ops (i::rest)::k)) cs w) (lone ((b.atR a (.inRegion ops (i::rest)::k)).raise [{v:=u,recovered:=false}]) cs w'))/\
  (∀d w',s.run P w=.ok (.defer d) w'->Steps P (lone (b.atR a (.inRegion ops (i::rest)::k)) cs w) (lone (b.atR ({a with defers:=d::a.defers}.put ((ops[i]?).bind (·.dst)) undef) (.inRegion ops rest::k)) cs w'))/\
  (∀f args w',s.run P w=.ok (.enter f args) w'->Steps P (lone (b.atR a (.inRegion ops (i::rest)::k)) cs w) (lone (Frame.enter P f args .normal) (b.atR a (.inRegion ops (i::rest)::k)::cs) w'))/\
  (∀l f tmps assign body w',s.run P w=.ok (.round l f tmps assign body) w'->Steps P (lone (b.atR a (.inRegion ops (i::rest)::k)) cs w) (lone (Frame.round l f tmps assign body .normal) (b.atR a (.inRegion ops (i::rest)::k)::cs) w'))/\
  (b.roundOf=none->∀w',s.run P w=.ok .recover w'->∀v bN,tryRecover (b.atR a (.inRegion ops (i::rest)::k)) cs=some (v,bN)->Steps P (lone (b.atR a (.inRegion ops (i::rest)::k)) cs w) (lone ((b.atR a (.inRegion ops (i::rest)::k)).finish v) bN w'))/\
  (b.roundOf=none->∀w',s.run P w=.ok .recover w'->tryRecover (b.atR a (.inRegion ops (i::rest)::k)) cs=none->Steps P (lone (b.atR a (.inRegion ops (i::rest)::k)) cs w) (lone ((b.atR a (.inRegion ops (i::rest)::k)).finish .nilIface) cs w')):=by
 refine⟨λv w' ak=>.one (step_lone_go ?_),λw' ak=>.one (step_lone_go ?_),λu w' ak=>.one (step_lone_go ?_),λd w' ak=>.one (step_lone_go ?_),λf args w' ak=>.one (step_lone_go ?_),λl f tmps assign body w' ak=>.one (step_lone_go ?_),λae w' ak v bN a_=>.one (step_lone_go ?_),λae w' ak a_=>.one (step_lone_go ?_)⟩
 · rw[ch];simp[stepG.apply,ak]
 · rw[ch];simp[stepG.apply,ak]
 · rw[ch];simp[stepG.apply,ak]
 · rw[ch]
   have:=Frame.finish_atR b {a with defers:=d::a.defers} ops i rest k undef
   simp only[stepG.apply,Sem.runT_eq,ak,GStep.bare_after]
   exact congrArg (λc3=>GStep.go {frame:=c3,callers:=cs,status:=.running,dying:=none} w') this
 · rw[ch];simp[stepG.apply,ak,Frame.atR]
 · rw[ch];simp[stepG.apply,ak,Frame.atR]
 · rw[ch]
   have jZ:(b.atR a (.inRegion ops (i::rest)::k)).roundOf=none:=ae
   simp[stepG.apply,ak,jZ,a_]
 · rw[ch]
   have jZ:(b.atR a (.inRegion ops (i::rest)::k)).roundOf=none:=ae
   simp[stepG.apply,ak,jZ,a_]
def C7(P:Program)(μ:bp)(H:J)(w:World)(b:Frame)(a:Act)(ops:Array Oper)(o:Oper)(i:Nat)(rest:List Nat)(k:List Item)(cs0 cs:List Frame):wM->Prop
 |.ok v bf bj aV=>∃aX w' u sO bN,Steps P (lone (b.atR a (.inRegion ops (i::rest)::k)) cs w) (lone (b.atR {tmps:=(a.put o.dst u).tmps,defers:=sO} (.inRegion ops rest::k)) bN w')/\
   bl aX v u/\br aX aV w'/\b7 μ H w aX aV w'/\gl aX bf sO/\ht aX b.kind cs0 bj bN
 |.b4 v bf bj aV=>∃aX w' u,Steps P (lone (b.atR a (.inRegion ops (i::rest)::k)) cs w) (lone {b.atR a (.inRegion ops (i::rest)::k) with mode:=.panicking [{v:=u,recovered:=false}]} cs w')/\
   bl aX v u/\br aX aV w'/\b7 μ H w aX aV w'/\gl aX bf a.defers/\ht aX b.kind cs0 bj cs
 |.fail _=>True
theorem put_defers(a:Act)(dst:Option Tmp)(u:Value):(a.put dst u).defers=a.defers:=by cases dst<;>rfl
theorem z5(a:Act)(dst:Option Tmp)(u:Value):a.put dst u={tmps:=(a.put dst u).tmps,defers:=a.defers}:=by cases dst<;>rfl
theorem QD(a:Act)(ds:List Deferred)(dst:Option Tmp)(u:Value):({a with defers:=ds}:Act).put dst u={tmps:=(a.put dst u).tmps,defers:=ds}:=by cases dst<;>rfl
theorem Ib{b:Frame}{a:Act}{ops:Array Oper}{o:Oper}{i:Nat}{rest:List Nat}{k:List Item}{cs0 cs:List Frame}(a2:ops[i]? =some o){d:List bQ}{q:bD}
  (ao:gl μ d a.defers)(aT:ht μ b.kind cs0 q cs){r:av}{m:Machine}(hs:Steps P (lone (b.atR a (.inRegion ops (i::rest)::k)) cs w) m)
  (aw:rk P m (b.atR a (.inRegion ops (i::rest)::k)) cs (Ends μ H w r)):C7 P μ H w b a ops o i rest k cs0 cs (wN d q r):=by
 obtain⟨e,w',ak,ch⟩:=aw
 cases r with
 |ret v aV=>
  obtain⟨aX,u,rfl,ab,ad,ar⟩:=ak
  refine⟨aX,w',u,a.defers,cs,hs.trans ?_,ab,ad,ar,ao.mono ar.le,aT.mono ar.le⟩
  have:(b.atR a (.inRegion ops (i::rest)::k)).finish u=b.atR {tmps:=(a.put o.dst u).tmps,defers:=a.defers} (.inRegion ops rest::k):=by
   rw[Frame.finish_atR,a2,<-z5];rfl
  rw[<-this];exact ch
 |b4 v aV=>
  obtain⟨aX,u,rfl,ab,ad,ar⟩:=ak
  exact⟨aX,w',u,hs.trans ch,ab,ad,ar,ao.mono ar.le,aT.mono ar.le⟩
 |fail w=>trivial
theorem z6{r:av}(h:r.kN=false):∃s,r=.fail s:=by
 cases r with
 |fail s=>exact⟨s,rfl⟩
 |_=>cases h
theorem z7{r:av}(al:r.kN=true):∀w',¬Ends μ H w r .outgrown w':=by
 intro w' h
 cases r with
 |ret v aV=>obtain⟨_,_,e,_⟩:=h;cases e
 |b4 v aV=>obtain⟨_,_,e,_⟩:=h;cases e
 |fail s=>cases al
theorem Ic{call:aI->List I->J->av}(ag:jc P call)(ai:br μ H w)(mj:hd P μ){b:Frame}{a:Act}{ops:Array Oper}{o:Oper}{i:Nat}{rest:List Nat}{k:List Item}{cs0 cs:List Frame}
  (a2:ops[i]? =some o){gd:Option (I×Bool)}(gv:∀o4,ep gd=some o4->Region.wanted o (yielded ops a.tmps)=o4){g:Operand->I}(al:∀x,bl μ (g x) (a.eval x)){d:List bQ}{q:bD}
  (ao:gl μ d a.defers)(aT:ht μ b.kind cs0 q cs){inR:Bool}(fe:inR=b.roundOf.isSome):C7 P μ H w b a ops o i rest k cs0 cs (dL P inR call gd o g d q H):=by
 unfold dL
 have ml:∀u,(b.atR a (.inRegion ops (i::rest)::k)).finish u=b.atR {tmps:=(a.put o.dst u).tmps,defers:=a.defers} (.inRegion ops rest::k):=λu=>by
  rw[Frame.finish_atR,a2,<-z5];rfl
 split
 · trivial
 · rename_i hw
   have xq:=gv _ hw
   refine⟨μ,w,undef,a.defers,cs,?_,⟨[],rfl,rfl⟩,ai,b7.refl _ _ _,ao,aT⟩
   have hs:=stepR_op_skip (P:=P) (b:=b) (a:=a) (k:=k) (cs:=cs) (w:=w) (ops:=ops) (i:=i) (rest:=rest) (by simp[a2,xq])
   rw[a2] at hs
   have he:a.put ((some o).bind (·.dst)) undef={tmps:=(a.put o.dst undef).tmps,defers:=a.defers}:=z5 a o.dst undef
   rw[he] at hs
   exact .one hs
 · rename_i hw
   have C8:=gv _ hw
   have ch:=stepGR_op (P:=P) (b:=b) (a:=a) (k:=k) (cs:=cs) (w:=w) (rest:=rest) a2 C8
   have fo:=Qx (P:=P) ai o al
   by_cases Ie:b.roundOf.isSome=true/\∃c,o.op=.defer c
   · obtain⟨ak,c,QE⟩:=Ie
     have:(∃x,cB P o g H=.k6 x)\/∃s,cB P o g H=.fail s:=by
      unfold cB
      rw[QE]
      simp only
      split
      · split
        · exact .inl ⟨_,rfl⟩
        · exact .inr ⟨_,rfl⟩
      · exact .inr ⟨_,rfl⟩
     rcases this with⟨x,e⟩|⟨s,e⟩
     · rw[e];simp only[fe,ak,if_true];trivial
     · rw[e];trivial
   · have sP:o.semAt b.roundOf a.eval=execOp a.eval o:=by
       cases g_:b.roundOf with
       |none=>rfl
       |some l=>exact Oper.semAt_eq _ _ _ λc e=>Ie ⟨by rw[g_];rfl,c,e⟩
     rw[sP] at ch
     obtain⟨aj,ax,aC,bK,bW,dZ,eQ,fT⟩:=z4 ch
     cases fi:cB P o g H with
     |val v aV=>
      rw[fi] at fo
      obtain⟨aX,w',u,ak,ab,ad,ar⟩:=fo
      refine⟨aX,w',u,a.defers,cs,?_,ab,ad,ar,ao.mono ar.le,aT.mono ar.le⟩
      rw[<-ml]
      rcases ak with ak|⟨rfl,ak⟩
      · exact aj _ _ ak
      · exact ax _ ak
     |b4 v aV=>
      rw[fi] at fo
      obtain⟨rfl,u,ak,ab⟩:=fo
      exact⟨μ,w,u,aC _ _ ak,ab,ai,b7.refl _ _ _,ao,aT⟩
     |call f args aV=>
      rw[fi] at fo
      obtain⟨rfl,vs,ak,ab⟩:=fo
      simp only
      cases b6:(call (.fn f) args aV).kN with
      |false=>obtain⟨s,hs⟩:=z6 b6;rw[hs];trivial
      |true=>
       rcases ag.fn f args aV b6 μ w vs ai mj ab with⟨v,w',ba,a7⟩|⟨ba,a7⟩
       · rw[<-ak] at ba
         have hs:=aj _ _ ba
         cases Ig:call (.fn f) args aV with
         |fail s=>trivial
         |ret v' aQ=>
          rw[Ig] at a7
          obtain⟨aX,u,e,ad,ar,aJ⟩:=a7
          cases e
          exact⟨aX,w',_,a.defers,cs,by rw[<-ml];exact hs,ad,ar,aJ,ao.mono aJ.le,aT.mono aJ.le⟩
         |b4 v' aQ=>
          rw[Ig] at a7
          obtain⟨aX,u,e,ad,ar,aJ⟩:=a7
          cases e
       · rw[<-ak] at ba
         have hs:=bW _ _ _ ba
         exact Ib a2 ao aT hs (Ia (z7 b6) a7 _ _)
     |dd l args aV=>
      rw[fi] at fo
      obtain⟨rfl,eh,vs,aw,ak,ab⟩:=fo
      simp only
      cases b6:(call (.dd l) args aV).kN with
      |false=>obtain⟨s,hs⟩:=z6 b6;rw[hs];trivial
      |true=>
       obtain⟨f,tmps,as,cf,ba,a7⟩:=ag.dd l args aV b6 μ w eh vs ai mj aw ab
       rw[<-ak] at ba
       have hs:=dZ _ _ _ _ _ _ ba
       exact Ib a2 ao aT hs (a7 _ _)
     |k6 x=>
      rw[fi] at fo
      obtain⟨rf,ak,ab⟩:=fo
      simp only
      split
      · trivial
      · refine⟨μ,w,undef,rf::a.defers,cs,?_,⟨[],rfl,rfl⟩,ai,b7.refl _ _ _,⟨_,_,rfl,ab,ao⟩,aT⟩
        have hs:=bK _ _ ak
        rw[a2] at hs
        have he:({a with defers:=rf::a.defers}:Act).put ((some o).bind (·.dst)) undef={tmps:=(a.put o.dst undef).tmps,defers:=rf::a.defers}:=QD a _ o.dst undef
        rw[he] at hs
        exact hs
     |sm=>
      rw[fi] at fo
      have ak:(execOp a.eval o).run P w=.ok .recover w:=fo
      simp only
      split
      · trivial
      · rename_i zP
        have xr:b.roundOf=none:=by
         cases g_:b.roundOf with
         |none=>rfl
         |some l=>rw[g_] at fe;exact absurd fe zP
        have aq:(b.atR a (.inRegion ops (i::rest)::k)).kind=b.kind:=rfl
        split
        · obtain⟨rfl,a_⟩:=aT
          refine⟨μ,w,.nilIface,a.defers,cs,?_,rfl,ai,b7.refl _ _ _,ao,⟨rfl,a_⟩⟩
          rw[<-ml]
          exact fT xr _ ak (a_ _ aq)
        · have sQ:=aT
          obtain⟨mm,c,rs,u,aA,ay,bx,rfl⟩:=aT
          refine⟨μ,w,.nilIface,a.defers,_,?_,rfl,ai,b7.refl _ _ _,ao,sQ⟩
          rw[<-ml]
          refine fT xr _ ak ?_
          have xt:(b.atR a (.inRegion ops (i::rest)::k)).kind=.deferred:=aq.trans mm
          simp only[tryRecover,xt]
        · obtain⟨rfl,mm,c,rs,u,aA,ay,bx⟩:=aT
          subst aA
          refine⟨μ,w,u,a.defers,{c with mode:=.panicking [{v:=u,recovered:=true}]}::rs,?_,bx,ai,b7.refl _ _ _,ao,⟨mm,c,rs,u,rfl,ay,bx,rfl⟩⟩
          rw[<-ml]
          refine eQ xr _ ak _ _ ?_
          have xt:(b.atR a (.inRegion ops (i::rest)::k)).kind=.deferred:=aq.trans mm
          simp only[tryRecover,xt,ay]
     |fail s=>trivial
end
end aM
