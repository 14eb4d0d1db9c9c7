/-
  THE ABSTRACT EVALUATOR (operations): a deterministic semantics of loaded code, and the proof that its runs are runs of the program in the model, whatever the tape draws. No condition.
-/
import Derived.Test.YtjkomfonmcmgdaaGreatDoorAea
import Derived.ChangeKeysEq
import Derived.Laws.StructEq
import Derived.AtR
set_option linter.unusedVariables false
set_option linter.unusedSimpArgs false
namespace aP
open Go
section
variable {P:Program} {μ:bq} {H:J} {w:World}
theorem Ai{b off n:Nat}{cs:List I}(h:loadCells H b off n=some cs):cs.length=n:=by
 unfold loadCells at h
 split at h
 · obtain⟨ab,rfl⟩:=s4 _ _ _ h
   simp;omega
 · cases h
theorem Aj:∀l:List UInt8,(dd l).length=l.length
 |[]=>rfl
 |_::l=>by simp[dd,Aj l]
theorem H0{size n:Nat}{x:I}{cs:List I}(h:fV H size x=some (n,cs)):cs.length=n*size:=by
 cases x<;>simp only[fV] at h<;>try cases h
 · split at h<;>cases h
   rw[Aj];simp
 · simp
 · rename_i b off len cap
   cases cap with
   |dead=>
    simp only at h
    split at h
    · cases h;simp
    · cases h
   |exact c=>
    simp only at h
    split at h
    · rename_i bO aw;cases h;exact Ai aw
    · cases h
   |a1 gF=>
    simp only at h
    split at h
    · rename_i bO aw;cases h;exact Ai aw
    · cases h
theorem Qe(ak:bt μ H w){argTypes:Array TypeId}{ty sT:TypeId}(h0:argTypes[0]? =some sT){s x:I}{ny bB:Value}(hs:bm μ s ny)(aa:bm μ x bB){v:I}{aW:J}
  (h:dt P H sT argTypes[1]? s x=some (v,aW)):eW P μ H w (Builtin.append_ argTypes ty #[ny,bB]) v aW:=by
 unfold dt at h
 split at h
 · rename_i e hu eB
   split at h
   · rename_i i z af a2
     split at h
     · cases h
     · rename_i n cs fD
       obtain⟨aw,us,iU,lq⟩:=Ae (P:=P) ak aa fD
       have hQ:=H0 fD
       cases s<;>(try simp only at h)<;>try cases h
       ·
        cases hs
        cases n with
        |zero=>
         cases h
         have:=xB (P:=P) (ty:=ty) h0 rfl hu eB af (base:=none) (sLen:=0) (sCap:=0) aw iU (by omega)
         exact .same ak this rfl
        |succ n=>
         have al:ku H e i.bytes i.size (0+(n+1)) z ([]++cs) 0=some (v,aW):=by simpa using h
         exact C7 ak h0 rfl hu eB af a2 aa fD (old:=[]) ⟨[],rfl,rfl⟩ (by simp) hQ (by omega) ak (cb.refl _ _ _) al
       · rename_i b off len cap
         obtain⟨eo,hR,ag⟩:=hs
         cases cap with
         |dead=>cases h
         |exact cap=>
          cases ag
          simp only at h
          split at h
          · rename_i hle
            have hle:=Nat.le_of_ble_eq_true hle
            have aj:=xB (P:=P) (ty:=ty) h0 rfl hu eB af (base:=some ⟨eo.bl,eo.base+off,none⟩) (sLen:=len) (sCap:=cap) aw iU hle
            simp only[add_plain] at aj
            split at h
            · cases h
              have C_:us=[]:=by
               have ab:=hQ;have ad:=lq.length
               cases us with
               |nil=>rfl
               |cons a l=>simp at ab ad;omega
              subst C_
              refine .same ak (v':=.slice (some ⟨eo.bl,eo.base+off,none⟩) len cap) ?_ ⟨eo,hR,rfl⟩
              rw[aj];simp[_root_.Go.storeCells]
            · split at h
              · rename_i ab ct
                cases h
                obtain⟨w',aA,ay,bw⟩:=xm (P:=P) ak hR lq ct
                refine⟨μ,w',.slice (some ⟨eo.bl,eo.base+off,none⟩) (len+n) cap,?_,⟨eo,hR,rfl⟩,ay,bw⟩
                rw[aj,Nat.add_assoc,aA];rfl
              · cases h
          · rename_i hle
            have cd:cap<len+n:=by
             rcases Nat.lt_or_ge cap (len+n) with h|h
             · exact h
             · rw[xv h] at hle;cases hle
            split at h
            · rename_i old hold
              obtain⟨os,dz,dG⟩:=rq (P:=P) ak.drew hR hold
              exact C7 ak h0 rfl hu eB af a2 aa fD (old:=old) ⟨os,by simp only[Builtin.firstCells];exact dz,dG⟩ (Ai hold) hQ cd ak (cb.refl _ _ _) h
            · cases h
         |a1 gF=>
          obtain⟨cap,rfl,ru,bx⟩:=ag
          simp only at h
          split at h
          · rename_i kx
            simp only[Bool.and_eq_true,Nat.blt_eq] at kx
            have Qf:=Nat.eq_of_beq_eq_true kx.1
            subst Qf
            have xn:=kx.2
            split at h
            · cases h
              have aj:=xB (P:=P) (ty:=ty) h0 rfl hu eB af (base:=some ⟨eo.bl,eo.base+off,none⟩) (sLen:=len) (sCap:=cap) aw iU (by omega)
              simp only[add_plain] at aj
              have C_:us=[]:=by
               have ab:=hQ;have ad:=lq.length
               cases us with
               |nil=>rfl
               |cons a l=>simp at ab ad;omega
              subst C_
              refine .same ak (v':=.slice (some ⟨eo.bl,eo.base+off,none⟩) len cap) ?_ ⟨eo,hR,cap,rfl,ru,bx⟩
              rw[aj];simp[_root_.Go.storeCells]
            · split at h
              · rename_i old el aO eQ ae
                have Qg:=ak.rel b _ eo ae hR
                obtain⟨c,gr,gu,a8,a6,b4,fX,fI⟩:=Qg
                split at h
                · rename_i rF
                  have rF:=Nat.le_of_ble_eq_true rF
                  split at h
                  · rename_i ab ct
                    cases h
                    have iG:len+n<=cap:=by
                     have:(len+n)*i.size<=cap*i.size:=by omega
                     exact Nat.le_of_mul_le_mul_right this xn
                    have aj:=xB (P:=P) (ty:=ty) h0 rfl hu eB af (base:=some ⟨eo.bl,eo.base+off,none⟩) (sLen:=len) (sCap:=cap) aw iU iG
                    simp only[add_plain] at aj
                    obtain⟨w',aA,ay,bw⟩:=xm (P:=P) ak hR lq ct
                    refine⟨μ,w',.slice (some ⟨eo.bl,eo.base+off,none⟩) (len+n) cap,?_,⟨eo,hR,cap,rfl,iG,bx⟩,ay,bw⟩
                    rw[aj,Nat.add_assoc,aA];rfl
                  · cases h
                · split at h
                  · rename_i o H2 hold
                    simp only[Bool.and_eq_true] at H2
                    obtain⟨kb,qs⟩:=H2
                    have kb:=Nat.le_of_ble_eq_true kb
                    have qs:=Nat.eq_of_beq_eq_true qs
                    subst qs
                    have al:=h
                    unfold ku at h
                    split at h
                    · rename_i H3
                      simp only[Bool.and_eq_true] at H3
                      obtain⟨⟨pr,nv⟩,en⟩:=H3
                      cases h
                      have xC:=Ai hold
                      by_cases rF:len+n<=cap
                      ·
                       have aj:=xB (P:=P) (ty:=ty) h0 rfl hu eB af (base:=some ⟨eo.bl,eo.base+off,none⟩) (sLen:=len) (sCap:=cap) aw iU rF
                       simp only[add_plain] at aj
                       have hmul:(len+n)*i.size<=cap*i.size:=Nat.mul_le_mul_right _ rF
                       have HZ:(len+n)*i.size=len*i.size+n*i.size:=Nat.add_mul _ _ _
                       have HJ:us.length=n*i.size:=by rw[<-lq.length];exact hQ
                       obtain⟨w',c',aA,ay,bw,eh,fH,gI,gx,g4,gJ⟩:=HH P eo.bl (eo.base+(off+len*i.size)) us w 0 c el gr gu a8
                        (lq.xk λa aT=>P4 en a (List.mem_append_right _ aT)) (by omega) (λj s7 s8 ⟨f1,f2⟩=>by
                         have:=fI (j-eo.base) (by omega) (by omega) (by omega)
                         omega)
                       have Qh:eo.base+off+(eo.size-off)=c'.size:=by rw[g4,<-b4,<-bx];omega
                       obtain⟨r1,r2⟩:=ak.PZ (w':=w') (o':=.cells (o++cs) el .a1 0 (eQ-off)) ae rfl hR eh bw fH gI gx.1 (eo.base+off) (eo.size-off) (hdr:=Nat.le_of_eq gx.2.symm)
                        ⟨c',gr,gu,ay,λj a aJ=>by
                         show∃u,c'[eo.base+off+j]? =some u/\_
                         rw[gJ]
                         by_cases mE:j<o.length
                         · rw[List.getElem?_append_left mE] at aJ
                           rw[if_neg (by omega)]
                           unfold loadCells at hold
                           rw[ae] at hold
                           simp only at hold
                           rw[nr] at hold
                           obtain⟨t1,rfl⟩:=s4 _ _ _ hold
                           rw[List.getElem?_take] at aJ
                           split at aJ
                           · rw[List.getElem?_drop] at aJ
                             obtain⟨u,Da,pq⟩:=a6 (off+j) a aJ
                             exact⟨u,by rw[Nat.add_assoc];exact Da,pq.mono (ak.oc _)⟩
                           · cases aJ
                         · rw[List.getElem?_append_right (by omega)] at aJ
                           have H4:j-o.length<cs.length:=by
                            rcases Nat.lt_or_ge (j-o.length) cs.length with h|h
                            · exact h
                            · rw[List.getElem?_eq_none h] at aJ;cases aJ
                           have ac3:=lq.length
                           rw[if_pos (by omega)]
                           obtain⟨u,Da,pq⟩:=lq.get aJ
                           refine⟨u,?_,pq.mono (ak.oc _)⟩
                           rw[<-Da]
                           have Qi:eo.base+off+j-(eo.base+(off+len*i.size)+0)=j-o.length:=by rw[xC];omega
                           rw[Qi],Qh,by
                         refine⟨?_,λj s7 s8 H5=>?_⟩
                         · simp only[List.length_append];have:=hQ;omega
                         · have:=fI (off+j) (by simp only at s7;omega) (by simp only at s8;omega) (by simp only at H5;omega)
                           omega⟩
                       refine⟨_,w',.slice (some ⟨eo.bl,eo.base+off,none⟩) (len+n) cap,?_,⟨_,gw _ _ _,cap,by simp,rF,by simp only;omega⟩,r1,r2⟩
                       rw[aj,Nat.add_assoc,aA];rfl
                      ·
                       obtain⟨bH,bY⟩:=ak.kill ae rfl hR
                       obtain⟨os,dz,dG⟩:=rq (P:=P) ak.drew hR hold
                       exact C7 (ty:=ty) ak h0 rfl hu eB af a2 aa fD (old:=o) ⟨os,by simp only[Builtin.firstCells];exact dz,dG⟩ xC hQ (by omega) bH bY al
                    · cases h
                  · cases h
              · cases h
          · cases h
   · cases h
 · cases h
end
end aP
namespace aP
open Go
section
variable {P:Program} {μ:bq} {H:J} {w:World}
theorem cf.take{μ:bq}{as:List I}{vs:List Value}(h:cf μ as vs)(n:Nat):cf μ (as.take n) (vs.take n):=by
 refine cf.xj (by simp[h.length]) λj a aJ=>?_
 rw[List.getElem?_take] at aJ⊢
 split at aJ
 · rename_i aw;rw[if_pos aw];exact h.get aJ
 · cases aJ
theorem H6(ak:bt μ H w){size n m:Nat}{x:I}{bB:Value}(aa:bm μ x bB){cs r:List I}(h:fV H size x=some (n,cs))(hm:m<=n)(aj:takeN (m*size) cs=some r):
  ∃us:List Value,(Builtin.firstCells size m bB).run P w=.ok ⟨us⟩ w/\cf μ r us:=by
 obtain⟨ba,rfl⟩:=s4 _ _ _ aj
 have hQ:=H0 h
 cases x<;>simp only[fV] at h<;>try cases h
 · split at h<;>cases h
   obtain⟨bs,rfl,rfl⟩:=aa
   refine⟨_,?_,(Ad μ _).take _⟩
   simp only[Builtin.firstCells,Sem.run_pure]
   congr 1
   apply Array.ext'
   simp[ByteArray.data_extract,List.map_take]
 · cases aa
   exact⟨[],rfl,by simp;rfl⟩
 · rename_i b off len cap
   obtain⟨i,af,ag⟩:=aa
   have load:∀bO,loadCells H b off (len*size)=some bO->n=len->cs=bO->∀c,∃us:List Value,(Builtin.firstCells size m (.slice (some ⟨i.bl,i.base+off,none⟩) len c)).run P w=.ok ⟨us⟩ w/\cf μ (cs.take (m*size)) us:=by
    intro bO aw aN fC c
    subst fC;subst aN
    have s9:loadCells H b off (m*size)=some (cs.take (m*size)):=by
     unfold loadCells at aw⊢
     split at aw
     · rename_i a8 a6 b4 fX fI ae
       obtain⟨t1,t2⟩:=s4 _ _ _ aw
       have hmul:m*size<=n*size:=Nat.mul_le_mul_right _ hm
       have e:∀(k:Nat) (l:List I),k<=l.length->takeN k l=some (l.take k):=by
        intro k
        induction k with
        |zero=>intro l _;simp[takeN]
        |succ k a7=>
         intro l aw
         cases l with
         |nil=>simp at aw
         |cons a l=>simp[takeN,a7 l (by simpa using aw)]
       rw[e _ _ (by omega),t2,List.take_take,Nat.min_eq_left hmul]
     · cases aw
    obtain⟨us,ab,ad⟩:=rq (P:=P) ak af s9
    exact⟨us,by simp only[Builtin.firstCells];exact ab,ad⟩
   cases cap with
   |dead=>
    simp only at h
    split at h
    · cases h
      obtain⟨_,a,c,rfl⟩:=ag
      have:m=0:=by omega
      subst this
      exact⟨[],by simp[Builtin.firstCells,_root_.Go.loadCells,loadCellsFrom],by simp;rfl⟩
    · cases h
   |exact c=>
    cases ag
    simp only at h
    split at h
    · rename_i bO aw;cases h;exact load _ aw rfl rfl c
    · cases h
   |a1 gF=>
    obtain⟨c,rfl,_⟩:=ag
    simp only at h
    split at h
    · rename_i bO aw;cases h;exact load _ aw rfl rfl c
    · cases h
theorem Qj(ak:bt μ H w){argTypes:Array TypeId}{ty zY:TypeId}(h0:argTypes[0]? =some zY){d s:I}{Db ny:Value}(ao:bm μ d Db)(hs:bm μ s ny){v:I}{aW:J}
  (h:uS P H zY d s=some (v,aW)):eW P μ H w (Builtin.copy_ argTypes ty #[Db,ny]) v aW:=by
 unfold uS at h
 split at h
 · rename_i e hu
   split at h
   · rename_i sz bx
     split at h
     · rename_i n cs fD
       obtain⟨aw,_⟩:=Ae (P:=P) ak hs fD
       have nz:∀w:World,(_root_.Go.sizeOf e).run P w=.ok sz w:=λw=>run_sizeOf bx
       have H7:∀bB:Value,bB=ny->(Builtin.firstCells sz 0 ny).run P w=.ok #[] w:=λbB _=>by
        obtain⟨us,ab,ad⟩:=H6 (P:=P) (m:=0) (r:=[]) ak hs fD (Nat.zero_le _) (by simp[takeN])
        cases us with
        |nil=>exact ab
        |cons a l=>cases ad
       split at h
       · cases h;cases ao
         refine .same ak (v':=.int .i64 0) ?_ rfl
         simp[Builtin.copy_,h0,bX hu,aw,nz,H7 ny rfl,goInt]
       · rename_i b off len cap
         simp only at h
         obtain⟨i,af,ag⟩:=ao
         have jm:∃(a:Addr) (c:Nat),Db=.slice (some a) len c/\(cap≠ .dead->a=⟨i.bl,i.base+off,none⟩):=by
          cases cap with
          |exact c=>cases ag;exact⟨_,c,rfl,λ_=>rfl⟩
          |a1 gF=>obtain⟨c,rfl,_⟩:=ag;exact⟨_,c,rfl,λ_=>rfl⟩
          |dead=>obtain⟨rfl,a,c,rfl⟩:=ag;exact⟨a,c,rfl,λh=>absurd rfl h⟩
         obtain⟨a,c,rfl,aT⟩:=jm
         split at h
         · rename_i qt
           cases h
           refine .same ak (v':=.int .i64 0) ?_ rfl
           simp[Builtin.copy_,h0,bX hu,aw,nz,qt,H7 ny rfl,goInt,_root_.Go.storeCells]
         · rename_i qt
           split at h
           · rename_i bO ba
             split at h
             · rename_i ab ct
               cases h
               have Ak:cap≠ .dead:=by
                intro e;subst e
                obtain⟨aA,_⟩:=ag
                subst aA;simp[Nat.min_def] at qt
               have:=aT Ak
               subst this
               obtain⟨us,a8,a6⟩:=H6 (P:=P) ak hs fD (Nat.min_le_left _ _) ba
               obtain⟨w',aA,ay,bw⟩:=xm (P:=P) ak af a6 ct
               refine⟨μ,w',.int .i64 (Nat.min n len:Nat),?_,rfl,ay,bw⟩
               simp[Builtin.copy_,h0,bX hu,aw,nz,a8,aA,goInt]
             · cases h
           · cases h
       · cases h
     · cases h
   · cases h
 · cases h
theorem Qk(ak:bt μ H w){argTypes:Array TypeId}{ty t:TypeId}(h0:argTypes[0]? =some t){x:I}{bB:Value}(aa:bm μ x bB){v:I}{aW:J}
  (h:o5 P H t x=some (v,aW)):eW P μ H w (Builtin.clear_ argTypes ty #[bB]) v aW:=by
 unfold o5 at h
 split at h
 · rename_i hu;cases h;cases aa
   exact .same ak (v':=.tuple #[]) (by simp[Builtin.clear_,h0,bX hu]) ⟨[],rfl,rfl⟩
 · rename_i hu;cases h;cases aa
   exact .same ak (v':=.tuple #[]) (by simp[Builtin.clear_,h0,bX hu]) ⟨[],rfl,rfl⟩
 · rename_i hu
   split at h
   · rename_i es c al
     cases h
     obtain⟨i,af,rfl⟩:=aa
     obtain⟨ents,aA,ay⟩:=ak.rel _ _ i al af
     have cd:i.bl<w.heap.size:=(ak.lt _ _ af).2
     obtain⟨r1,r2⟩:=ak.update (w':={w with heap:=w.heap.setIfInBounds i.bl (.map #[] c)}) (o':=.map [] c) al rfl af (by simp) (λr aj=>by simp[Array.getElem?_setIfInBounds];intro e;exact absurd e.symm aj) rfl rfl rfl
      ⟨[],by simp[cd],rfl⟩
     refine⟨μ,_,.tuple #[],?_,⟨[],rfl,rfl⟩,r1,r2⟩
     simp[Builtin.clear_,h0,bX hu,getObj,setObj,Sem.run,aA]
   · cases h
 · rename_i e b off n cap hu
   split at h
   · rename_i aN
     cases h
     subst aN
     obtain⟨i,af,ag⟩:=aa
     have:∃a c,bB=.slice (some a) 0 c:=by
      cases cap with
      |exact c=>cases ag;exact⟨_,c,rfl⟩
      |a1 gF=>obtain⟨c,rfl,_⟩:=ag;exact⟨_,c,rfl⟩
      |dead=>obtain⟨_,a,c,rfl⟩:=ag;exact⟨a,c,rfl⟩
     obtain⟨a,c,rfl⟩:=this
     exact .same ak (v':=.tuple #[]) (by simp[Builtin.clear_,h0,bX hu]) ⟨[],rfl,rfl⟩
   · rename_i aN
     split at h
     · rename_i z a2
       split at h
       · rename_i ab ct
         cases h
         obtain⟨fv,lV,rfl,ae⟩:=lS (P:=P) (w:=w) a2
         have ik:=PX n ((j9 μ fv).cells ae)
         obtain⟨i,af,ag⟩:=aa
         have:∃c,bB=.slice (some ⟨i.bl,i.base+off,none⟩) n c:=by
          cases cap with
          |exact c=>cases ag;exact⟨c,rfl⟩
          |a1 gF=>obtain⟨c,rfl,_⟩:=ag;exact⟨c,rfl⟩
          |dead=>obtain⟨h0,_⟩:=ag;exact absurd h0 aN
         obtain⟨c,rfl⟩:=this
         obtain⟨w',aA,ay,bw⟩:=xm (P:=P) ak af ik ct
         refine⟨μ,w',.tuple #[],?_,⟨[],rfl,rfl⟩,ay,bw⟩
         cases n with
         |zero=>exact absurd rfl aN
         |succ n=>simp[Builtin.clear_,h0,bX hu,lV,aA]
       · cases h
     · cases h
 · cases h
theorem Ql(ak:bt μ H w){argTypes:Array TypeId}{ty t:TypeId}(h0:argTypes[0]? =some t){x:I}{bB:Value}(aa:bm μ x bB){v:I}(h:cc P H t x=some v):
  eW P μ H w (Builtin.len_ argTypes ty #[bB]) v H:=by
 unfold cc at h
 split at h
 · rename_i s hu;cases h
   obtain⟨bs,rfl,rfl⟩:=aa
   refine .same ak (v':=.int .i64 (bs.size:Int)) (by simp[Builtin.len_,h0,bX hu,goInt]) ?_
   have:bs.data.toList.length=bs.size:=Array.length_toList
   rw[this];rfl
 · rename_i n e hu;cases h
   exact .same ak (v':=.int .i64 (n:Int)) (by simp[Builtin.len_,h0,bX hu,goInt]) rfl
 · rename_i e b off n cap hu;cases h
   obtain⟨i,af,ag⟩:=aa
   have:∃a c,bB=.slice a n c:=by
    cases cap with
    |exact c=>cases ag;exact⟨_,c,rfl⟩
    |a1 gF=>obtain⟨c,rfl,_⟩:=ag;exact⟨_,c,rfl⟩
    |dead=>obtain⟨rfl,a,c,rfl⟩:=ag;exact⟨_,c,rfl⟩
   obtain⟨a,c,rfl⟩:=this
   exact .same ak (v':=.int .i64 (n:Int)) (by simp[Builtin.len_,h0,bX hu,goInt]) rfl
 · rename_i hu;cases h;cases aa
   exact .same ak (v':=.int .i64 0) (by simp[Builtin.len_,h0,bX hu,goInt]) rfl
 · rename_i hu;cases h;cases aa
   exact .same ak (v':=.int .i64 0) (by simp[Builtin.len_,h0,bX hu,goInt]) rfl
 · rename_i r hu
   split at h
   · rename_i es c al
     cases h
     obtain⟨i,af,rfl⟩:=aa
     obtain⟨ents,aA,ay⟩:=ak.rel _ _ i al af
     have hlen:es.length=ents.length:=by
      clear aA al
      induction es generalizing ents with
      |nil=>cases ay;rfl
      |cons e es a7=>obtain⟨m,ms,rfl,_,ad⟩:=ay;simp[a7 ms ad]
     refine .same ak (v':=.int .i64 (ents.length:Int)) ?_ (by rw[hlen];rfl)
     simp[Builtin.len_,h0,bX hu,goInt,getObj,Sem.run,aA]
   · cases h
 · rename_i arr hu
   split at h
   · rename_i n e pq;cases h
     exact .same ak (v':=.int .i64 (n:Int)) (by simp[Builtin.len_,h0,bX hu,bX pq,goInt]) rfl
   · cases h
 · cases h
theorem Qm(ak:bt μ H w){argTypes:Array TypeId}{ty t:TypeId}(h0:argTypes[0]? =some t){x:I}{bB:Value}(aa:bm μ x bB){v:I}(h:uR P t x=some v):
  eW P μ H w (Builtin.cap_ argTypes ty #[bB]) v H:=by
 unfold uR at h
 split at h
 · rename_i n e hu;cases h
   exact .same ak (v':=.int .i64 (n:Int)) (by simp[Builtin.cap_,h0,bX hu,goInt]) rfl
 · rename_i e b off n c hu;cases h
   obtain⟨i,af,ag⟩:=aa
   cases ag
   exact .same ak (v':=.int .i64 (c:Int)) (by simp[Builtin.cap_,h0,bX hu,goInt]) rfl
 · rename_i hu;cases h;cases aa
   exact .same ak (v':=.int .i64 0) (by simp[Builtin.cap_,h0,bX hu,goInt]) rfl
 · cases h
theorem Dc(f:I->I->Option I)(F:Value->Value->Sem Value)(hf:∀x y z bB gy,f x y=some z->bm μ x bB->bm μ y gy->∃fv,(F bB gy).run P w=.ok fv w/\bm μ z fv):
  ∀(l:List I) (x:I) (bB:Value) (kY:List Value) (z:I),bm μ x bB->cf μ l kY->jE f x l=some z->∃fv,(kY.foldlM F bB).run P w=.ok fv w/\bm μ z fv
 |[],x,bB,kY,z,aa,aw,h=>by
  cases aw;simp[jE] at h;subst h
  exact⟨bB,rfl,aa⟩
 |y::l,x,bB,kY,z,aa,⟨gy,H8,e,aS,aw⟩,h=>by
  subst e
  simp only[jE] at h
  split at h
  · rename_i u hu
    obtain⟨Qn,r1,r2⟩:=hf x y u bB gy hu aa aS
    obtain⟨fv,s1,s2⟩:=Dc f F hf l u Qn H8 z r2 aw h
    exact⟨fv,by simp only[List.foldlM_cons,Sem.run_bind,r1,Result.andThen_ok,s1],s2⟩
  · cases h
theorem Qo{x y z:I}{bB gy:Value}(h:qd x y=some z)(aa:bm μ x bB)(aS:bm μ y gy):∃fv,(Builtin.min2 bB gy).run P w=.ok fv w/\bm μ z fv:=by
 unfold qd at h
 split at h
 · split at h
   · rename_i aq;cases h;subst aq
     cases aa;cases aS
     exact⟨_,rfl,by simp[bm,bM]⟩
   · cases h
 · cases h
theorem Qp{x y z:I}{bB gy:Value}(h:mz x y=some z)(aa:bm μ x bB)(aS:bm μ y gy):∃fv,(Builtin.max2 bB gy).run P w=.ok fv w/\bm μ z fv:=by
 unfold mz at h
 split at h
 · split at h
   · rename_i aq;cases h;subst aq
     cases aa;cases aS
     exact⟨_,rfl,by simp[bm,bM]⟩
   · cases h
 · cases h
end
end aP
namespace aP
open Go
section
variable {P:Program} {μ:bq} {H:J} {w:World}
theorem H9:∀(cs:List I) (bs:List UInt8) (us:List Value),nj cs=some bs->cf μ cs us->us=bs.map λb=>.int .u8 (b.toNat:Int)
 |[],bs,us,h,aj=>by cases aj;simp[nj] at h;subst h;rfl
 |c::cs,bs,us,h,⟨v,vs,e,ab,ad⟩=>by
  subst e
  unfold nj at h
  split at h
  · rename_i heq;cases heq
  · rename_i n l heq
    cases heq
    split at h
    · rename_i r aN aj
      cases h
      cases ab
      rw[H9 cs r vs aj ad]
      simp only[Nat.blt_eq] at aN
      have:n %256=n:=Nat.mod_eq_of_lt aN
      simp[UInt8.toNat_ofNat',this]
    · cases h
  · cases h
theorem H_(w:World):∀(bs:List UInt8) (acc:ByteArray),(forIn (bs.map λb=>Value.int .u8 (b.toNat:Int)) acc λc s=>
  (match c with
  |.int .u8 n=>pure (ForInStep.yield (s.push (UInt8.ofNat n.toNat)))
  |_=>do stuck "bytesToString: byte expected";pure (ForInStep.yield s):Sem (ForInStep ByteArray))).run P w=.ok ⟨acc.data++bs.toArray⟩ w
 |[],acc=>by simp
 |b::bs,acc=>by
  simp only[List.map_cons,List.forIn_cons,Sem.run_bind,Sem.run_pure,Result.andThen_ok,H_ w bs]
  congr 1
  simp[ByteArray.ext_iff,ByteArray.push]
theorem Qq(ak:bt μ H w){b off n:Nat}{cap:b3}(iG:cap≠ .dead){bB:Value}(aa:bm μ (.slice b off n cap) bB){cs:List I}(aw:loadCells H b off n=some cs){bs:List UInt8}(ae:nj cs=some bs):
  eW P μ H w (Conv.bytesToString bB) (.str bs) H:=by
 obtain⟨i,af,ag⟩:=aa
 have:∃c,bB=.slice (some ⟨i.bl,i.base+off,none⟩) n c:=by
  cases cap with
  |exact c=>cases ag;exact⟨c,rfl⟩
  |a1 gF=>obtain⟨c,rfl,_⟩:=ag;exact⟨c,rfl⟩
  |dead=>exact absurd rfl iG
 obtain⟨c,rfl⟩:=this
 obtain⟨us,ab,ad⟩:=rq (P:=P) ak af aw
 have iU:=H9 cs bs us ae ad
 subst iU
 refine .same ak (v':=.string ⟨bs.toArray⟩) ?_ ⟨_,rfl,by simp⟩
 simp only[Conv.bytesToString,Sem.run_bind,ab,Result.andThen_ok]
 have e:=H_ (P:=P) w bs ByteArray.empty
 rw[<-List.forIn_toArray] at e
 refine(congrArg (λr=>Result.andThen r _) e).trans ?_
 simp
theorem Qr(ak:bt μ H w){e:TypeId}{bs:ByteArray}:
  eW P μ H w (Conv.stringToBytes e bs) (.slice H.n 0 bs.data.toList.length (.a1 1)) (H.push (.cells (dd bs.data.toList) e .a1 0 0)):=by
 have Af:(Question.appendCap bs.size 0 e).forced=false:=rfl
 have bx:bs.data.toList.length=bs.size:=Array.length_toList
 obtain⟨cap,iG,hle⟩:∃cap,(Question.appendCap bs.size 0 e).cut (w.tape w.drawn (Question.appendCap bs.size 0 e))=cap/\bs.size<=cap:=⟨_,rfl,by simp[Question.cut]⟩
 have Al:=ak.drew.oc ⟨w.heap.size,0,cap⟩
 let c:Array Value:=(bs.data.map λb=>.int .u8 b.toNat)++Array.replicate (cap-bs.size) (.int .u8 0)
 have fC:c.size=cap:=by
  have:bs.data.size=bs.size:=rfl
  simp only[c,Array.size_append,Array.size_map,Array.size_replicate,this];omega
 have lR:z8 (fr μ H.n ⟨w.heap.size,0,cap⟩) (dd bs.data.toList) c 0:=λj v aJ=>by
  obtain⟨u,hu,aj⟩:=(Ad μ bs.data.toList).get aJ
  refine⟨u,?_,aj.mono Al⟩
  have u4:j<bs.data.size:=by
   rcases Nat.lt_or_ge j bs.data.size with h|h
   · exact h
   · rw[List.getElem?_eq_none (by simpa using h)] at hu;cases hu
  simp only[c,Nat.zero_add]
  rw[Array.getElem?_append_left (by simpa using u4)]
  simpa using hu
 have Qs:bt (fr μ H.n ⟨w.heap.size,0,cap⟩) (H.push (.cells (dd bs.data.toList) e .a1 0 0)) (w.drew.alloc (.cells c e))/\cb μ H w.drew (fr μ H.n ⟨w.heap.size,0,cap⟩) (H.push (.cells (dd bs.data.toList) e .a1 0 0)) (w.drew.alloc (.cells c e)):=
  ak.drew.alloc (.cells (dd bs.data.toList) e .a1 0 0) (.cells c e) cap
  ⟨c,0,0,World.heap_alloc_new _ _,lR,by simp[fC],by
    refine⟨?_,λj _ _ h=>by omega⟩
    rw[Aj,bx];exact hle⟩
 obtain⟨r1,r2⟩:=Qs
 let cK:World:=(w.drew.alloc (.cells c e)).freeze ⟨w.heap.size,cap,none⟩ 1
 have qu:cK.heap[w.heap.size]? =some (.cells c e (cap,cap+1)):=by
  simp only[cK,World.freeze,if_neg (show¬(1=0) by omega),Array.getElem?_modify]
  have:(w.drew.alloc (.cells c e)).heap[w.heap.size]? =some (.cells c e (0,0)):=World.heap_alloc_new _ _
  rw[this];simp
 have rD:(H.push (.cells (dd bs.data.toList) e .a1 0 0)).get H.n=some (.cells (dd bs.data.toList) e .a1 0 0):=by rw[J.gp,if_pos rfl]
 have ct:bt (fr μ H.n ⟨w.heap.size,0,cap⟩) ((H.push (.cells (dd bs.data.toList) e .a1 0 0)).set H.n (some (.cells (dd bs.data.toList) e .a1 0 0))) cK/\
   cb (fr μ H.n ⟨w.heap.size,0,cap⟩) (H.push (.cells (dd bs.data.toList) e .a1 0 0)) (w.drew.alloc (.cells c e)) (fr μ H.n ⟨w.heap.size,0,cap⟩) ((H.push (.cells (dd bs.data.toList) e .a1 0 0)).set H.n (some (.cells (dd bs.data.toList) e .a1 0 0))) cK:=
  r1.update rD rfl (gw _ _ _) (by simp[cK,World.freeze]) (λr aj=>by
   simp only[cK,World.freeze,if_neg (show¬(1=0) by omega),Array.getElem?_modify]
   rw[if_neg (λe=>aj e.symm)]) (by simp[cK,World.freeze]) (by simp[cK,World.freeze]) (by simp[cK,World.freeze])
   ⟨c,cap,cap+1,qu,lR,by simp[fC],by
     refine⟨by rw[Aj,bx];exact hle,λj s7 s8 H5=>by simp only at s7 s8;omega⟩⟩
 refine⟨fr μ H.n ⟨w.heap.size,0,cap⟩,cK,.slice (some ⟨w.heap.size,0,none⟩) bs.size cap,?_,⟨⟨w.heap.size,0,cap⟩,gw _ _ _,cap,by simp[bx],by rw[bx];exact hle,by simp⟩,?_,?_⟩
 · simp only[Conv.stringToBytes,Sem.run_bind,run_choose,Af,Bool.false_eq_true,if_false,World.drew_eq,Result.andThen_ok,iG]
   have aA:(_root_.Go.newRow e c).run P w.drew=.ok ⟨w.heap.size,0,none⟩ (w.drew.alloc (.cells c e)):=rfl
   rw[show(_root_.Go.newRow e ((bs.data.map λb=>.int .u8 b.toNat)++Array.replicate (cap-bs.size) (.int .u8 0))).run P w.drew=_ from aA]
   have ay:(w.drew.alloc (.cells c e)).shape? w.heap.size=some (e,cap):=by
    have:(w.drew.alloc (.cells c e)).heap[w.heap.size]? =some (.cells c e (0,0)):=World.heap_alloc_new _ _
    simp only[World.shape?,this,fC]
   simp only[Result.andThen_ok,markStringish,Sem.run_bind,run_shape,ay,run_freeze,Sem.run_pure]
   rfl
 ·
  refine⟨λb o i ae af=>ct.1.rel b o i ?_ af,λb c' i j ae ag=>ct.1.inj b c' i j ?_ ?_,ct.1.lt,λb ae=>?_⟩
  · rw[J.cV];split
    · rename_i e;subst e;rw[rD] at ae;exact ae
    · exact ae
  · rw[J.cV];split
    · simp
    · exact ae
  · rw[J.cV];split
    · exact⟨_,rfl,rfl⟩
    · exact ag
  · exact r1.bound b ae
 · refine cb.trans ak ak.drew cb.drew (cb.trans ak.drew r1 r2 ⟨e8.refl _,ct.2.size,Nat.le_refl _,λ_ _ h=>h,λ_ _ _=>rfl,ct.2.old,λb i h an=>(by rw[h] at an;cases an),λb o i ae aj af=>⟨ae,(ct.2.ro b o i ae aj af).2⟩,ct.2.os,ct.2.out,ct.2.tape,ct.2.drawn⟩)
theorem Qt{i:eV}{o o':Nat}:(sameAddr ⟨i.bl,i.base+o,none⟩ ⟨i.bl,i.base+o',none⟩).run P w=.ok (Nat.beq o o') w:=by
 simp only[sameAddr,beq_self_eq_true,if_true,Sem.run_pure]
 congr 1
 rw[Bool.eq_iff_iff]
 simp
theorem Qu{r r' o o' el pt:Nat}{c c':Array Value}(h:w.heap[r]? =some (.cells c el (0,0)))(an:w.heap[r']? =some (.cells c' pt (0,0)))(cS:r≠r'):
  (sameAddr ⟨r,o,none⟩ ⟨r',o',none⟩).run P w=.ok false w:=by
 have ae:(r==r')=false:=beq_eq_false_iff_ne.2 cS
 have f1:∀k,w.frozen? ⟨r,k,none⟩=false:=λk=>by simp[World.frozen?,h]
 have f2:∀k,w.frozen? ⟨r',k,none⟩=false:=λk=>by simp[World.frozen?,an]
 have s1:w.shape? r=some (el,c.size):=by simp[World.shape?,h]
 have s2:w.shape? r'=some (pt,c'.size):=by simp[World.shape?,an]
 simp[sameAddr,ae,f1,f2,noView,viewAt,s1,s2,mayBeOne,stringish]
theorem Dd(w:World)(D:Nat)(E:TypeId->I->I->Option Bool)(fu:∀t x y b bB gy,E t x y=some b->bm μ x bB->bm μ y gy->(Op.equalIn D t bB gy).run P w=.ok b w)
  {xs ys:List I}{qv s_:List Value}(aa:cf μ xs qv)(aS:cf μ ys s_):∀(bV:List Field) (b:Bool),eqFields P E xs ys bV=some b->(Op.eqFields D ⟨qv⟩ ⟨s_⟩ bV).run P w=.ok b w
 |[],b,h=>by cases h;rfl
 |f::bV,b,h=>by
  simp only[eqFields] at h
  split at h
  · rename_i aN
    have aN:f.name= "_" :=of_decide_eq_true aN
    have a7:=Dd w D E fu aa aS bV b h
    simp only[Op.eqFields,aN,ne_eq,not_true_eq_false,if_false]
    exact a7
  · rename_i aN
    have aN:¬(f.name= "_"):=of_decide_eq_false aN
    split at h
    · rename_i a c aT ag
      obtain⟨xD,eF,fs⟩:=rC (P:=P) (w:=w) aa aT
      obtain⟨qw,a8,a6⟩:=rC (P:=P) (w:=w) aS ag
      split at h
      · rename_i he
        have aj:=fu _ _ _ _ xD qw he fs a6
        have a7:=Dd w D E fu aa aS bV b h
        simp only[Op.eqFields,ne_eq,aN,not_false_eq_true,if_true,Sem.run_bind,eF,a8,Result.andThen_ok,aj,Bool.not_true,Bool.false_eq_true,if_false]
        exact a7
      · rename_i r aj
        cases b with
        |true=>exact absurd h aj
        |false=>
         have xE:=fu _ _ _ _ xD qw h fs a6
         simp only[Op.eqFields,ne_eq,aN,not_false_eq_true,if_true,Sem.run_bind,eF,a8,Result.andThen_ok,xE,Bool.not_false,Sem.run_pure]
    · cases h
theorem Ia(w:World)(D:Nat){e:TypeId}{sz:Nat}(E:TypeId->I->I->Option Bool)(fu:∀t x y b bB gy,E t x y=some b->bm μ x bB->bm μ y gy->(Op.equalIn D t bB gy).run P w=.ok b w){xs ys:List I}{qv s_:List Value}(aa:cf μ xs qv)(aS:cf μ ys s_):
  ∀(n i:Nat) (b:Bool),w7 P E e sz xs ys n i=some b->(Op.eqItems D e sz ⟨qv⟩ ⟨s_⟩ (List.range' i n)).run P w=.ok b w
 |0,i,b,h=>by simp only[w7] at h;cases h;simp[Op.eqItems]
 |n+1,i,b,h=>by
  simp only[w7] at h
  rw[List.range'_succ]
  split at h
  · rename_i a c aT ag
    obtain⟨xD,eF,fs⟩:=rC (P:=P) (w:=w) aa aT
    obtain⟨qw,a8,a6⟩:=rC (P:=P) (w:=w) aS ag
    split at h
    · rename_i he
      have aj:=fu _ _ _ _ xD qw he fs a6
      have a7:=Ia w D E fu aa aS n (i+1) b h
      simp only[Op.eqItems,Sem.run_bind,eF,a8,Result.andThen_ok,aj,Bool.not_true,Bool.false_eq_true,if_false]
      exact a7
    · rename_i r aj
      cases b with
      |true=>exact absurd h aj
      |false=>
       have xE:=fu _ _ _ _ xD qw h fs a6
       simp only[Op.eqItems,Sem.run_bind,eF,a8,Result.andThen_ok,xE,Bool.not_false,if_true,Sem.run_pure]
  · cases h
set_option maxHeartbeats 4000000 in
theorem ta(ak:bt μ H w):∀(d:Nat) (t:TypeId) (x y:I) (b:Bool) (bB gy:Value) (D:Nat),d<=D->fU P H d t x y=some b->bm μ x bB->bm μ y gy->(Op.equalIn D t bB gy).run P w=.ok b w
 |0,t,x,y,b,bB,gy,D,_,h,_,_=>by simp[fU] at h
 |d+1,t,x,y,b,bB,gy,0,ao,_,_,_=>by omega
 |d+1,t,x,y,b,bB,gy,D+1,ao,h,aa,aS=>by
  unfold fU at h
  cases hu:P.underlying t with
  |none=>rw[hu] at h;cases h
  |some u=>
   rw[hu] at h
   cases u<;>simp only at h
   case bool=>
    split at h<;>cases h
    cases aa;cases aS
    simp[Op.equalIn,bX hu]
   case int kd=>
    split at h
    · split at h
      · rename_i aq;cases h;subst aq;cases aa;cases aS
        simp[Op.equalIn,bX hu,a_]
      · cases h
    · cases h
   case string=>
    split at h<;>cases h
    obtain⟨s1,rfl,rfl⟩:=aa
    obtain⟨s2,rfl,rfl⟩:=aS
    rw[oe,<-rz,<-rz,<-beq_toListBytes]
    simp[Op.equalIn,bX hu]
   case pointer e=>
    split at h
    · cases h;cases aa;cases aS;simp[Op.equalIn,bX hu]
    · cases h;cases aa;obtain⟨i,_,rfl⟩:=aS;simp[Op.equalIn,bX hu]
    · cases h;cases aS;obtain⟨i,_,rfl⟩:=aa;simp[Op.equalIn,bX hu]
    · rename_i a i hS j
      split at h
      · rename_i n hs
        obtain⟨u5,De,rfl⟩:=aa
        obtain⟨hl,Am,rfl⟩:=aS
        have bx:(_root_.Go.sizeOf e).run P w=.ok (n+1) w:=run_sizeOf hs
        have goal:∀r,(sameAddr ⟨u5.bl,u5.base+i,none⟩ ⟨hl.bl,hl.base+j,none⟩).run P w=r->(Op.equalIn (D+1) t (.pointer (some ⟨u5.bl,u5.base+i,none⟩)) (.pointer (some ⟨hl.bl,hl.base+j,none⟩))).run P w=r:=by
         intro r aj
         simp[Op.equalIn,bX hu,bx,aj]
        unfold CP at h
        split at h
        · rename_i fc
          cases h
          have:=Nat.eq_of_beq_eq_true fc
          subst this
          rw[De] at Am;cases Am
          exact goal _ Qt
        · rename_i fc
          split at h
          · rename_i qx An
            cases h
            obtain⟨aH,_,_,bH,_,_,bY⟩:=ak.rel _ _ u5 qx De
            obtain⟨a9,_,_,bz,_,_,bR⟩:=ak.rel _ _ hl An Am
            obtain⟨_,_,rfl,rfl⟩:=bY
            obtain⟨_,_,rfl,rfl⟩:=bR
            refine goal _ (Qu bH bz λe=>?_)
            have:=ak.inj _ _ u5 hl (by rw[qx];simp) ⟨_,An,rfl⟩ De Am e
            subst this
            simp at fc
          · cases h
      · cases h
    · cases h
   case slice e=>
    have fY:∀(b off n:Nat) (c:b3) (v:Value),bm μ (.slice b off n c) v->∃a m k,v=.slice (some a) m k:=by
     rintro b off n c v ⟨i,_,ag⟩
     cases c with
     |exact c=>cases ag;exact⟨_,_,_,rfl⟩
     |a1 gF=>obtain⟨c,rfl,_⟩:=ag;exact⟨_,_,_,rfl⟩
     |dead=>obtain⟨_,a,c,rfl⟩:=ag;exact⟨_,_,_,rfl⟩
    split at h
    · cases h;cases aa;cases aS;simp[Op.equalIn,bX hu]
    · cases h;cases aa;obtain⟨a,m,k,rfl⟩:=fY _ _ _ _ _ aS;simp[Op.equalIn,bX hu]
    · cases h;cases aS;obtain⟨a,m,k,rfl⟩:=fY _ _ _ _ _ aa;simp[Op.equalIn,bX hu]
    · cases h
   case map k e=>
    split at h
    · cases h;cases aa;cases aS;simp[Op.equalIn,bX hu]
    · cases h;cases aa;obtain⟨i,_,rfl⟩:=aS;simp[Op.equalIn,bX hu]
    · cases h;cases aS;obtain⟨i,_,rfl⟩:=aa;simp[Op.equalIn,bX hu]
    · cases h
   case func ps rs v=>
    split at h
    · cases h;cases aa;cases aS;simp[Op.equalIn,bX hu]
    · cases h;cases aa;obtain⟨_,_,rfl,_⟩:=aS;simp[Op.equalIn,bX hu]
    · cases h;cases aS;obtain⟨_,_,rfl,_⟩:=aa;simp[Op.equalIn,bX hu]
    · cases h
   case interface ms=>
    split at h
    · cases h;cases aa;cases aS;simp[Op.equalIn,bX hu]
    · cases h;cases aa;obtain⟨_,rfl,_⟩:=aS;simp[Op.equalIn,bX hu]
    · cases h;cases aS;obtain⟨_,rfl,_⟩:=aa;simp[Op.equalIn,bX hu]
    · rename_i a v hS u
      obtain⟨v1,rfl,r1⟩:=aa
      obtain⟨jn,rfl,r2⟩:=aS
      split at h
      · rename_i fc
        cases h
        have:a≠hS:=by intro e;subst e;simp at fc
        simp[Op.equalIn,bX hu,this]
      · rename_i fc
        have:=Nat.eq_of_beq_eq_true fc
        subst this
        split at h
        · rename_i xF xA
          split at h
          · rename_i Qv
            have a7:=ta ak d a v u b v1 jn D (by omega) h r1 r2
            simp[Op.equalIn,bX hu,run_typeInfo xA,Qv,a7]
          · cases h
        · cases h
    · cases h
   case struct bV=>
    split at h
    · rename_i xs ys
      split at h
      · cases h
      · rename_i ct
        obtain⟨qv,rfl,fw⟩:=aa
        obtain⟨s_,rfl,Df⟩:=aS
        have key:=Dd (P:=P) w D (fU P H d) (λt x y b bB gy he ab ad=>ta ak d t x y b bB gy D (by omega) he ab ad) fw Df bV.toList b h
        have oh:P.fieldsOf t=bV:=by simp[Program.fieldsOf,hu]
        rw[run_equalIn_struct w D t _ _ (by rw[oh];exact hu) ct,oh]
        exact key
    · cases h
   case array n e=>
    split at h
    · rename_i xs ys
      split at h
      · rename_i sz bx
        obtain⟨qv,rfl,fw⟩:=aa
        obtain⟨s_,rfl,Df⟩:=aS
        have af:∃i,P.info? e=some i/\i.size=sz:=by
         unfold dn at bx
         split at bx
         · rename_i i af;cases bx;exact⟨i,af,rfl⟩
         · cases bx
        obtain⟨i,af,Qw⟩:=af
        have Qx:P.cellsOf e=sz:=by unfold Program.cellsOf;rw[af];exact Qw
        rw[run_equalIn_array w D _ _ hu af,Qx,List.range_eq_range']
        exact Ia w D (fU P H d) (λt x y b bB gy he ab ad=>ta ak d t x y b bB gy D (by omega) he ab ad) fw Df n 0 b h
      · cases h
    · cases h
   all_goals cases h
theorem Ib{u:TypeDesc}{kt:TypeId}(hu:P.underlying kt=some u){k x:I}{kv bB:Value}{b:Bool}(aq:n8 P kt k=true)(h:o7 k x=some b)(ab:bm μ k kv)(ad:bm μ x bB):Instr.sameNow u kv bB=some b:=by
 unfold n8 at aq
 rw[hu] at aq
 cases u<;>simp only at aq<;>try cases aq
 ·
  split at aq<;>try cases aq
  cases x<;>simp only[o7] at h<;>cases h
  cases ab;cases ad;rfl
 ·
  split at aq<;>try cases aq
  cases x<;>simp only[o7] at h<;>try cases h
  split at h
  · rename_i e;cases h;subst e;cases ab;cases ad;simp[Instr.sameNow,a_]
  · cases h
 · split at aq<;>try cases aq
   cases x<;>simp only[o7] at h<;>cases h
   obtain⟨s1,rfl,rfl⟩:=ab
   obtain⟨s2,rfl,rfl⟩:=ad
   simp only[Instr.sameNow]
   rw[oe,<-rz,<-rz,<-beq_toListBytes]
def Ao(μ:bq):Option (Nat×I)->Option (Nat×Value)->Prop
 |none,none=>True
 |some (i,a),some (j,v)=>i=j/\bm μ a v
 |_,_=>False
theorem Ic{H:J}{kt:TypeId}{k x:I}(aq:∀cs,k≠ .agg cs):o8 P H kt k x=o7 k x:=by
 cases k<;>first|rfl|exact absurd rfl (aq _)
theorem Ie{kt:TypeId}{k:I}(aq:∀cs,k≠ .agg cs)(h:lO P kt k=true):n8 P kt k=true:=by
 cases k<;>first|exact h|exact absurd rfl (aq _)
theorem Ig{H:J}{u:TypeDesc}{kt:TypeId}(hu:P.underlying kt=some u){k:I}{kv:Value}(hs:∀cs,k≠ .agg cs)(aq:n8 P kt k=true)(ab:bm μ k kv):∀(es:List dN) (ents:List MapEntry) (i:Nat) (r:Option (Nat×I)),fW μ es ents->jF P H kt k es i=some r->
  ∃r',Instr.findNow u kv ents i=some r'/\Ao μ r r'
 |[],_,i,r,he,h=>by
  cases he;simp[jF] at h;subst h
  exact⟨none,rfl,trivial⟩
 |e::es,_,i,r,⟨m,ms,aA,ay,bw⟩,h=>by
  subst aA
  simp only[jF,Ic hs] at h
  split at h
  · rename_i hs
    cases h
    exact⟨some (i,m.val),by simp[Instr.findNow,Ib hu aq hs ab ay.1],rfl,ay.2.1⟩
  · rename_i aM
    obtain⟨r',a8,a6⟩:=Ig hu hs aq ab es ms (i+1) r bw h
    exact⟨r',by simp[Instr.findNow,Ib hu aq aM ab ay.1,a8],a6⟩
  · cases h
theorem Ih(ak:bt μ H w){kt:TypeId}{cs:List I}{kv:Value}(ab:bm μ (.agg cs) kv):∀(es:List dN) (ents:List MapEntry) (i:Nat) (r:Option (Nat×I)),fW μ es ents->jF P H kt (.agg cs) es i=some r->
  ∃r',(Instr.findAsking kt kv ents i).run P w=.ok r' w/\Ao μ r r'
 |[],_,i,r,he,h=>by
  cases he;simp[jF] at h;subst h
  exact⟨none,rfl,trivial⟩
 |e::es,_,i,r,⟨m,ms,aA,ay,bw⟩,h=>by
  subst aA
  simp only[jF,o8] at h
  split at h
  · rename_i hs
    cases h
    have:=ta (P:=P) ak 8 kt _ _ true kv m.key Op.maxDepth (by decide) hs ab ay.1
    exact⟨some (i,m.val),by simp[Instr.findAsking,Op.equal,this],rfl,ay.2.1⟩
  · rename_i hs
    have:=ta (P:=P) ak 8 kt _ _ false kv m.key Op.maxDepth (by decide) hs ab ay.1
    obtain⟨r',a8,a6⟩:=Ih ak ab es ms (i+1) r bw h
    exact⟨r',by simp[Instr.findAsking,Op.equal,this,a8],a6⟩
  · cases h
theorem Dg{H:J}{kt:TypeId}{k:I}:∀(es:List dN) (i:Nat) (j:Nat) (v:I),jF P H kt k es i=some (some (j,v))->i<=j/\∃e,es[j-i]? =some e/\e.val=v/\o8 P H kt k e.key=some true
 |[],i,j,v,h=>by simp[jF] at h
 |e::es,i,j,v,h=>by
  simp only[jF] at h
  split at h
  · rename_i hs
    cases h;exact⟨Nat.le_refl _,e,by simp,rfl,hs⟩
  · obtain⟨ab,cF,ad,ar⟩:=Dg es (i+1) j v h
    refine⟨by omega,cF,?_,ar⟩
    have:j-i=(j-(i+1))+1:=by omega
    rw[this];simpa using ad
  · cases h
theorem Dh{kt:TypeId}{k:I}{kv:Value}(aq:n8 P kt k=true)(b:Bool)(n:Nat):(Instr.checkKey b (n+1) kt kv).run P w=.ok () w:=by
 unfold n8 at aq
 cases hu:P.underlying kt with
 |none=>rw[hu] at aq;cases aq
 |some u=>
  rw[hu] at aq
  cases u<;>simp only at aq<;>try cases aq
  all_goals simp[Instr.checkKey,bX hu]
theorem Ii(b:Bool){m n:Nat}(hm:m=n+1){cs:List I}{l:List Value}(aw:cf μ cs l):∀(bV:List Field),zZ P cs bV=true->
  (forIn bV PUnit.unit (λf _=>if f.name≠ "_" then(do let x<-part f.type ⟨l⟩ f.offset;Instr.checkKey b m f.type x;pure (ForInStep.yield PUnit.unit)) else pure (ForInStep.yield PUnit.unit)):Sem PUnit).run P w=.ok PUnit.unit w
 |[],h=>by simp
 |f::bV,h=>by
  unfold zZ at h
  split at h
  · rename_i a aT
    split at h
    · rename_i aq
      have a7:=Ii b hm aw bV h
      obtain⟨u,eF,fs⟩:=rC (P:=P) (w:=w) aw aT
      have ag:=Dh (P:=P) (w:=w) (kv:=u) aq b n
      rw[<-hm] at ag
      rw[List.forIn_cons]
      by_cases aN:f.name= "_"
      · simp only[aN,ne_eq,not_true_eq_false,if_false,Sem.run_bind,Sem.run_pure,Result.andThen_ok]
        exact a7
      · simp only[ne_eq,aN,not_false_eq_true,if_true,Sem.run_bind,eF,Result.andThen_ok,ag,Sem.run_pure]
        exact a7
    · cases h
  · cases h
theorem Ij(b:Bool){m n:Nat}(hm:m=n+1){e:TypeId}{sz:Nat}(bx:dn P e=some sz){cs:List I}{l:List Value}(aw:cf μ cs l):∀(k i:Nat),z0 P e sz cs k i=true->
  (forIn (List.range' i k) PUnit.unit (λi _=>do (Instr.checkKey b m e (<-part e ⟨l⟩ (i*(<-_root_.Go.sizeOf e))));pure (ForInStep.yield PUnit.unit)):Sem PUnit).run P w=.ok PUnit.unit w
 |0,i,h=>by simp
 |k+1,i,h=>by
  unfold z0 at h
  split at h
  · rename_i a aT
    split at h
    · rename_i aq
      have a7:=Ij b hm bx aw k (i+1) h
      obtain⟨u,eF,fs⟩:=rC (P:=P) (w:=w) aw aT
      have ag:=Dh (P:=P) (w:=w) (kv:=u) aq b n
      rw[<-hm] at ag
      rw[List.range'_succ,List.forIn_cons]
      simp only[Sem.run_bind,run_sizeOf bx,eF,Result.andThen_ok,ag,Sem.run_pure]
      exact a7
    · cases h
  · cases h
theorem Qy{kt:TypeId}{cs:List I}{l:List Value}(aw:cf μ cs l)(aq:lO P kt (.agg cs)=true)(b:Bool){m n:Nat}(hm:m=n+1):(Instr.checkKey b (m+1) kt (.agg ⟨l⟩)).run P w=.ok () w:=by
 unfold lO at aq
 simp only at aq
 split at aq
 · rename_i bV hu
   have key:=Ii (P:=P) (w:=w) b hm aw bV.toList aq
   simp only[Instr.checkKey,Sem.run_bind,bX hu,Result.andThen_ok]
   rw[<-Array.forIn_toList]
   first|exact key|exact Eq.trans (congrArg (λq=>Result.andThen q _) key) rfl|simpa using key
 · rename_i Qz e hu
   split at aq
   · rename_i sz bx
     have key:=Ij (P:=P) (w:=w) b hm bx aw Qz 0 aq
     simp only[Instr.checkKey,Sem.run_bind,bX hu,Result.andThen_ok]
     simp only[Std.Legacy.Range.forIn_eq_forIn_range',Std.Legacy.Range.size,Nat.sub_zero,Nat.add_one_sub_one,Nat.div_one]
     first|exact key|exact Eq.trans (congrArg (λq=>Result.andThen q _) key) rfl|simpa using key
   · cases aq
 · cases aq
theorem pv{kt:TypeId}{k:I}{kv:Value}(aq:lO P kt k=true)(ab:bm μ k kv)(b:Bool):(Instr.checkKey b 10000 kt kv).run P w=.ok () w:=by
 by_cases hs:∀cs,k≠ .agg cs
 · exact Dh (Ie hs aq) b 9999
 · have:∃cs,k=.agg cs:=by
     cases k<;>first|exact⟨_,rfl⟩|exact absurd (λcs h=>by cases h) hs
   obtain⟨cs,rfl⟩:=this
   obtain⟨l,rfl,aw⟩:=ab
   exact Qy aw aq b (m:=9999) (n:=9998) rfl
theorem rG(ak:bt μ H w){kt:TypeId}{k:I}{kv:Value}(aq:lO P kt k=true)(ab:bm μ k kv){es:List dN}{ents:List MapEntry}{r:Option (Nat×I)}(he:fW μ es ents)(h:jF P H kt k es 0=some r):
  ∃r',(Instr.findKey kt kv ents).run P w=.ok r' w/\Ao μ r r':=by
 by_cases hs:∀cs,k≠ .agg cs
 · have e3:=Ie hs aq
   cases hu:P.underlying kt with
   |none=>unfold n8 at e3;rw[hu] at e3;cases e3
   |some u=>
    obtain⟨r',a8,a6⟩:=Ig hu hs e3 ab es ents 0 r he h
    exact⟨r',by simp[Instr.findKey,bX hu,a8],a6⟩
 · have:∃cs,k=.agg cs:=by
     cases k<;>first|exact⟨_,rfl⟩|exact absurd (λcs h=>by cases h) hs
   obtain⟨cs,rfl⟩:=this
   have hu:∃u,P.underlying kt=some u:=by
    unfold lO at aq
    simp only at aq
    split at aq
    · exact⟨_,by assumption⟩
    · exact⟨_,by assumption⟩
    · cases aq
   obtain⟨u,hu⟩:=hu
   obtain⟨r',a8,a6⟩:=Ih (P:=P) ak ab es ents 0 r he h
   obtain⟨l,rfl,aw⟩:=ab
   refine⟨r',?_,a6⟩
   have aN:∀(ms:List MapEntry),ms≠[]->Instr.findNow u (.agg ⟨l⟩) ms 0=none:=λms QA=>by
    cases ms with
    |nil=>exact absurd rfl QA
    |cons m ms=>cases u<;>rfl
   cases ents with
   |nil=>
    cases es with
    |nil=>simp only[jF] at h;cases h;cases r' with
     |none=>simp[Instr.findKey,bX hu,Instr.findNow]
     |some y=>exact a6.elim
    |cons e es=>obtain⟨_,_,ag,_⟩:=he;cases ag
   |cons m ms=>
    simp only[Instr.findKey,Sem.run_bind,bX hu,Result.andThen_ok,aN (m::ms) (by simp)]
    exact a8
theorem fW.append:∀{es bV:List dN} {ms ns:List MapEntry},fW μ es ms->fW μ bV ns->fW μ (es++bV) (ms++ns)
 |[],_,_,_,h,an=>by cases h;exact an
 |_::_,_,_,_,⟨m,ms,e,ab,ad⟩,an=>by subst e;exact⟨m,ms++_,rfl,ab,fW.append ad an⟩
theorem fW.get:∀{es:List dN} {ms:List MapEntry} (_:fW μ es ms) {j:Nat} {e:dN},es[j]? =some e->∃m,ms[j]? =some m/\rm μ e m
 |[],_,_,j,e,h=>by simp at h
 |x::es,_,⟨m,ms,e,ab,ad⟩,0,a,h=>by subst e;simp at h;subst h;exact⟨m,rfl,ab⟩
 |x::es,_,⟨m,ms,e,ab,ad⟩,j+1,a,h=>by subst e;simp at h;simpa using fW.get ad h
theorem fW.set{v key:I}{vv kv:Value}(aC:bm μ v vv)(aq:bm μ key kv):∀(i:Nat) {es:List dN} {ms:List MapEntry},fW μ es ms->fW μ (qe v key i es) (ms.modify i λe=>{e with key:=kv,val:=vv})
 |0,[],_,h=>by cases h;rfl
 |_+1,[],_,h=>by cases h;rfl
 |0,e::es,_,⟨m,ms,cF,ab,ad⟩=>by subst cF;exact⟨_,ms,rfl,⟨aq,aC,ab.2.2⟩,ad⟩
 |i+1,e::es,_,⟨m,ms,cF,ab,ad⟩=>by subst cF;exact⟨m,_,rfl,ab,fW.set aC aq i ad⟩
theorem fW.del:∀(i:Nat) {es:List dN} {ms:List MapEntry},fW μ es ms->fW μ (w_ i es) (ms.eraseIdx i)
 |0,[],_,h=>by cases h;rfl
 |_+1,[],_,h=>by cases h;rfl
 |0,e::es,_,⟨m,ms,cF,ab,ad⟩=>by subst cF;exact ad
 |i+1,e::es,_,⟨m,ms,cF,ab,ad⟩=>by subst cF;exact⟨m,_,rfl,ab,fW.del i ad⟩
theorem xG{r:Nat}{i:eV}{es:List dN}{clock:Nat}(ak:bt μ H w)(af:μ r=some i)(al:H.get r=some (.map es clock)):∃ents,w.heap[i.bl]? =some (.map ⟨ents⟩ clock)/\fW μ es ents/\(getObj i.bl).run P w=.ok (.map ⟨ents⟩ clock) w:=by
 obtain⟨ents,aA,ay⟩:=ak.rel _ _ i al af
 exact⟨ents,aA,ay,by simp[getObj,Sem.run,aA]⟩
theorem tb{r:Nat}{i:eV}{es rH:List dN}{clock c':Nat}{ents ents':List MapEntry}(ak:bt μ H w)(af:μ r=some i)(al:H.get r=some (.map es clock))(he:w.heap[i.bl]? =some (.map ⟨ents⟩ clock))(aj:fW μ rH ents'):
  ∃w',(setObj i.bl (.map ⟨ents'⟩ c')).run P w=.ok () w'/\bt μ (H.set r (some (.map rH c'))) w'/\cb μ H w μ (H.set r (some (.map rH c'))) w':=by
 have cd:i.bl<w.heap.size:=(ak.lt _ _ af).2
 obtain⟨r1,r2⟩:=ak.update (w':={w with heap:=w.heap.setIfInBounds i.bl (.map ⟨ents'⟩ c')}) (o':=.map rH c') al rfl af (by simp) (λr aj=>by simp[Array.getElem?_setIfInBounds];intro e;exact absurd e.symm aj) rfl rfl rfl
  ⟨ents',by simp[cd],aj⟩
 exact⟨_,by simp[setObj,Sem.run,he],r1,r2⟩
end
end aP
namespace aP
open Go
section
variable {P:Program} {μ:bq} {H:J} {w:World}
theorem Ik{ji:TypeId}{ok:Bool}{r:Option (Nat×I)}{r':Option (Nat×Value)}(aj:Ao μ r r'){v:I}(h:o9 P ji ok r=some v):
  ∃u b,bm μ v (if ok then .tuple #[u,.bool b] else u)/\((∃j,r'=some (j,u)/\b=true)\/(r'=none/\(zeroValue ji).run P w=.ok u w/\b=false)):=by
 cases r with
 |none=>
  cases r' with
  |some x=>exact aj.elim
  |none=>
   simp only[o9] at h
   split at h
   · rename_i z a2
     cases h
     obtain⟨fv,a8,rfl,_⟩:=lS (P:=P) (w:=w) a2
     have:=j9 μ fv
     refine⟨fv,false,?_,.inr ⟨rfl,a8,rfl⟩⟩
     cases ok
     · exact this
     · exact⟨_,rfl,_,_,rfl,this,_,_,rfl,rfl,rfl⟩
   · cases h
 |some x=>
  cases r' with
  |none=>exact aj.elim
  |some y=>
   obtain⟨i,a⟩:=x
   obtain⟨j,u⟩:=y
   obtain⟨rfl,u6⟩:=aj
   simp only[o9] at h
   cases h
   refine⟨u,true,?_,.inl ⟨_,rfl,rfl⟩⟩
   cases ok
   · exact u6
   · exact⟨_,rfl,_,_,rfl,u6,_,_,rfl,rfl,rfl⟩
theorem QB(ak:bt μ H w){t:TypeId}{m k:I}{g5 kv:Value}(hm:bm μ m g5)(aq:bm μ k kv){ok:Bool}{v:I}(h:hy P H t m k ok=some v):eW P μ H w (Instr.lookup t g5 kv ok) v H:=by
 unfold hy at h
 split at h
 · rename_i kt ji hu
   split at h
   · rename_i jo
     split at h
     · cases hm
       obtain⟨u,b,a8,a6⟩:=Ik (P:=P) (w:=w) (μ:=μ) (r:=none) (r':=none) trivial h
       refine .same ak (v':=if ok then .tuple #[u,.bool b] else u) ?_ a8
       have hf:(Instr.findKey kt kv []).run P w=.ok none w:=by
        obtain⟨r',cr,cZ⟩:=rG (P:=P) (w:=w) (μ:=μ) (es:=[]) (ents:=[]) (r:=none) ak jo aq rfl rfl
        cases r' with
        |none=>exact cr
        |some x=>exact cZ.elim
       rcases a6 with⟨j,e,_⟩|⟨_,a6,rfl⟩
       · cases e
       · simp[Instr.lookup,bX hu,pv jo aq,hf,a6]
     · rename_i r
       split at h
       · rename_i es clock al
         split at h
         · rename_i c7 hf
           obtain⟨i,af,rfl⟩:=hm
           obtain⟨ents,aA,ay,bw⟩:=xG (P:=P) ak af al
           obtain⟨r',cr,cZ⟩:=rG (P:=P) (w:=w) ak jo aq ay hf
           obtain⟨u,b,a8,a6⟩:=Ik (P:=P) (w:=w) (μ:=μ) cZ h
           refine .same ak (v':=if ok then .tuple #[u,.bool b] else u) ?_ a8
           rcases a6 with⟨j,rfl,rfl⟩|⟨rfl,a6,rfl⟩
           · simp[Instr.lookup,bX hu,pv jo aq,bw,cr]
           · simp[Instr.lookup,bX hu,pv jo aq,bw,cr,a6]
         · cases h
       · cases h
     · cases h
   · cases h
 · cases h
theorem Il{k x:I}{kv bB:Value}(n:Nat)(h:o7 k x=some true)(ab:bm μ k kv)(ad:bm μ x bB):Instr.sameBits n bB kv=true:=by
 cases k<;>cases x<;>simp only[o7] at h<;>try cases h
 · simp at h;subst h;cases ab;cases ad;simp[Instr.sameBits]
 · split at h
   · rename_i e;subst e
     simp[a_] at h;subst h;cases ab;cases ad;simp[Instr.sameBits]
   · cases h
 · simp only[Option.some.injEq] at h
   obtain⟨s1,rfl,rfl⟩:=ab
   obtain⟨s2,rfl,rfl⟩:=ad
   rw[oe,<-rz,<-rz,<-beq_toListBytes] at h
   have:(s2==s1)=true:=by rw[beq_toListBytes] at h⊢;rw[beq_iff_eq] at h⊢;exact h.symm
   simpa[Instr.sameBits] using this
theorem Im(n:Nat):∀(a b:List I) (td lW:List Value),w8 a b=true->cf μ a td->cf μ b lW->lW.length=td.length/\(lW.zip td).all (λ(x,y)=>Instr.sameBits n x y)=true
 |[],[],td,lW,_,ab,ad=>by cases ab;cases ad;exact⟨rfl,rfl⟩
 |[],_::_,_,_,h,_,_=>by cases h
 |_::_,[],_,_,h,_,_=>by cases h
 |x::a,y::b,_,_,h,⟨u,us,rfl,jn,oi⟩,⟨v,vs,rfl,v1,v2⟩=>by
  unfold w8 at h
  split at h
  · rename_i hs
    obtain⟨aA,ay⟩:=Im n a b us vs h oi v2
    refine⟨by simp[aA],?_⟩
    rw[List.zip_cons_cons,List.all_cons,ay,Bool.and_true]
    exact Il n hs jn v1
  · cases h
theorem Io{kt:TypeId}{k x:I}{kv bB:Value}(h:o8 P H kt k x=some true)(ct:rb k x=true)(ab:bm μ k kv)(ad:bm μ x bB):Instr.sameBits 10000 bB kv=true:=by
 by_cases hs:∀cs,k≠ .agg cs
 · rw[Ic hs] at h
   exact Il 10000 h ab ad
 · have:∃cs,k=.agg cs:=by
     cases k<;>first|exact⟨_,rfl⟩|exact absurd (λcs h=>by cases h) hs
   obtain⟨a,rfl⟩:=this
   have:∃b,x=.agg b:=by
    cases x<;>first|exact⟨_,rfl⟩|cases ct
   obtain⟨b,rfl⟩:=this
   obtain⟨td,rfl,oi⟩:=ab
   obtain⟨lW,rfl,v2⟩:=ad
   have QC:w8 a b=true:=ct
   obtain⟨aA,ay⟩:=Im (μ:=μ) 9999 a b td lW QC oi v2
   show Instr.sameBits (9999+1) (.agg ⟨lW⟩) (.agg ⟨td⟩)=true
   generalize 9999=n at ay⊢
   simp only[Instr.sameBits]
   rw[ay,Bool.and_true]
   simp[aA]
theorem Di(l:List MapEntry)(i:Nat)(f:MapEntry->MapEntry):(⟨l⟩:Array MapEntry).modify i f=⟨l.modify i f⟩:=by
 apply Array.ext'
 simp
theorem Ip(ak:bt μ H w){t:TypeId}{m k x:I}{g5 kv bB:Value}(hm:bm μ m g5)(aq:bm μ k kv)(aa:bm μ x bB){aW:J}(h:uT P H t m k x=some aW):
  ∃w',(Instr.mapUpdate t g5 kv bB).run P w=.ok () w'/\bt μ aW w'/\cb μ H w μ aW w':=by
 unfold uT at h
 split at h
 · rename_i kt ji hu
   split at h
   · rename_i jo
     split at h
     · rename_i r
       split at h
       · rename_i es clock al
         obtain⟨i,af,rfl⟩:=hm
         obtain⟨ents,aA,ay,bw⟩:=xG (P:=P) ak af al
         split at h
         · rename_i j a hf
           have te:rb k (w9 j es)=true:=by
            cases ag:rb k (w9 j es) with
            |true=>rfl
            |false=>rw[ag] at h;cases h
           rw[te] at h
           cases h
           obtain⟨r',cr,cZ⟩:=rG (P:=P) (w:=w) ak jo aq ay hf
           cases r' with
           |none=>exact cZ.elim
           |some y=>
            obtain⟨jU,u⟩:=y
            obtain⟨rfl,u6⟩:=cZ
            obtain⟨_,nA,a8,a6,b4⟩:=Dg es 0 j a hf
            obtain⟨lX,eF,fs⟩:=ay.get (by simpa using a8)
            have te:rb k nA.key=true:=by
             have:w9 j es=nA.key:=by unfold w9;rw[ql,show es[j]? =some nA by simpa using a8]
             rw[<-this];exact te
            have ct:(Instr.keyThatStays (((ents[j]?).map (·.key)).getD kv) kv).run P w=.ok kv w:=by
             simp only[Instr.keyThatStays,eF,Option.map_some,Option.getD_some,Io b4 te aq fs.1,if_true,Sem.run_pure]
            obtain⟨w',ep,gk,lY⟩:=tb (P:=P) (c':=clock) ak af al aA (ay.set aa aq j)
            refine⟨w',?_,gk,lY⟩
            simp only[Instr.mapUpdate,Sem.run_bind,bX hu,Result.andThen_ok,bw,pv jo aq,cr,List.getElem?_toArray,ct,Di,ep]
         · rename_i hf
           cases h
           obtain⟨r',cr,cZ⟩:=rG (P:=P) (w:=w) ak jo aq ay hf
           cases r' with
           |some y=>exact cZ.elim
           |none=>
            obtain⟨w',ep,gk,lY⟩:=tb (P:=P) (c':=clock+1) (ents':=ents++[⟨kv,bB,clock⟩]) ak af al aA (ay.append (show fW μ [⟨k,x,clock⟩] [⟨kv,bB,clock⟩] from⟨_,_,rfl,⟨aq,aa,rfl⟩,rfl⟩))
            refine⟨w',?_,gk,lY⟩
            simp only[Instr.mapUpdate,Sem.run_bind,bX hu,Result.andThen_ok,bw,pv jo aq,cr,List.push_toArray,ep]
         · cases h
       · cases h
     · cases h
   · cases h
 · cases h
theorem QD(ak:bt μ H w){t:TypeId}{m k:I}{g5 kv:Value}(hm:bm μ m g5)(aq:bm μ k kv){v:I}{aW:J}(h:o_ P H t m k=some (v,aW)):eW P μ H w (Instr.mapEntry t g5 kv) v aW:=by
 unfold o_ at h
 split at h
 · rename_i kt ji hu
   split at h
   · rename_i jo
     split at h
     · rename_i r
       split at h
       · rename_i es clock al
         obtain⟨i,af,rfl⟩:=hm
         obtain⟨ents,aA,ay,bw⟩:=xG (P:=P) ak af al
         split at h
         · rename_i j a hf
           split at h
           · rename_i nA pw
             have te:rb k nA.key=true:=by
              cases ag:rb k nA.key with
              |true=>rfl
              |false=>rw[ag] at h;cases h
             rw[te] at h
             cases h
             rw[ql] at pw
             obtain⟨r',cr,cZ⟩:=rG (P:=P) (w:=w) ak jo aq ay hf
             cases r' with
             |none=>exact cZ.elim
             |some y=>
              obtain⟨jU,u⟩:=y
              obtain⟨rfl,u6⟩:=cZ
              obtain⟨_,Iq,a8,a6,b4⟩:=Dg es 0 j a hf
              have:Iq=nA:=by
               have Ir:es[j]? =some Iq:=by simpa using a8
               rw[pw] at Ir;cases Ir;rfl
              subst this
              obtain⟨lX,eF,fs⟩:=ay.get pw
              have ct:(Instr.keyThatStays (((ents[j]?).map (·.key)).getD kv) kv).run P w=.ok kv w:=by
               simp only[Instr.keyThatStays,eF,Option.map_some,Option.getD_some,Io b4 te aq fs.1,if_true,Sem.run_pure]
              have tf:fW μ (qe a k j es) (ents.modify j λe=>{e with key:=kv}):=by
               have hs:=ay.set (v:=a) (vv:=lX.val) (key:=k) (kv:=kv) (by rw[<-a6];exact fs.2.1) aq j
               have:(ents.modify j λe=>{e with key:=kv,val:=lX.val})=(ents.modify j λe=>{e with key:=kv}):=by
                apply List.ext_getElem?
                intro q
                rw[List.getElem?_modify,List.getElem?_modify]
                by_cases aM:j=q
                · subst aM;rw[eF];simp
                · simp[aM]
               rw[<-this];exact hs
              obtain⟨w',ep,gk,lY⟩:=tb (P:=P) (c':=clock) ak af al aA tf
              refine⟨μ,w',.tuple #[u,.int .i64 (lX.born:Int)],?_,⟨_,rfl,_,_,rfl,u6,_,_,rfl,by rw[fs.2.2];rfl,rfl⟩,gk,lY⟩
              rw[eF,Option.map_some,Option.getD_some] at ct
              simp only[Instr.mapEntry,Sem.run_bind,bX hu,Result.andThen_ok,bw,pv jo aq,cr,List.getElem?_toArray,eF,Option.map_some,Option.getD_some,ct,Di,ep,goInt,Sem.run_pure]
           · cases h
         · rename_i hf
           split at h
           · rename_i z a2
             cases h
             obtain⟨fv,xH,rfl,_⟩:=lS (P:=P) (w:=w) a2
             obtain⟨r',cr,cZ⟩:=rG (P:=P) (w:=w) ak jo aq ay hf
             cases r' with
             |some y=>exact cZ.elim
             |none=>
              obtain⟨w',ep,gk,lY⟩:=tb (P:=P) (c':=clock+1) (ents':=ents++[⟨kv,fv,clock⟩]) ak af al aA (ay.append (show fW μ [⟨k,n7 fv,clock⟩] [⟨kv,fv,clock⟩] from⟨_,_,rfl,⟨aq,j9 μ fv,rfl⟩,rfl⟩))
              refine⟨μ,w',.tuple #[fv,.int .i64 (clock:Int)],?_,⟨_,rfl,_,_,rfl,j9 μ fv,_,_,rfl,rfl,rfl⟩,gk,lY⟩
              simp only[Instr.mapEntry,Sem.run_bind,bX hu,Result.andThen_ok,bw,pv jo aq,cr,xH,List.push_toArray,ep,goInt,Sem.run_pure]
           · cases h
         · cases h
       · cases h
     · cases h
   · cases h
 · cases h
theorem Is{born:Int}:∀(es:List dN) (ents:List MapEntry) (i j:Nat) (e:dN),fW μ es ents->sU born es i=some (j,e)->i<=j/\es[j-i]? =some e/\ents.findIdx? (λm=>(m.born:Int)==born)=some (j-i)
 |[],_,i,j,e,_,h=>by simp[sU] at h
 |x::es,_,i,j,e,⟨m,ms,aA,ay,bw⟩,h=>by
  subst aA
  simp only[sU] at h
  have ae:a_ (Int.ofNat x.born) born=((m.born:Int)==born):=by rw[ay.2.2];rfl
  split at h
  · rename_i hs
    cases h
    rw[ae] at hs
    exact⟨Nat.le_refl _,by simp,by simp[List.findIdx?_cons,hs]⟩
  · rename_i hs
    rw[ae] at hs
    obtain⟨a8,a6,b4⟩:=Is es ms (i+1) j e bw h
    have:j-i=(j-(i+1))+1:=by omega
    refine⟨by omega,by rw[this];simpa using a6,?_⟩
    rw[this]
    simp[List.findIdx?_cons,hs,b4]
theorem QE(ak:bt μ H w){t:TypeId}{m s x:I}{g5 ny bB:Value}(hm:bm μ m g5)(hs:bm μ s ny)(aa:bm μ x bB){aW:J}(h:pa H m s x=some aW):
  ∃w',(Instr.entryStore t g5 ny bB).run P w=.ok () w'/\bt μ aW w'/\cb μ H w μ aW w':=by
 unfold pa at h
 split at h
 · rename_i r bh born
   split at h
   · rename_i es clock al
     split at h
     · rename_i j nA ae
       cases h
       cases hs
       obtain⟨i,af,rfl⟩:=hm
       obtain⟨ents,aA,ay,bw⟩:=xG (P:=P) ak af al
       obtain⟨_,a8,a6⟩:=Is es ents 0 j nA ay ae
       obtain⟨lX,eF,fs⟩:=ay.get (by simpa using a8)
       have tf:fW μ (qe x nA.key j es) (ents.modify j λe=>{e with val:=bB}):=by
        have hs:=ay.set (v:=x) (vv:=bB) (key:=nA.key) (kv:=lX.key) aa fs.1 j
        have:(ents.modify j λe=>{e with key:=lX.key,val:=bB})=(ents.modify j λe=>{e with val:=bB}):=by
         apply List.ext_getElem?
         intro q
         rw[List.getElem?_modify,List.getElem?_modify]
         by_cases aM:j=q
         · subst aM;rw[eF];simp
         · simp[aM]
        rw[<-this];exact hs
       obtain⟨w',ep,gk,lY⟩:=tb (P:=P) (c':=clock) ak af al aA tf
       refine⟨w',?_,gk,lY⟩
       have QF:(⟨ents⟩:Array MapEntry).findIdx? (λe=>(e.born:Int)==born)=some j:=by
        have:=a6
        simp only[Nat.sub_zero] at this
        rw[<-this];simp
       simp only[Instr.entryStore,Sem.run_bind,Result.andThen_ok,bw,asInt,asIntOf,Sem.run_pure,QF,Di,ep]
     · cases h
   · cases h
 · cases h
theorem QG(ak:bt μ H w){argTypes:Array TypeId}{ty t:TypeId}(h0:argTypes[0]? =some t){m k:I}{g5 kv:Value}(hm:bm μ m g5)(aq:bm μ k kv){v:I}{aW:J}(h:pb P H t m k=some (v,aW)):
  eW P μ H w (Builtin.delete_ argTypes ty #[g5,kv]) v aW:=by
 unfold pb at h
 split at h
 · rename_i kt ji hu
   split at h
   · rename_i jo
     split at h
     · cases h;cases hm
       refine .same ak (v':=.tuple #[]) ?_ ⟨[],rfl,rfl⟩
       simp[Builtin.delete_,h0,bX hu,pv jo aq]
     · rename_i r
       split at h
       · rename_i es clock al
         obtain⟨i,af,rfl⟩:=hm
         obtain⟨ents,aA,ay,bw⟩:=xG (P:=P) ak af al
         split at h
         · rename_i j a hf
           cases h
           obtain⟨r',cr,cZ⟩:=rG (P:=P) (w:=w) ak jo aq ay hf
           cases r' with
           |none=>exact cZ.elim
           |some y=>
            obtain⟨jU,u⟩:=y
            obtain⟨rfl,u6⟩:=cZ
            obtain⟨w',ep,gk,lY⟩:=tb (P:=P) (c':=clock) ak af al aA (ay.del j)
            refine⟨μ,w',.tuple #[],?_,⟨[],rfl,rfl⟩,gk,lY⟩
            have he:(⟨ents⟩:Array MapEntry).eraseIdxIfInBounds j=⟨ents.eraseIdx j⟩:=by
             apply Array.ext'
             simp
            simp[Builtin.delete_,h0,bX hu,pv jo aq,bw,cr,he,ep]
         · rename_i hf
           cases h
           obtain⟨r',cr,cZ⟩:=rG (P:=P) (w:=w) ak jo aq ay hf
           cases r' with
           |some y=>exact cZ.elim
           |none=>
            obtain⟨w',ep,gk,lY⟩:=tb (P:=P) (c':=clock) ak af al aA ay
            refine⟨μ,w',.tuple #[],?_,⟨[],rfl,rfl⟩,gk,lY⟩
            simp[Builtin.delete_,h0,bX hu,pv jo aq,bw,cr,ep]
         · cases h
       · cases h
     · cases h
   · cases h
 · cases h
theorem QH(ak:bt μ H w){t:TypeId}:eW P μ H w (Instr.makeMap t none) (.map H.n) (H.push (.map [] 0)):=by
 obtain⟨r1,r2⟩:=ak.alloc (.map [] 0) (.map #[] 0) 0 ⟨[],World.heap_alloc_new _ _,rfl⟩
 exact⟨_,_,.map (some w.heap.size),rfl,⟨_,gw _ _ _,rfl⟩,r1,r2⟩
theorem QI(ak:bt μ H w){t kt ji:TypeId}{k:IntKind}{n:Int}(hu:P.underlying t=some (.map kt ji)):eW P μ H w (Instr.makeMap t (some (.int k n))) (.map H.n) (H.push (.map [] 0)):=by
 obtain⟨r1,r2⟩:=ak.alloc (.map [] 0) (.map #[] 0) 0 ⟨[],World.heap_alloc_new _ _,rfl⟩
 refine⟨_,_,.map (some w.heap.size),?_,⟨_,gw _ _ _,rfl⟩,r1,r2⟩
 simp only[Instr.makeMap,Sem.run_bind,bX hu,Result.andThen_ok,asInt,asIntOf,Sem.run_pure,run_newObj]
 rfl
theorem QJ(ak:bt μ H w){t:TypeId}(hu:P.underlying t=some .string){s:List UInt8}{bB:Value}(aa:bm μ (.str s) bB):eW P μ H w (Instr.range t bB) (.ptr H.n 0) (H.push (.q9 s 0)):=by
 obtain⟨bs,rfl,rfl⟩:=aa
 obtain⟨r1,r2⟩:=ak.alloc (.q9 bs.data.toList 0) (.stringIter bs 0) 0 ⟨rfl,bs,World.heap_alloc_new _ _,rfl⟩
 refine⟨_,_,.pointer (some ⟨w.heap.size,0,none⟩),?_,⟨_,gw _ _ _,rfl⟩,r1,r2⟩
 simp only[Instr.range,Sem.run_bind,bX hu,Result.andThen_ok,Sem.run_pure,run_newObj]
 rfl
theorem QK(ak:bt μ H w){t kt ji:TypeId}(hu:P.underlying t=some (.map kt ji)){bB:Value}(aa:bm μ .h4 bB):eW P μ H w (Instr.range t bB) (.ptr H.n 0) (H.push (.mapIter none 0 [] 0)):=by
 cases aa
 obtain⟨r1,r2⟩:=ak.alloc (.mapIter none 0 [] 0) (.mapIter none 0 #[] 0) 0 ⟨rfl,World.heap_alloc_new _ _⟩
 refine⟨_,_,.pointer (some ⟨w.heap.size,0,none⟩),?_,⟨_,gw _ _ _,rfl⟩,r1,r2⟩
 simp only[Instr.range,Sem.run_bind,bX hu,Result.andThen_ok,Sem.run_pure,run_newObj]
 rfl
def QL(at':Nat->Nat)(lt:Nat->Bool):Nat×Nat:=
 let cont (k:Nat):Bool:=lt k&&at' k/64==2
 let cE:=at' 0
 if cE<0x80 then(cE,1)
 else if cE/32==6&&cont 1 then
  let c:=(cE %32)*64+at' 1 %64
  if c>=0x80 then(c,2) else(Utf8.runeError,1)
 else if cE/16==14&&cont 1&&cont 2 then
  let c:=(cE %16)*4096+(at' 1 %64)*64+at' 2 %64
  if c>=0x800&&Utf8.valid c then(c,3) else(Utf8.runeError,1)
 else if cE/8==30&&cont 1&&cont 2&&cont 3 then
  let c:=(cE %8)*262144+(at' 1 %64)*4096+(at' 2 %64)*64+at' 3 %64
  if c>=0x10000&&Utf8.valid c then(c,4) else(Utf8.runeError,1)
 else(Utf8.runeError,1)
theorem It(s:ByteArray)(i:Nat):Utf8.decode s i=QL (λk=>(s.get! (i+k)).toNat) (λk=>decide (i+k<s.size)):=rfl
theorem QM(full:ByteArray)(pos:Nat)(aK:pos<=full.size):Utf8.decode full pos=Utf8.decode ⟨(full.data.toList.drop pos).toArray⟩ 0:=by
 have oh:full.data.toList.length=full.size:=Array.length_toList
 have bx:(⟨(full.data.toList.drop pos).toArray⟩:ByteArray).size=full.size-pos:=by
  show((full.data.toList.drop pos).toArray).size=_
  rw[List.size_toArray,List.length_drop,oh]
 have hP:∀k,full.get! (pos+k)=(⟨(full.data.toList.drop pos).toArray⟩:ByteArray).get! (0+k):=λk=>by
  show full.data[pos+k]! =((full.data.toList.drop pos).toArray)[0+k]!
  rw[Nat.zero_add]
  rw[getElem!_def,getElem!_def]
  have:((full.data.toList.drop pos).toArray)[k]? =full.data[pos+k]? :=by
   rw[List.getElem?_toArray,List.getElem?_drop,Array.getElem?_toList]
  rw[this]
 rw[It,It]
 have aT:(λk=>(full.get! (pos+k)).toNat)=(λk=>((⟨(full.data.toList.drop pos).toArray⟩:ByteArray).get! (0+k)).toNat):=by
  funext k;rw[hP k]
 have ae:(λk=>decide (pos+k<full.size))=(λk=>decide (0+k<(⟨(full.data.toList.drop pos).toArray⟩:ByteArray).size)):=by
  funext k
  exact decide_eq_decide.2 (by rw[bx];omega)
 rw[aT,ae]
theorem QN(ak:bt μ H w){t:TypeId}{it:I}{qy:Value}(af:bm μ it qy){b:Bool}{v:I}{aW:J}(h:z1 H it b=some (v,aW)):eW P μ H w (Instr.next qy b t) v aW:=by
 unfold z1 at h
 split at h
 · rename_i r
   obtain⟨i,hR,rfl⟩:=af
   split at h
   · rename_i s pos al
     obtain⟨c9,full,aA,ay⟩:=ak.rel _ _ i al hR
     obtain⟨hl,i0,xI⟩:=i
     simp only at c9;subst c9
     have hP:(getObj hl).run P w=.ok (.stringIter full pos) w:=by simp[getObj,Sem.run,aA]
     have oh:full.data.toList.length=full.size:=Array.length_toList
     have ky:=congrArg List.length ay
     rw[List.length_drop,oh] at ky
     split at h
     · cases h
       have aN:¬pos<full.size:=by simp at ky;omega
       exact .same ak (v':=.tuple #[.bool false]) (by simp[Instr.next,hP,aN]) ⟨_,rfl,_,_,rfl,rfl,rfl⟩
     · rename_i cS
       have cd:pos<full.size:=by
        rcases Nat.lt_or_ge pos full.size with h|h
        · exact h
        · exfalso;apply cS
          exact List.length_eq_zero_iff.1 (by omega)
       have Iu:Utf8.decode full pos=CQ s:=by rw[QM full pos (by omega),ay];rfl
       generalize CQ s=QO at Iu h
       obtain⟨c,wd⟩:=QO
       cases h
       have Dj:hl<w.heap.size:=(ak.lt _ _ hR).2
       obtain⟨r1,r2⟩:=ak.update (w':={w with heap:=w.heap.setIfInBounds hl (.stringIter full (pos+wd))}) (o':=.q9 (jD wd s) (pos+wd)) al rfl hR (by simp) (λr aj=>by simp[Array.getElem?_setIfInBounds];intro e;exact absurd e.symm aj) rfl rfl rfl
        ⟨rfl,full,by simp[Dj],by rw[nr,<-ay,List.drop_drop]⟩
       refine⟨μ,_,.tuple #[.bool true,.int .i64 (pos:Int),.int .i32 (c:Int)],?_,⟨_,rfl,_,_,rfl,rfl,_,_,rfl,rfl,_,_,rfl,rfl,rfl⟩,r1,r2⟩
       have qz:(setObj hl (.stringIter full (pos+wd))).run P w=.ok () {w with heap:=w.heap.setIfInBounds hl (.stringIter full (pos+wd))}:=by simp[setObj,Sem.run,aA]
       simp[Instr.next,hP,cd,Iu,qz,goInt]
   · rename_i since seen last al
     cases h
     obtain⟨c9,aA⟩:=ak.rel _ _ i al hR
     obtain⟨hl,i0,xI⟩:=i
     simp only at c9;subst c9
     have u7:w.heap[hl]? =some (.mapIter none since ⟨seen⟩ last):=aA
     have hP:(getObj hl).run P w=.ok (.mapIter none since ⟨seen⟩ last) w:=by simp[getObj,Sem.run,u7]
     exact .same ak (v':=.tuple #[.bool false]) (by simp[Instr.next,hP]) ⟨_,rfl,_,_,rfl,rfl,rfl⟩
   · cases h
 · cases h
theorem Iv:∀(es:List dN) (ms:List MapEntry) (b:Nat) (e:dN),fW μ es ms->sV b es=some e->∃m,ms.find? (λx=>x.born==b)=some m/\rm μ e m
 |[],ms,b,e,aj,h=>by simp[sV] at h
 |x::es,ms,b,e,aj,h=>by
  obtain⟨m,QP,rfl,ab,ad⟩:=aj
  unfold sV at h
  rw[List.find?_cons,<-ab.2.2]
  cases ae:Nat.beq x.born b with
  |true=>
   rw[ae] at h
   cases h
   have:x.born=b:=Nat.eq_of_beq_eq_true ae
   rw[this]
   simp only[beq_self_eq_true]
   exact⟨m,rfl,ab⟩
  |false=>
   rw[ae] at h
   have:(x.born==b)=false:=by
    cases ag:x.born==b with
    |false=>rfl
    |true=>rw[beq_iff_eq.1 ag] at ae;rw[Nat.beq_refl] at ae;cases ae
   rw[this]
   exact Iv es QP b e ad h
theorem Dk:∀(l:List Nat),xa l=l.getLast?
 |[]=>rfl
 |[b]=>rfl
 |a::b::l=>by
  show xa (b::l)=_
  rw[Dk (b::l),List.getLast?_cons_cons]
theorem QQ(ak:bt μ H w){it:I}{qy:Value}(af:bm μ it qy){v:I}(h:sW H it=some v):eW P μ H w (Instr.entry qy) v H:=by
 unfold sW at h
 split at h
 · rename_i r
   obtain⟨i,hR,rfl⟩:=af
   split at h
   · rename_i m since seen last al
     obtain⟨c9,j,aJ,aA⟩:=ak.rel _ _ i al hR
     obtain⟨hl,i0,xI⟩:=i
     simp only at c9;subst c9
     have u7:w.heap[hl]? =some (.mapIter (some j.bl) since ⟨seen⟩ last):=aA
     split at h
     · rename_i es clock b xJ QR
       obtain⟨ents,f1,f2⟩:=ak.rel _ _ j xJ aJ
       split at h
       · rename_i hQ
         have hQ:clock=last:=Nat.eq_of_beq_eq_true hQ
         split at h
         · rename_i e Dl
           cases h
           obtain⟨Dm,ai,ax⟩:=Iv es ents b e f2 Dl
           have hP:(getObj hl).run P w=.ok (.mapIter (some j.bl) since ⟨seen⟩ last) w:=by simp[getObj,Sem.run,u7]
           have Ap:(getObj j.bl).run P w=.ok (.map ⟨ents⟩ clock) w:=by simp[getObj,Sem.run,f1]
           have QS:(⟨seen⟩:Array Nat).back?=some b:=by
            rw[<-QR,Dk];simp
           have xK:(⟨ents⟩:Array MapEntry).find? (λx=>x.born==b)=some Dm:=by rw[<-ai];simp
           refine .same ak (v':=.tuple #[Dm.key,Dm.val]) ?_ ⟨_,rfl,_,_,rfl,ax.1,_,_,rfl,ax.2.1,rfl⟩
           have cS:(clock !=last)=false:=by simp[hQ]
           simp only[Instr.entry,Sem.run_bind,hP,Result.andThen_ok,QS,Ap,cS,Bool.false_eq_true,if_false,xK]
           rfl
         · cases h
       · cases h
     · cases h
   · cases h
 · cases h
end
end aP
namespace aP
open Go
section
variable {P:Program} {μ:bq} {H:J} {w:World}
theorem QT(k:IntKind)(x y:Int){v:I}(h:arith .xor k x y=some v):∃u,(Op.intBits .xor k x y).run P w=.ok u w/\bm μ v u:=by
 simp only[arith] at h;cases h;exact⟨_,rfl,rfl⟩
theorem QU{x:Value}{b:Bool}(aa:bm μ (.bool b) x):∃u,(Op.unary .not x).run P w=.ok u w/\bm μ (.bool (!b)) u:=by
 cases aa;exact⟨_,rfl,rfl⟩
theorem QV{x:Value}{k:IntKind}{n:Int}(aa:bm μ (.int k n) x):∃u,(Op.unary .neg x).run P w=.ok u w/\bm μ (.int k (k.wrap (0-n))) u:=by
 cases aa;exact⟨_,rfl,rfl⟩
theorem QW{x:Value}{k:IntKind}{n:Int}{v:I}(aa:bm μ (.int k n) x)(h:arith .xor k (if k.signed then-1 else k.max) n=some v):∃u,(Op.unary .xor x).run P w=.ok u w/\bm μ v u:=by
 cases aa;exact QT k _ n h
def tg:Value->Bool
 |.int _ _|.float _ _|.complex _ _ _|.string _=>true
 |_=>false
theorem binOp_eql(t:TypeId){x y:Value}(h:tg x=false):binOp .eql t x y=(do pure (.bool (<-Op.equal t x y))):=by
 cases x<;>simp[tg] at h<;>cases y<;>rfl
theorem binOp_neq(t:TypeId){x y:Value}(h:tg x=false):binOp .neq t x y=(do pure (.bool (!(<-Op.equal t x y)))):=by
 cases x<;>simp[tg] at h<;>cases y<;>rfl
theorem Iw:∀{d:Nat} {t:TypeId} {x y:I} {b:Bool} {bB:Value},fU P H d t x y=some b->(∀j a k c,¬(x=.int j a/\y=.int k c))->(∀a c,¬(x=.str a/\y=.str c))->bm μ x bB->tg bB=false:=by
 intro d t x y b bB h af hs aa
 cases d with
 |zero=>simp[fU] at h
 |succ d=>
  cases x with
  |bad=>unfold fU at h;split at h<;>simp at h
  |int j a=>
   unfold fU at h
   split at h
   all_goals first
    |(cases y<;>simp at h;done)
    |(cases y<;>simp at h;exact absurd ⟨rfl,rfl⟩ (af _ _ _ _))
    |cases h
  |str a=>
   unfold fU at h
   split at h
   all_goals first
    |(cases y<;>simp at h;done)
    |(cases y<;>simp at h;exact absurd ⟨rfl,rfl⟩ (hs _ _))
    |cases h
  |bool b=>cases aa;rfl
  |bb=>cases aa;rfl
  |ptr b off=>obtain⟨i,_,rfl⟩:=aa;rfl
  |a0=>cases aa;rfl
  |slice b off n c=>
   obtain⟨i,_,ag⟩:=aa
   cases c with
   |exact c=>cases ag;rfl
   |a1 gF=>obtain⟨c,rfl,_⟩:=ag;rfl
   |dead=>obtain⟨_,a,c,rfl⟩:=ag;rfl
  |h4=>cases aa;rfl
  |map r=>obtain⟨i,_,rfl⟩:=aa;rfl
  |fR=>cases aa;rfl
  |fn f a b=>obtain⟨_,_,rfl,_⟩:=aa;rfl
  |dh l=>obtain⟨i,_,rfl⟩:=aa;rfl
  |e1=>cases aa;rfl
  |iface t x=>obtain⟨_,rfl,_⟩:=aa;rfl
  |agg cs=>obtain⟨_,rfl,_⟩:=aa;rfl
  |aQ cs=>obtain⟨_,rfl,_⟩:=aa;rfl
theorem Ix{op:BinOp}(h:op≠ .eql)(an:op≠ .neq)(t:TypeId)(kr ks:Operand)(a b:Value):(eqGuard op t kr ks a b).run P w=.ok () w:=by
 cases op<;>first|exact absurd rfl h|exact absurd rfl an|simp[eqGuard]
def rI:Value->Nat
 |.nilIface=>1
 |.agg _=>2
 |_=>0
theorem Dn{op:BinOp}(ft:op=.eql\/op=.neq){t:TypeId}{kr ks:Operand}{a b:Value}(h:rI a=0\/rI a≠rI b):(eqGuard op t kr ks a b).run P w=.ok () w:=by
 rcases ft with rfl|rfl<;>(cases a<;>first|rfl|(cases b<;>first|rfl|simp[rI] at h))
def th:I->Nat
 |.e1=>1
 |.agg _=>2
 |_=>0
theorem Iy{x:I}{a:Value}(aa:bm μ x a)(ae:x≠ .bad):rI a=th x:=by
 cases x with
 |bad=>exact absurd rfl ae
 |bool b=>cases aa;rfl
 |int k n=>cases aa;rfl
 |str s=>obtain⟨_,rfl,_⟩:=aa;rfl
 |bb=>cases aa;rfl
 |ptr b off=>obtain⟨i,_,rfl⟩:=aa;rfl
 |a0=>cases aa;rfl
 |slice b off n c=>
  obtain⟨i,_,ag⟩:=aa
  cases c with
  |exact c=>cases ag;rfl
  |a1 gF=>obtain⟨c,rfl,_⟩:=ag;rfl
  |dead=>obtain⟨_,a,c,rfl⟩:=ag;rfl
 |h4=>cases aa;rfl
 |map r=>obtain⟨i,_,rfl⟩:=aa;rfl
 |fR=>cases aa;rfl
 |fn f a b=>obtain⟨_,_,rfl,_⟩:=aa;rfl
 |dh l=>obtain⟨i,_,rfl⟩:=aa;rfl
 |e1=>cases aa;rfl
 |iface t x=>obtain⟨_,rfl,_⟩:=aa;rfl
 |agg cs=>obtain⟨_,rfl,_⟩:=aa;rfl
 |aQ cs=>obtain⟨_,rfl,_⟩:=aa;rfl
theorem Iz{op:BinOp}(ft:op=.eql\/op=.neq){t:TypeId}{kr ks:Operand}{x y:I}{a b:Value}(aa:bm μ x a)(aS:bm μ y b)(Dp:x≠ .bad)(xL:y≠ .bad)(h:q_ P t kr ks x y=true):
  (eqGuard op t kr ks a b).run P w=.ok () w:=by
 have IA:=Iy aa Dp
 have Dq:=Iy aS xL
 by_cases aj:rI a=0\/rI a≠rI b
 · exact Dn ft aj
 · have ab:th x≠0:=λe=>aj (.inl (IA.trans e))
   have ad:th x=th y:=by
    rw[<-IA,<-Dq];exact Classical.byContradiction λe=>aj (.inr e)
   cases x<;>simp[th] at ab
   · cases y<;>simp[th] at ad
     cases aa;cases aS
     simp only[q_] at h
     rcases ft with rfl|rfl<;>(cases kr<;>cases ks<;>first|rfl|simp at h)
   · cases y<;>simp[th] at ad
     obtain⟨bz,rfl,_⟩:=aa
     obtain⟨bR,rfl,_⟩:=aS
     simp only[q_,Bool.not_eq_true'] at h
     rcases ft with rfl|rfl<;>simp[eqGuard,h]
theorem IB{d:Nat}{t:TypeId}{x y:I}{b:Bool}(h:fU P H d t x y=some b):x≠ .bad/\y≠ .bad:=by
 cases d with
 |zero=>simp[fU] at h
 |succ d=>
  constructor
  · rintro rfl;unfold fU at h;split at h<;>simp at h
  · rintro rfl;unfold fU at h;split at h<;>(try cases x)<;>simp at h
theorem QX(ak:bt μ H w){op:BinOp}{t yt:TypeId}{kr ks:Operand}{x y v:I}{bB gy:Value}(aa:bm μ x bB)(aS:bm μ y gy)(h:eJ P H op t kr ks x y=some v):
  ∃u,(do eqGuard op t kr ks bB gy;binOp op t bB gy:Sem Value).run P w=.ok u w/\bm μ v u:=by
 unfold eJ at h
 split at h
 · rename_i k a ej b
   cases aa;cases aS
   have al:(eqGuard op t kr ks (.int k a) (.int ej b)).run P w=.ok () w:=by
    by_cases ft:op=.eql\/op=.neq
    · exact Dn ft (.inl rfl)
    · exact Ix (λe=>ft (.inl e)) (λe=>ft (.inr e)) t kr ks _ _
   simp only[Sem.run_bind,al,Result.andThen_ok]
   split at h
   · exact HM h t
   · exact HM h t
   · rename_i ab ad
     split at h
     · rename_i aq;subst aq
       exact PH h ⟨ab,ad⟩ t
     · cases h
 · rename_i a b
   obtain⟨s1,rfl,rfl⟩:=aa
   obtain⟨s2,rfl,rfl⟩:=aS
   have al:(eqGuard op t kr ks (.string s1) (.string s2)).run P w=.ok () w:=by
    by_cases ft:op=.eql\/op=.neq
    · exact Dn ft (.inl rfl)
    · exact Ix (λe=>ft (.inl e)) (λe=>ft (.inr e)) t kr ks _ _
   simp only[Sem.run_bind,al,Result.andThen_ok]
   exact PJ h t
 · rename_i dW iH
   split at h
   · split at h
     · rename_i de
       split at h
       · rename_i b he
         cases h
         obtain⟨bo,bG⟩:=IB he
         have al:=Iz (w:=w) (op:=.eql) (.inl rfl) aa aS bo bG de
         have aN:tg bB=false:=Iw he (λj a k c e=>dW j a k c e.1 e.2) (λa c e=>iH a c e.1 e.2) aa
         have aj:=ta (P:=P) ak 100 t x y b bB gy Op.maxDepth (by decide) he aa aS
         refine⟨.bool b,?_,rfl⟩
         simp only[Sem.run_bind,al,Result.andThen_ok,binOp_eql t aN,Op.equal,aj,Sem.run_pure]
       · cases h
     · cases h
   · split at h
     · rename_i de
       split at h
       · rename_i b he
         cases h
         obtain⟨bo,bG⟩:=IB he
         have al:=Iz (w:=w) (op:=.neq) (.inr rfl) aa aS bo bG de
         have aN:tg bB=false:=Iw he (λj a k c e=>dW j a k c e.1 e.2) (λa c e=>iH a c e.1 e.2) aa
         have aj:=ta (P:=P) ak 100 t x y b bB gy Op.maxDepth (by decide) he aa aS
         refine⟨.bool (!b),?_,rfl⟩
         simp only[Sem.run_bind,al,Result.andThen_ok,binOp_neq t aN,Op.equal,aj,Sem.run_pure]
       · cases h
     · cases h
   · cases h
theorem QY{t:TypeId}{d:TypeDesc}(hu:P.underlying t=some d)(dW:∀m,d≠ .interface m){x:I}{bB:Value}(aa:bm μ x bB):
  (Instr.makeInterface t bB).run P w=.ok (.iface t bB) w:=by
 simp only[Instr.makeInterface,Sem.run_bind,bX hu,Result.andThen_ok]
 cases d<;>first|rfl|exact absurd rfl (dW _)
theorem IC{xT as:TypeId}{ok:Bool}{d:TypeDesc}(hu:P.underlying as=some d)(dW:∀m,d≠ .interface m){x:I}{bB:Value}(aa:bm μ x bB):
  (∀z,x=.e1->ok=true->ei P as=some z->∃u,(Instr.typeAssert bB xT as ok).run P w=.ok u w/\bm μ (.aQ [z,.bool false]) u)/\
  (∀v,x=.iface as v->∃u,(Instr.typeAssert bB xT as ok).run P w=.ok u w/\bm μ (if ok then .aQ [v,.bool true] else v) u)/\
  (∀t v z,x=.iface t v->t≠as->ok=true->ei P as=some z->∃u,(Instr.typeAssert bB xT as ok).run P w=.ok u w/\bm μ (.aQ [z,.bool false]) u):=by
 refine⟨λz mF de a2=>?_,λv mF=>?_,λt v z mF cS de a2=>?_⟩
 · subst mF;cases aa;subst de
   obtain⟨fv,xH,rfl,_⟩:=lS (P:=P) (w:=w) a2
   refine⟨.tuple #[fv,.bool false],?_,⟨_,rfl,_,_,rfl,j9 μ fv,_,_,rfl,rfl,rfl⟩⟩
   simp only[Instr.typeAssert,Sem.run_bind,bX hu,Result.andThen_ok]
   cases d<;>first|exact absurd rfl (dW _)|simp[xH]
 · subst mF;obtain⟨y,rfl,aS⟩:=aa
   refine⟨if ok then .tuple #[y,.bool true] else y,?_,?_⟩
   · simp only[Instr.typeAssert,Sem.run_bind,bX hu,Result.andThen_ok]
     cases d<;>first|exact absurd rfl (dW _)|simp
   · cases ok
     · exact aS
     · exact⟨_,rfl,_,_,rfl,aS,_,_,rfl,rfl,rfl⟩
 · subst mF;obtain⟨y,rfl,aS⟩:=aa;subst de
   obtain⟨fv,xH,rfl,_⟩:=lS (P:=P) (w:=w) a2
   refine⟨.tuple #[fv,.bool false],?_,⟨_,rfl,_,_,rfl,j9 μ fv,_,_,rfl,rfl,rfl⟩⟩
   simp only[Instr.typeAssert,Sem.run_bind,bX hu,Result.andThen_ok]
   cases d<;>first|exact absurd rfl (dW _)|simp[xH,cS]
theorem QZ{vs:List I}{x:Value}{i:Nat}{v:I}(aa:bm μ (.aQ vs) x)(h:nth i vs=some v):∃u,(Instr.extract x i).run P w=.ok u w/\bm μ v u:=by
 obtain⟨l,rfl,aw⟩:=aa
 rw[ql] at h
 obtain⟨u,hu,aj⟩:=aw.get h
 refine⟨u,?_,aj⟩
 simp[Instr.extract,hu]
theorem ID{r el:Nat}{c:Array Value}{c7:Nat×Nat}(h:w.heap[r]? =some (.cells c el c7)):(viewAt r).run P w=.ok none w:=by
 simp[viewAt,World.shape?,h]
theorem Q0(ak:bt μ H w){src dst u:TypeId}{b off n:Nat}{cs:List I}{el aO af:Nat}{k:gM}(hs:P.underlying src=some (.pointer u))(ao:P.underlying dst=some .unsafePointer)
  (a2:dn P u=some (n+1))(al:H.get b=some (.cells cs el k aO af))(cd:off<cs.length){x:Value}(aa:bm μ (.ptr b off) x):(convert src dst x).run P w=.ok x w:=by
 obtain⟨i,af,rfl⟩:=aa
 obtain⟨c,gr,gu,aA,ay,bw,eh⟩:=ak.rel _ _ i al af
 obtain⟨v,aC⟩:∃v,cs[off]? =some v:=⟨_,List.getElem?_eq_getElem cd⟩
 obtain⟨Q1,hu,_⟩:=ay off v aC
 have fj:i.base+off<c.size:=by
  rcases Nat.lt_or_ge (i.base+off) c.size with h|h
  · exact h
  · rw[Array.getElem?_eq_none h] at hu;cases hu
 have rA:(Conv.seenAt ⟨i.bl,i.base+off,none⟩).run P w=.ok ⟨i.bl,i.base+off,none⟩ w:=by
  simp[Conv.seenAt,ID aA]
 have IE:(cellsIn i.bl).run P w=.ok (some c.size) w:=by simp[cellsIn,World.shape?,aA]
 have s5:¬(c.size<=i.base+off):=by omega
 simp[convert,bX hs,bX ao,Conv.unsafePointer,rA,IE,run_sizeOf a2,s5]
theorem Q2(ak:bt μ H w){src dst u:TypeId}{b off n:Nat}{cs:List I}{el aO af:Nat}(hs:P.underlying src=some .unsafePointer)(ao:P.underlying dst=some (.pointer u))
  (a2:dn P u=some (n+1))(al:H.get b=some (.cells cs el .own aO af))(aw:liesAt P P.depth el (cs.length/P.cellsOf el) off u 1=true){x:Value}(aa:bm μ (.ptr b off) x):(convert src dst x).run P w=.ok x w:=by
 obtain⟨i,af,rfl⟩:=aa
 obtain⟨c,gr,gu,aA,ay,bw,eh,fH,_⟩:=ak.rel _ _ i al af
 have ag:c.size=cs.length:=by omega
 have rA:(Conv.seenAt ⟨i.bl,i.base+off,none⟩).run P w=.ok ⟨i.bl,i.base+off,none⟩ w:=by
  simp[Conv.seenAt,ID aA]
 have u9:(variablesAt ⟨i.bl,i.base+off,none⟩ u 1).run P w=.ok true w:=by
  simp[variablesAt,World.shape?,aA,eh,ag,aw]
 simp[convert,bX hs,bX ao,Conv.unsafePointer,rA,run_sizeOf a2,u9]
end
end aP
namespace aP
open Go
section
variable {P:Program} {μ:bq} {H:J} {w:World}
theorem IF(ak:bt μ H w){b:Nat}{i:eV}(af:μ b=some i){cs:List I}{el aO eQ:Nat}{k:gM}(al:H.get b=some (.cells cs el k aO eQ)):
  ∀(n off:Nat) (r:List I) (bs:List UInt8) (acc:ByteArray),takeN n (jD off cs)=some r->nj r=some bs->
   (loadBytes ⟨i.bl,i.base+off,none⟩ acc n).run P w=.ok ⟨acc.data++bs.toArray⟩ w
 |0,off,r,bs,acc,h,ae=>by
  simp only[takeN] at h;cases h
  simp only[nj] at ae;cases ae
  simp[loadBytes]
 |n+1,off,r,bs,acc,h,ae=>by
  rw[nr] at h
  cases ao:cs.drop off with
  |nil=>rw[ao] at h;simp[takeN] at h
  |cons a l=>
   rw[ao] at h
   simp only[takeN] at h
   cases ba:takeN n l with
   |none=>rw[ba] at h;cases h
   |some r'=>
    rw[ba] at h;cases h
    unfold nj at ae
    split at ae
    · rename_i heq;cases heq
    · rename_i m oj heq
      cases heq
      split at ae
      · rename_i Q3 hm j_
        cases ae
        have IG:cs[off]? =some (.int .u8 (Int.ofNat m)):=by
         have:=congrArg List.head? ao
         simpa[List.head?_drop] using this
        have aw:l=cs.drop (off+1):=by
         have:=congrArg List.tail ao
         simpa[List.tail_drop] using this.symm
        obtain⟨u,ab,ad⟩:=C0 (P:=P) (off:=off) ak af (show au H b off=some (.int .u8 (Int.ofNat m)) by simp[au,al,ql,IG])
        cases ad
        have a7:=IF ak af al n (off+1) r' Q3 (acc.push (UInt8.ofNat m)) (by rw[nr,<-aw];exact ba) j_
        have e:(⟨i.bl,i.base+off,none⟩:Addr).add 1=⟨i.bl,i.base+(off+1),none⟩:=by simp[Addr.add,Nat.add_assoc]
        simp only[loadBytes,Sem.run_bind,ab,Result.andThen_ok,e]
        refine Eq.trans ?_ (a7.trans ?_)
        · rfl
        · congr 1
          simp[ByteArray.ext_iff,ByteArray.push]
      · cases ae
    · cases ae
theorem Dr{α:Type}(p:Option Addr)(l:Value)(f:Option Addr->Value->α)(g:Array Value->α):Builtin.unsafeString_.match_3 (λ_=>α) #[.pointer p,l] f g=f p l:=rfl
theorem Q4(argTypes:Array TypeId)(ty pT:TypeId)(h0:argTypes[0]? =some pT)(k:IntKind)(m:Nat)(a:Addr)(u:TypeId)(hu:P.underlying pT=some (.pointer u))(qt:m≠0)(hm:m<=281474976710656)
  {s:ByteArray}(aC:(variablesAt a u m).run P w=.ok true w)(aw:(loadBytes a .empty m).run P w=.ok s w):
  (Builtin.unsafeString_ argTypes ty #[.pointer (some a),.int k (m:Int)]).run P w=.ok (.string s) (w.freeze a m):=by
 have xM:¬((9223372036854775807:Int)<(m:Int)):=by omega
 have iF:IntKind.i64.max=9223372036854775807:=rfl
 have he:(elemOf pT).run P w=.ok u w:=by simp[elemOf,bX hu]
 have xN:¬((m:Int)<0):=by omega
 delta Builtin.unsafeString_
 rw[Dr]
 simp[asInt,asIntOf,h0,iF,xM,qt,he,aC,aw,xN]
theorem IH(argTypes:Array TypeId)(ty pT:TypeId)(h0:argTypes[0]? =some pT)(k:IntKind)(p:Option Addr):(Builtin.unsafeString_ argTypes ty #[.pointer p,.int k 0]).run P w=.ok (.string .empty) w:=by
 have iF:IntKind.i64.max=9223372036854775807:=rfl
 cases p with
 |none=>
  delta Builtin.unsafeString_
  rw[Dr]
  simp[asInt,asIntOf,h0,iF]
 |some a=>
  delta Builtin.unsafeString_
  rw[Dr]
  simp[asInt,asIntOf,h0,iF]
theorem Aq:P.depth=(2*(P.types.size+Made.depth)+1)+1:=rfl
theorem Q5{e u count off n:Nat}(ab:P.underlyingId e=P.underlyingId u)(hs:P.cellsOf e=1)(ae:off+n<=count):liesAt P P.depth e count off u n=true:=by
 have aw:sameLayout P P.depth e u=true:=by rw[Aq];simp[sameLayout,ab]
 have aj:rowAt P (sameLayout P P.depth · u) P.depth e count off n=true:=by
  rw[Aq]
  unfold rowAt
  simp only[hs,Nat.div_one,Nat.mod_one]
  rw[Aq] at aw
  simp[ae,aw]
 have:∀d,rowAt P (sameLayout P P.depth · u) P.depth e count off n=true->liesAt P (d+1) e count off u n=true:=λd h=>by
  unfold liesAt;rw[h];rfl
 conv=>lhs;arg 2;rw[Aq]
 exact this _ aj
theorem Q6(ak:bt μ H w){argTypes:Array TypeId}{ty pT:TypeId}(h0:argTypes[0]? =some pT){p n v:I}{Ds Dt:Value}(aK:bm μ p Ds)(aN:bm μ n Dt){aW:J}(h:o6 P H pT p n=some (v,aW)):
  eW P μ H w (Builtin.unsafeString_ argTypes ty #[Ds,Dt]) v aW:=by
 unfold o6 at h
 have II:∀m,eK n=some m->∃k,Dt=.int k (m:Int):=by
  intro m hm
  unfold eK at hm
  split at hm
  · cases hm;cases aN;exact⟨_,rfl⟩
  · cases hm
 split at h
 · rename_i a2
   cases h;cases aK
   obtain⟨k,rfl⟩:=II 0 a2
   exact .same ak (v':=.string .empty) (IH argTypes ty pT h0 k none) ⟨.empty,rfl,rfl⟩
 · rename_i b off m hm
   obtain⟨k,rfl⟩:=II m hm
   obtain⟨i,af,rfl⟩:=aK
   split at h
   · rename_i a2
     cases h;subst a2
     exact .same ak (v':=.string .empty) (IH argTypes ty pT h0 k _) ⟨.empty,rfl,rfl⟩
   · rename_i qt
     split at h
     · rename_i u cs el bh aO eQ hu al
       split at h
       · rename_i ag
         simp only[Bool.and_eq_true,decide_eq_true_eq,Nat.ble_eq] at ag
         obtain⟨⟨⟨aH,a9⟩,du⟩,gW⟩:=ag
         split at h
         · rename_i r aj
           split at h
           · rename_i bs ae
             cases h
             obtain⟨c,gr,gu,aA,ay,bw,eh⟩:=ak.rel _ _ i al af
             have Du:=IF (P:=P) ak af al m off r bs .empty aj ae
             have hlen:off+m<=cs.length:=by
              rw[nr] at aj
              have:=(s4 m _ _ aj).1
              rw[List.length_drop] at this
              omega
             have xn:0<m:=Nat.pos_of_ne_zero qt
             have fj:i.base+off+m<=c.size:=by
              obtain⟨x,aa⟩:∃x,cs[off+m-1]? =some x:=⟨_,List.getElem?_eq_getElem (by omega)⟩
              obtain⟨Q1,mD,_⟩:=ay _ x aa
              rcases Nat.lt_or_ge (i.base+(off+m-1)) c.size with h|h
              · omega
              · rw[Array.getElem?_eq_none h] at mD;cases mD
             have xO:P.cellsOf el=1:=by
              unfold dn at a9
              unfold Program.cellsOf
              cases eQ:P.info? el with
              |none=>rw[eQ] at a9;cases a9
              |some ii=>rw[eQ] at a9;simpa using a9
             have u9:(variablesAt ⟨i.bl,i.base+off,none⟩ u m).run P w=.ok true w:=by
              have aw:=Q5 (P:=P) (e:=el) (u:=u) (count:=c.size/P.cellsOf el) (off:=i.base+off) (n:=m) aH xO (by rw[xO];simpa using fj)
              simp[variablesAt,World.shape?,aA,aw]
             have eX:=Q4 (P:=P) (w:=w) argTypes ty pT h0 k m _ u hu qt du u9 Du
             have Q7:∃c7:Nat×Nat,w.freeze ⟨i.bl,i.base+off,none⟩ m={w with heap:=w.heap.modify i.bl λ
               |.cells c elem (aO,af)=>.cells c elem (if aO==af then(i.base+off,i.base+off+m) else(min aO (i.base+off),max af (i.base+off+m)))
               |o=>o}/\(w.freeze ⟨i.bl,i.base+off,none⟩ m).heap[i.bl]? =some (.cells c el c7):=by
              have:w.freeze ⟨i.bl,i.base+off,none⟩ m={w with heap:=w.heap.modify i.bl λ
               |.cells c elem (aO,af)=>.cells c elem (if aO==af then(i.base+off,i.base+off+m) else(min aO (i.base+off),max af (i.base+off+m)))
               |o=>o}:=by simp[World.freeze,qt];rfl
              refine⟨if gr==gu then(i.base+off,i.base+off+m) else(min gr (i.base+off),max gu (i.base+off+m)),this,?_⟩
              rw[this]
              simp[Array.getElem?_modify,aA]
             obtain⟨⟨f1,f2⟩,a8,a6⟩:=Q7
             have hi:(df.cells cs el bh aO eQ).pj=false:=by cases bh<;>first|rfl|exact absurd rfl gW
             obtain⟨r1,r2⟩:=ak.update (w':=w.freeze ⟨i.bl,i.base+off,none⟩ m) (o':=.cells cs el .fz aO eQ) al hi af (by rw[a8];simp) (λr aj=>by rw[a8];simp[Array.getElem?_modify];intro e;exact absurd e.symm aj) (by rw[a8]) (by rw[a8]) (by rw[a8])
              ⟨c,f1,f2,a6,ay,bw,trivial⟩ (hdr:=by rw[a8];exact Nat.le_refl _)
             exact⟨μ,_,.string _,eX,⟨_,rfl,by simp⟩,r1,r2⟩
           · cases h
         · cases h
       · cases h
     · cases h
 · cases h
theorem Q8{argTypes:Array TypeId}{ty:TypeId}{x:I}{bB:Value}(aa:bm μ x bB):
  (x=.a0->(Builtin.unsafeSliceData_ argTypes ty #[bB]).run P w=.ok (.pointer none) w)/\
  (∀b off n c,x=.slice b off n (.exact c)->c≠0->∃u,(Builtin.unsafeSliceData_ argTypes ty #[bB]).run P w=.ok u w/\bm μ (.ptr b off) u)/\
  (∀b off n e,x=.slice b off n (.a1 e)->n≠0->∃u,(Builtin.unsafeSliceData_ argTypes ty #[bB]).run P w=.ok u w/\bm μ (.ptr b off) u):=by
 have key:∀(a:Addr) (n c:Nat),c≠0->(Builtin.unsafeSliceData_ argTypes ty #[.slice (some a) n c]).run P w=.ok (.pointer (some a)) w:=λa n c ag=>by
  obtain⟨k,rfl⟩:∃k,c=k+1:=⟨c-1,by omega⟩
  rfl
 refine⟨λh=>?_,λb off n c h ag=>?_,λb off n e h aN=>?_⟩
 · subst h;cases aa;rfl
 · subst h;obtain⟨i,af,pk⟩:=aa;cases pk
   exact⟨_,key _ n c ag,i,af,rfl⟩
 · subst h;obtain⟨i,af,c,rfl,hle,_⟩:=aa
   exact⟨_,key _ n c (by omega),i,af,rfl⟩
theorem IJ{qA:Value}{first aU:List I}{g:Nat}{args:List I}{vs:List Value}(hf:bm μ (.fn g first aU) qA)(aT:cf μ args vs):
  ∃bV cs:List Value,(do let d<-Deferred.ofValue qA ⟨vs⟩;invoke d.target d.args:Sem Next).run P w=(callFunc g ⟨bV++vs++cs⟩).run P w/\cf μ (first++args++aU) (bV++vs++cs)/\
   (Deferred.ofValue qA ⟨vs⟩).run P w=.ok {target:=.fn (.func g) ⟨cs⟩,args:=⟨bV++vs⟩} w:=by
 obtain⟨bV,cs,rfl,ab,ad⟩:=hf
 refine⟨bV,cs,?_,(ab.append aT).append ad,?_⟩
 · simp[Deferred.ofValue,invoke]
 · simp[Deferred.ofValue]
theorem Q9{l:Nat}{qA:Value}{vs:List Value}(hf:bm μ (.dh l) qA):
  ∃i,μ l=some i/\(do let d<-Deferred.ofValue qA ⟨vs⟩;invoke d.target d.args:Sem Next).run P w=(Instr.yield i.bl ⟨vs⟩).run P w:=by
 obtain⟨i,af,rfl⟩:=hf
 exact⟨i,af,by simp[Deferred.ofValue,invoke]⟩
theorem Q_{t:TypeId}{name:String}{f:Nat}(h:z2 P t name=some f)(v:Value)(n:Nat):(method (n+1) t v name).run P w=.ok (f,v) w:=by
 unfold z2 at h
 split at h
 · rename_i i af
   split at h
   · rename_i m hm
     have hf:∀q,m.path.isEmpty=q->m.path.isEmpty=q:=λ_ h=>h
     split at h
     all_goals first
      |(cases h;done)
      |(rename_i aK nB hu
        cases h
        have Ar:m.path.toList=[]:=by simpa using aK
        simp[method,run_typeInfo af,hm,Ar,follow,nB,receiverAt,bX hu,Place.get]
        done)
   · cases h
 · cases h
end
end aP
namespace aP
open Go
def jJ(P:Program)(μ:bq)(H:J)(w:World)(s:Sem Next):jg->Prop
 |.val v aW=>∃aX w' u,(s.run P w=.ok (.value u) w'\/(u=undef/\s.run P w=.ok .skip w'))/\bm aX v u/\bt aX aW w'/\cb μ H w aX aW w'
 |.b6 v aW=>aW=H/\∃u,s.run P w=.halt (.panic u) w/\bm μ v u
 |.call f args aW=>aW=H/\∃vs:List Value,s.run P w=(callFunc f ⟨vs⟩).run P w/\cf μ args vs
 |.dh l args aW=>aW=H/\∃i,∃vs:List Value,μ l=some i/\s.run P w=(Instr.yield i.bl ⟨vs⟩).run P w/\cf μ args vs
 |.ll d=>∃rJ,s.run P w=.ok (.defer rJ) w/\s3 μ d rJ
 |.sS=>s.run P w=.ok .recover w
 |.fail _=>True
section
variable {P:Program} {μ:bq} {H:J} {w:World}
theorem jJ.jK{s:Sem Value}{v:I}{aW:J}(h:eW P μ H w s v aW):jJ P μ H w (do pure (.value (<-s))) (.val v aW):=by
 obtain⟨aX,w',u,ab,ad,ar,aG⟩:=h
 exact⟨aX,w',u,.inl (by simp[ab]),ad,ar,aG⟩
theorem jJ.of_same(ak:bt μ H w){s:Sem Value}{v:I}(h:∃u,s.run P w=.ok u w/\bm μ v u):jJ P μ H w (do pure (.value (<-s))) (.val v H):=by
 obtain⟨u,ab,ad⟩:=h
 exact⟨μ,w,u,.inl (by simp[ab]),ad,ak,cb.refl _ _ _⟩
theorem jJ.As(ak:bt μ H w){u:Value}{v:I}(h:bm μ v u){s:Sem Next}(hs:s.run P w=.ok (.value u) w):jJ P μ H w s (.val v H):=
 ⟨μ,w,u,.inl hs,h,ak,cb.refl _ _ _⟩
theorem jJ.Ra{s:Sem Unit}{aW:J}(h:∃w',s.run P w=.ok () w'/\bt μ aW w'/\cb μ H w μ aW w'):jJ P μ H w (do s;pure .skip) (.val (.aQ []) aW):=by
 obtain⟨w',ab,ar,aG⟩:=h
 exact⟨μ,w',undef,.inr ⟨rfl,by simp[ab]⟩,⟨[],rfl,rfl⟩,ar,aG⟩
theorem xP(ak:bt μ H w){s:Sem Value}{o:Option I}{jh:String}(h:∀v,o=some v->∃u,s.run P w=.ok u w/\bm μ v u):jJ P μ H w (do pure (.value (<-s))) (fF H jh o):=by
 cases o with
 |none=>trivial
 |some v=>exact .of_same ak (h v rfl)
theorem rK{s:Sem Value}{o:Option I}{jh:String}(h:∀v,o=some v->eW P μ H w s v H):jJ P μ H w (do pure (.value (<-s))) (fF H jh o):=by
 cases o with
 |none=>trivial
 |some v=>exact .jK (h v rfl)
theorem ti{s:Sem Value}{o:Option (I×J)}{jh:String}(h:∀v aW,o=some (v,aW)->eW P μ H w s v aW):jJ P μ H w (do pure (.value (<-s))) (ln jh o):=by
 cases o with
 |none=>trivial
 |some p=>exact .jK (h p.1 p.2 rfl)
theorem At{s:Sem Unit}{o:Option J}{jh:String}(h:∀aW,o=some aW->∃w',s.run P w=.ok () w'/\bt μ aW w'/\cb μ H w μ aW w'):jJ P μ H w (do s;pure .skip) (qf jh o):=by
 cases o with
 |none=>trivial
 |some aW=>exact .Ra (h aW rfl)
theorem rL{a:I}{n:Nat}{v:Value}(h:eK a=some n)(aC:bm μ a v):∃k,v=.int k (n:Int):=by
 unfold eK at h
 split at h
 · cases h;cases aC;exact⟨_,rfl⟩
 · cases h
theorem IK(ak:bt μ H w){f:I}{qA:Value}{args:List I}{vs:List Value}(hf:bm μ f qA)(aT:cf μ args vs):
  jJ P μ H w (do let d<-Deferred.ofValue qA ⟨vs⟩;invoke d.target d.args) (sX f args H):=by
 unfold sX
 split
 · obtain⟨bV,cs,ab,ad,_⟩:=IJ (P:=P) (w:=w) hf aT
   exact⟨rfl,_,ab,ad⟩
 · obtain⟨i,ab,ad⟩:=Q9 (P:=P) (w:=w) (vs:=vs) hf
   exact⟨rfl,i,vs,ab,ad,aT⟩
 · trivial
theorem Rb(ak:bt μ H w){b:Builtin}{ats:Array TypeId}{ty:TypeId}{consts:Array Bool}{vs:List I}{us:List Value}(aC:cf μ vs us):
  jJ P μ H w (builtin b ats ty consts ⟨us⟩) (h6 P b ats vs H):=by
 unfold h6
 split
 · rfl
 · cases vs with
   |nil=>trivial
   |cons x l=>
    obtain⟨bB,kY,rfl,ab,ad⟩:=aC
    refine xP ak λv h=>?_
    obtain⟨u,a8,a6⟩:=Dc (P:=P) (w:=w) qd Builtin.min2 (λ_ _ _ _ _ h aa aS=>Qo h aa aS) l x bB kY v ab ad h
    exact⟨u,by simpa[Builtin.min_] using a8,a6⟩
 · cases vs with
   |nil=>trivial
   |cons x l=>
    obtain⟨bB,kY,rfl,ab,ad⟩:=aC
    refine xP ak λv h=>?_
    obtain⟨u,a8,a6⟩:=Dc (P:=P) (w:=w) mz Builtin.max2 (λ_ _ _ _ _ h aa aS=>Qp h aa aS) l x bB kY v ab ad h
    exact⟨u,by simpa[Builtin.max_] using a8,a6⟩
 · split
   · rename_i t x h0
     obtain⟨bB,kY,rfl,ab,ad⟩:=aC
     cases ad
     split
     · exact rK λv h=>Ql ak h0 ab h
     · exact rK λv h=>Qm ak h0 ab h
     · exact ti λv aW h=>Qk ak h0 ab h
     · obtain⟨s1,s2,bK⟩:=Q8 (P:=P) (w:=w) (argTypes:=ats) (ty:=ty) ab
       split
       · exact .of_same ak ⟨_,s1 rfl,rfl⟩
       · split
         · trivial
         · rename_i ag;exact .of_same ak (s2 _ _ _ _ rfl ag)
       · split
         · trivial
         · rename_i ag;exact .of_same ak (bK _ _ _ _ rfl ag)
       · trivial
     · trivial
   · rename_i t x y h0
     obtain⟨bB,kY,rfl,ab,gy,H8,rfl,ad,ar⟩:=aC
     cases ar
     split
     · exact ti λv aW h=>Qe ak h0 ab ad h
     · exact ti λv aW h=>Qj ak h0 ab ad h
     · exact ti λv aW h=>QG ak h0 ab ad h
     · exact ti λv aW h=>Q6 ak h0 ab ad h
     · trivial
   · trivial
theorem Rc(ak:bt μ H w){src dst:TypeId}{x:I}{bB:Value}(aa:bm μ x bB):
  jJ P μ H w (do pure (.value (<-convert src dst bB))) (iR P src dst x H):=by
 unfold iR
 split
 · rename_i kd k bH n hs ao
   cases aa
   exact .of_same ak ⟨.int k (k.wrap n),by simp[convert,bX hs,bX ao,Conv.intToInt],rfl⟩
 · rename_i kd bH n hs ao
   cases aa
   exact .of_same ak ⟨.string (Utf8.encode n),by simp[convert,bX hs,bX ao,Conv.intToString],_,rfl,rfl⟩
 · rename_i s hs ao
   obtain⟨t,rfl,rfl⟩:=aa
   exact .of_same ak ⟨.string t,by simp[convert,bX hs,bX ao],_,rfl,rfl⟩
 · rename_i e s hs ao
   obtain⟨t,rfl,rfl⟩:=aa
   split
   · rename_i he
     refine .jK ?_
     have ct:=Qr (P:=P) ak (e:=e) (bs:=t)
     obtain⟨aX,w',u,ab,ad,ar,aG⟩:=ct
     exact⟨aX,w',u,by simp[convert,bX hs,bX ao,bX he,ab],ad,ar,aG⟩
   · trivial
 · rename_i e hs ao
   have key:P.underlying e=some (.int .u8)->∀a n c,(convert src dst (.slice a n c)).run P w=(Conv.bytesToString (.slice a n c)).run P w:=by
    intro he a n c
    simp[convert,bX hs,bX ao,bX he]
   split
   · rename_i he
     cases aa
     refine .of_same ak ⟨.string .empty,?_,.empty,rfl,rfl⟩
     rw[key he];rfl
   · rename_i b off n he
     split
     · rename_i aN
       subst aN
       obtain⟨i,_,_,a,c,rfl⟩:=aa
       refine .of_same ak ⟨.string .empty,?_,.empty,rfl,rfl⟩
       rw[key he];rfl
     · trivial
   · rename_i b off n c Ak he
     split
     · rename_i cs aw
       split
       · rename_i bs ae
         obtain⟨aX,w',u,ab,ad,ar,aG⟩:=Qq (P:=P) ak (by intro e;subst e;exact Ak rfl) aa aw ae
         refine .jK ⟨aX,w',u,?_,ad,ar,aG⟩
         have jm:∃a m k,bB=.slice a m k:=by
          obtain⟨i,_,ag⟩:=aa
          cases c with
          |exact c=>cases ag;exact⟨_,_,_,rfl⟩
          |a1 gF=>obtain⟨c,rfl,_⟩:=ag;exact⟨_,_,_,rfl⟩
          |dead=>obtain⟨_,a,c,rfl⟩:=ag;exact⟨_,_,_,rfl⟩
         obtain⟨a,m,k,rfl⟩:=jm
         rw[key he];exact ab
       · trivial
     · trivial
   · trivial
 · rename_i u b off hs ao
   split
   · rename_i cs el k aO af n al a2
     split
     · rename_i cd
       exact .of_same ak ⟨bB,Q0 ak hs ao a2 al (by simpa using cd) aa,aa⟩
     · trivial
   · trivial
 · rename_i u b off hs ao
   split
   · rename_i cs el aO af n al a2
     split
     · rename_i ag
       exact .of_same ak ⟨bB,Q2 ak hs ao a2 al ag aa,aa⟩
     · trivial
   · trivial
 · trivial
end
end aP
namespace aP
open Go
section
variable {P:Program} {μ:bq} {H:J} {w:World}
theorem IL(ak:bt μ H w){c a b:Operand}{g:Operand->I}{cy:Operand->Value}(al:∀x,bm μ (g x) (cy x)){fl:Bool}(ag:g c=.bool fl):
  jJ P μ H w (do pure (.value (if<-asBool (cy c) then cy a else cy b))) (.val (if fl then g a else g b) H):=by
 have ab:=al c
 rw[ag] at ab
 refine .As ak (u:=if fl then cy a else cy b) ?_ ?_
 · cases fl
   · exact al b
   · exact al a
 · have:cy c=.bool fl:=ab
   simp[this,asBool]
theorem Au{g:Operand->I}{cy:Operand->Value}(al:∀x,bm μ (g x) (cy x))(args:Array Operand):cf μ (args.toList.map g) (args.map cy).toList:=by
 rw[Array.toList_map];exact cf.map g cy al _
theorem Rd(ak:bt μ H w){g:Operand->I}{cy:Operand->Value}(al:∀x,bm μ (g x) (cy x))(o:Oper)(x:Operand)(a4:o.op=.nilCheck x):jJ P μ H w (execOp cy o) (match g x with
  |.ptr b o=>.val (.ptr b o) H
  |.slice b o n c=>.val (.slice b o n c) H
  |.fn f a b=>.val (.fn f a b) H
  |.iface t v=>.val (.iface t v) H
  |_=>.fail "nilCheck"):=by
 have ab:=al x
 have e:∀(v:I),g x=v->((∃b o,v=.ptr b o)\/(∃b o n c,v=.slice b o n c)\/(∃f a b,v=.fn f a b)\/∃t y,v=.iface t y)->jJ P μ H w (execOp cy o) (.val v H):=by
  intro v aC hs
  have ad:=ab
  rw[aC] at ad
  exact .As ak ad (PD ad hs o x cy rfl a4)
 split
 · rename_i b o aa;exact e _ aa (.inl ⟨_,_,rfl⟩)
 · rename_i b o n c aa;exact e _ aa (.inr (.inl ⟨_,_,_,_,rfl⟩))
 · rename_i f a b aa;exact e _ aa (.inr (.inr (.inl ⟨_,_,_,rfl⟩)))
 · rename_i t v aa;exact e _ aa (.inr (.inr (.inr ⟨_,_,rfl⟩)))
 · trivial
theorem Re(ak:bt μ H w){g:Operand->I}{cy:Operand->Value}(al:∀x,bm μ (g x) (cy x))(c:Call)(type:TypeId):jJ P μ H w (do let d<-resolve cy c type;invoke d.target d.args) (match c.callee with
  |.value f=>sX (g f) (c.args.toList.map g) H
  |.invoke r name=>match g r with
   |.iface t v=>match z2 P t name with
    |some f=>.call f (v::c.args.toList.map g) H
    |none=>.fail ("invoke " ++name)
   |_=>.fail ("invoke " ++name)
  |.builtin b=>h6 P b c.argTypes (c.args.toList.map g) H):=by
 have aT:=Au (μ:=μ) al c.args
 cases ag:c.callee with
 |value f=>
  simp only[resolve,ag]
  exact IK ak (al f) aT
 |invoke r name=>
  simp only[]
  split
  · rename_i t v aj
    split
    · rename_i f hm
      have ab:=al r
      rw[aj] at ab
      obtain⟨y,aS,aC⟩:=ab
      refine⟨rfl,y::(c.args.map cy).toList,?_,⟨_,_,rfl,aC,aT⟩⟩
      have ac4:0<Made.depth:=by decide
      obtain⟨n,aN⟩:∃n,P.types.size+Made.depth=n+1:=⟨P.types.size+Made.depth-1,by omega⟩
      have Rf:=Q_ (P:=P) (w:=w) hm y n
      have h0:(#[cy r]++c.args.map cy)[0]? =some (cy r):=by rw[Array.getElem?_append_left (by simp)];rfl
      have ad:(#[cy r]++c.args.map cy).extract 1 (#[cy r]++c.args.map cy).size=c.args.map cy:=by
       apply Array.ext'
       simp only[Array.toList_extract,Array.toList_append,Array.toList_map,List.cons_append,List.nil_append,List.extract_eq_take_drop]
       rw[List.take_of_length_le]
       · rfl
       · simp
      have ar:(#[y]++c.args.map cy:Array Value)=⟨y::(c.args.map cy).toList⟩:=by apply Array.ext';simp
      rw[aS] at h0 ad
      simp only[resolve,ag,Sem.run_bind,Sem.run_pure,Result.andThen_ok,invoke,aS,h0,ad,callMethod,run_program,aN,Rf,ar]
    · trivial
  · trivial
 |builtin b=>
  have ae:=Rb (P:=P) (b:=b) (ats:=c.argTypes) (ty:=type) (consts:=c.args.map λ|.const _=>true|_=>false) ak aT
  have he:(do let d<-resolve cy c type;invoke d.target d.args:Sem Next)=builtin b c.argTypes type (c.args.map λ|.const _=>true|_=>false) (c.args.map cy):=by
   simp only[resolve,ag];rfl
  rw[he];exact ae
set_option maxHeartbeats 4000000 in
theorem Rg(ak:bt μ H w)(o:Oper){g:Operand->I}{cy:Operand->Value}(al:∀x,bm μ (g x) (cy x)):jJ P μ H w (execOp cy o) (cH P o g H):=by
 obtain⟨dst,op,type,pos,after,guard⟩:=o
 cases op<;>simp only[cH,execOp]
 case move x=>exact .As ak (al x) rfl
 case assign x=>exact .As ak (al x) rfl
 case pick c a b=>
  split
  · rename_i ag;exact IL ak al ag
  · rename_i ag;exact IL ak al ag
  · trivial
 case alloc e=>
  split
  · rename_i z a2
    split
    · rename_i b an aj;exact .jK (Pr ak a2 aj)
    · trivial
  · trivial
 case box e x=>
  split
  · rename_i b an aj;exact .jK (Ps ak (al x) aj)
  · trivial
 case build t parts=>
  split
  · rename_i z a2
    split
    · rename_i bV hu
      split
      · rename_i cs en hf;exact .jK (Py ak g cy al a2 hu en parts hf)
      · trivial
    · rename_i n e hu
      split
      · rename_i sz hs
        split
        · rename_i cs hf;exact .jK (PA ak g cy al a2 hu hs parts hf)
        · trivial
      · trivial
    · trivial
  · trivial
 case buildSlice t len parts=>
  split
  · rename_i e hu
    split
    · rename_i sz z hs a2
      split
      · rename_i cs ag hf
        rw[Bool.and_eq_true,Nat.ble_eq,Nat.beq_eq] at ag
        split
        · rename_i b an aj;exact .jK (PB ak g cy al hu hs a2 ag.1 ag.2 parts hf aj)
        · trivial
      · trivial
    · trivial
  · trivial
 case insert t m k v=>exact At λaW h=>Ip ak (al m) (al k) (al v) h
 case load t a=>
  split
  · rename_i b off aT
    have ab:=al a
    rw[aT] at ab
    obtain⟨bz,bR⟩:=Pt (P:=P) ak (t:=t) ab
    split
    · rename_i n Dv aN
      split
      · rename_i cs aw;exact .jK (bz n cs Dv aN aw)
      · trivial
    · rename_i Dv
      exact rK λv h=>bR v Dv h
    · trivial
  · trivial
 case store t a v=>
  split
  · rename_i b off aT
    have ab:=al a
    rw[aT] at ab
    split
    · trivial
    · rename_i n aN kZ
      split
      · rename_i aw
        exact At λaW h=>Pu ak ab (al v) kZ aN (by simpa using aw) h
      · trivial
    · trivial
  · trivial
 case ready=>trivial
 case waits=>trivial
 case nilCheck x=>exact Rd ak al ⟨dst,.nilCheck x,type,pos,after,guard⟩ x rfl
 case binOp op t x y yt=>exact xP ak λv h=>QX ak (yt:=yt) (al x) (al y) h
 case unOp op t x=>
  have ab:=al x
  split
  · rename_i b aa;rw[aa] at ab;exact .of_same ak (QU ab)
  · rename_i k n aa;rw[aa] at ab;exact .of_same ak (QV ab)
  · rename_i k n aa;rw[aa] at ab;exact xP ak λv h=>QW ab h
  · trivial
 case convert src ac5 x=>exact Rc ak (al x)
 case sliceToArrayPointer=>trivial
 case makeInterface t x=>
  split
  · trivial
  · rename_i d dW hu
    refine .of_same ak ⟨.iface t (cy x),QY hu (λm e=>dW m (e▸rfl)) (al x),_,rfl,al x⟩
  · trivial
 case makeFunc fn first aU=>
  split
  · rename_i f
    exact .of_same ak ⟨.func (.func f) (first.map cy) (aU.map cy),rfl,_,_,rfl,Au al first,Au al aU⟩
  · trivial
 case makeMap t r=>
  cases r with
  |none=>exact .jK (QH ak)
  |some x=>
   simp only[]
   split
   · rename_i kt ji k n hu aa
     have ab:=al x
     rw[aa] at ab
     have ad:cy x=.int k n:=ab
     rw[Option.map_some,ad]
     exact .jK (QI ak hu)
   · trivial
 case makeChan=>trivial
 case makeSlice t l c=>
  split
  · rename_i e oj c' hu aw ag
    obtain⟨kl,el⟩:=rL aw (al l)
    obtain⟨kc,xQ⟩:=rL ag (al c)
    split
    · rename_i i z af a2
      split
      · rename_i kx
        rw[Bool.and_eq_true,Bool.and_eq_true,Nat.ble_eq,Nat.beq_eq,decide_eq_true_eq] at kx
        split
        · rename_i b an aj
          rw[el,xQ]
          exact .jK (PC ak hu af a2 kx.1.1 kx.1.2 kx.2 aj)
        · trivial
      · trivial
    · trivial
  · trivial
 case slice t x aO af mx=>
  exact rK λv h=>PO ak (al x) (nw.map g cy al aO) (nw.map g cy al af) (nw.map g cy al mx) h
 case fieldAddr s x f=>
  split
  · rename_i bV b off hu aa
    have ab:=al x
    rw[aa] at ab
    split
    · rename_i fd hf
      split
      · trivial
      · rename_i n xy aN
        exact .jK (PR ak hu hf aN (λe=>xy e) ab)
      · trivial
    · trivial
  · trivial
 case field t x f=>
  split
  · rename_i bV cs hu aa
    have ab:=al x
    rw[aa] at ab
    split
    · rename_i fd hf
      exact rK λv h=>PQ ak hu hf ab h
    · trivial
  · trivial
 case indexAddr t x i=>
  split
  · rename_i n e b off k hu aa af
    have ab:=al x
    rw[aa] at ab
    obtain⟨bh,mG⟩:=rL af (al i)
    split
    · rename_i sz hs
      split
      · rename_i aq;rw[mG];exact .jK (PT ak hu hs ab aq)
      · trivial
    · trivial
  · rename_i e b off n c k hu aa af
    have ab:=al x
    rw[aa] at ab
    obtain⟨bh,mG⟩:=rL af (al i)
    split
    · rename_i sz hs
      split
      · rename_i aq;rw[mG];exact .jK (PS ak hu hs ab aq)
      · trivial
    · trivial
  · trivial
 case index t x i=>
  split
  · rename_i n e cs k hu aa af
    have ab:=al x
    rw[aa] at ab
    obtain⟨bh,mG⟩:=rL af (al i)
    split
    · rename_i sz hs
      split
      · rename_i aq;rw[mG];exact rK λv h=>PU ak hu hs ab aq h
      · trivial
    · trivial
  · rename_i s k hu aa af
    have ab:=al x
    rw[aa] at ab
    obtain⟨bh,mG⟩:=rL af (al i)
    split
    · rename_i c ag;rw[mG];exact .jK (PV ak hu ab ag)
    · trivial
  · trivial
 case lookup t x i ok=>exact rK λv h=>QB ak (al x) (al i) h
 case mapUpdate t m k v=>exact At λaW h=>Ip ak (al m) (al k) (al v) h
 case mapEntry t m k=>exact ti λv aW h=>QD ak (al m) (al k) h
 case entryStore t m s v=>exact At λaW h=>QE ak (al m) (al s) (al v) h
 case range t x=>
  split
  · rename_i s hu aa
    have ab:=al x
    rw[aa] at ab
    exact .jK (QJ ak hu ab)
  · rename_i kt ji hu aa
    have ab:=al x
    rw[aa] at ab
    exact .jK (QK ak hu ab)
  · rename_i kt ji m hu aa
    have ab:=al x
    rw[aa] at ab
    split
    · rename_i es c xJ
      obtain⟨i,af,aC⟩:=ab
      obtain⟨ents,aA,ay⟩:=ak.rel _ _ i xJ af
      obtain⟨r1,r2⟩:=ak.alloc (.mapIter (some m) c [] c) (.mapIter (some i.bl) c #[] c) 0 ⟨rfl,i,ak.oc _ _ _ af,World.heap_alloc_new _ _⟩
      refine .jK ⟨_,_,.pointer (some ⟨w.heap.size,0,none⟩),?_,⟨_,gw _ _ _,rfl⟩,r1,r2⟩
      have iI:(getObj i.bl).run P w=.ok (.map ⟨ents⟩ c) w:=by simp[getObj,Sem.run,aA]
      rw[aC]
      simp only[Instr.range,Sem.run_bind,bX hu,Result.andThen_ok,iI,Sem.run_pure,run_newObj]
      rfl
    · trivial
  · trivial
 case next it isStr=>exact ti λv aW h=>QN ak (al it) h
 case entry it=>exact rK λv h=>QQ ak (al it) h
 case typeAssert x xT as ok=>
  have ab:=al x
  split
  · trivial
  · rename_i d dW hu aa
    obtain⟨t1,_,_⟩:=IC (P:=P) (w:=w) (xT:=xT) (ok:=ok) hu (λm e=>dW m (e▸rfl)) ab
    split
    · rename_i de
      split
      · rename_i z a2;exact .of_same ak (t1 z aa de a2)
      · trivial
    · trivial
  · rename_i d t v dW hu aa
    obtain⟨_,t2,t3⟩:=IC (P:=P) (w:=w) (xT:=xT) (ok:=ok) hu (λm e=>dW m (e▸rfl)) ab
    split
    · rename_i he;subst he;exact .of_same ak (t2 v aa)
    · rename_i cS
      split
      · rename_i de
        split
        · rename_i z a2;exact .of_same ak (t3 t v z aa cS de a2)
        · trivial
      · trivial
  · trivial
 case extract t i=>
  have ab:=al t
  split
  · rename_i vs aa
    rw[aa] at ab
    exact xP ak λv h=>QZ ab h
  · trivial
 case call c=>exact Re ak al c type
 case go=>trivial
 case defer c=>
  split
  · rename_i f hf
    split
    · rename_i k first aU aa
      have ab:=al f
      rw[aa] at ab
      obtain⟨bV,cs,_,ar,aG⟩:=IJ (P:=P) (w:=w) ab (Au al c.args)
      refine⟨_,?_,.call k _ cs _ ar⟩
      simp only[resolve,hf,Sem.run_bind]
      have Dw:(Deferred.ofValue (cy f) (c.args.map cy)).run P w=.ok {target:=.fn (.func k) ⟨cs⟩,args:=⟨bV++(c.args.map cy).toList⟩} w:=aG
      rw[Dw];rfl
    · trivial
  · trivial
 case panic x=>
  have ab:=al x
  split
  · rename_i t v aa
    rw[aa] at ab
    obtain⟨y,aS,aC⟩:=ab
    refine⟨rfl,.iface t y,?_,⟨y,rfl,aC⟩⟩
    rw[aS];rfl
  · trivial
 all_goals trivial
end
end aP
namespace aP
open Go
section
variable {P:Program} {μ:bq} {w:World}
def rM(P:Program)(μ:bq)(w:World)(s:Sem Value)(e:TypeId)(cs:List I)(val:Addr->Value):Prop:=
 ∃us:List Value,cf μ cs us/\s.run P w=.ok (val ⟨w.heap.size,0,none⟩) (w.alloc (.cells ⟨us⟩ e))
theorem IM(el:TypeId)(us:List Value):(_root_.Go.newRow el ⟨us⟩).run P w=.ok ⟨w.heap.size,0,none⟩ (w.alloc (.cells ⟨us⟩ el)):=by simp[_root_.Go.newRow]
theorem Rh{e:TypeId}{z:I}(a2:ei P e=some z):rM P μ w (Instr.alloc e true (.tuple #[])) e z.cells (λa=>.pointer (some a)):=by
 obtain⟨v,aC,rfl,ae⟩:=lS (w:=w) a2
 refine⟨v.cells.toList,(j9 μ v).cells ae,?_⟩
 simp[Instr.alloc,aC,newVar,_root_.Go.newRow]
theorem Ri{e:TypeId}{x:I}{v:Value}(aC:bm μ x v)(ae:x≠ .bad):rM P μ w (Instr.box e v) e x.cells (λa=>.pointer (some a)):=by
 refine⟨v.cells.toList,aC.cells ae,?_⟩
 simp[Instr.box,newVar,_root_.Go.newRow]
theorem Rj(g:Operand->I)(cy:Operand->Value)(al:∀x,bm μ (g x) (cy x)){t e:TypeId}{len sz:Nat}{z:I}(hu:P.underlying t=some (.slice e))(hs:dn P e=some sz)
  (a2:ei P e=some z)(hle:len*sz<=16777216)(nv:z.cells.length=sz)(parts:Array (Nat×Operand)){cs:List I}
  (hf:jT (λi=>some (i*sz,sz)) (if len*sz=0 then[] else fi len z.cells) (parts.toList.map λp=>(p.1,g p.2))=some cs):
  rM P μ w (Instr.buildSlice t len (parts.map λ(i,x)=>(i,cy x))) e cs (λa=>.slice (some a) len len):=by
 obtain⟨v,aC,rfl,ae⟩:=lS (w:=w) a2
 have ag:=(j9 μ v).cells ae
 have xr:¬(len*sz>2^24):=by omega
 have key:∀zero:Array Value,cf μ (if len*sz=0 then[] else fi len (n7 v).cells) ((Array.range (len*sz)).map (λi=>zero[i %zero.size]!)).toList->
   (∀r:Result Value,r=(match Instr.fill (λi=>some (i*sz,sz)) ((Array.range (len*sz)).map (λi=>zero[i %zero.size]!)) (parts.toList.map λp=>(p.1,cy p.2)) with
    |some cells=>do pure (.slice (some (<-_root_.Go.newRow e cells)) len len)
    |none=>stuck "buildSlice: a part of the wrong size" :Sem Value).run P w->(Instr.buildSlice t len (parts.map λ(i,x)=>(i,cy x))).run P w=r)->
   rM P μ w (Instr.buildSlice t len (parts.map λ(i,x)=>(i,cy x))) e cs (λa=>.slice (some a) len len):=by
  intro zero qn eX
  obtain⟨c',ab,ad⟩:=xo _ g cy al parts.toList _ cs _ qn hf
  refine⟨c',ad,eX _ ?_⟩
  rw[ab]
  simp[IM]
 by_cases h0:len*sz=0
 · refine key #[] (by rw[if_pos h0,h0];simp[cf]) λr aj=>?_
   rw[aj]
   simp only[Instr.buildSlice,Sem.run_bind,bX hu,Result.andThen_ok,run_sizeOf hs,if_neg xr,if_pos h0,Sem.run_pure,Array.toList_map]
   generalize Instr.fill _ _ _=F
   cases F<;>rfl
 · refine key v.cells (by rw[if_neg h0];exact xq ag nv len) λr aj=>?_
   rw[aj]
   simp only[Instr.buildSlice,Sem.run_bind,bX hu,Result.andThen_ok,run_sizeOf hs,if_neg xr,if_neg h0,Sem.run_pure,Array.toList_map,aC]
   generalize Instr.fill _ _ _=F
   cases F<;>rfl
theorem Rk{t e:TypeId}{l c:Nat}{i:TypeInfo}{z:I}{kl kc:IntKind}(hu:P.underlying t=some (.slice e))(af:P.info? e=some i)(a2:ei P e=some z)(ru:l<=c)
  (u3:c*(i.bytes+1)<=1099511627776)(nv:z.cells.length=i.size):
  rM P μ w (Instr.makeSlice t (.int kl l) (.int kc c)) e (if c*i.size=0 then[] else fi c z.cells) (λa=>.slice (some a) l c):=by
 obtain⟨v,aC,rfl,ae⟩:=lS (w:=w) a2
 have ag:=(j9 μ v).cells ae
 have ry:c<=1099511627776:=Nat.le_trans (Nat.le_mul_of_pos_right c (by omega)) u3
 have lT:i.bytes*c<=1099511627776:=by
  have:c*i.bytes<=c*(i.bytes+1):=Nat.mul_le_mul_left c (by omega)
  rw[Nat.mul_comm];omega
 have xt:∀n:Nat,n<=1099511627776->IntKind.wrap .i64 (n:Int)=(n:Int):=λn aN=>rv n (by omega)
 have jl:=xt l (by omega)
 have xu:=xt c ry
 have s5:¬((c:Int)<0||(i.bytes:Int)*(c:Int)>2^48||(l:Int)<0||(l:Int)>(c:Int))=true:=by
  have ab:((i.bytes:Int)*(c:Int))<=1099511627776:=by
   have h0:((i.bytes*c:Nat):Int)<=1099511627776:=by omega
   rw[Int.natCast_mul] at h0;exact h0
  have ad:(2:Int)^48=281474976710656:=by rfl
  generalize (i.bytes:Int)*(c:Int)=q at ab⊢
  rw[ad]
  simp only[Bool.or_eq_true,decide_eq_true_eq]
  omega
 have key:∀zero:Array Value,cf μ (if c*i.size=0 then[] else fi c (n7 v).cells) ((Array.range (c*i.size)).map (λj=>zero[j %zero.size]!)).toList->
   (Instr.makeSlice t (.int kl l) (.int kc c)).run P w=(do let a<-_root_.Go.newRow e ((Array.range (c*i.size)).map (λj=>zero[j %zero.size]!));pure (.slice (some a) l c):Sem Value).run P w->
   rM P μ w (Instr.makeSlice t (.int kl l) (.int kc c)) e (if c*i.size=0 then[] else fi c (n7 v).cells) (λa=>.slice (some a) l c):=by
  intro zero qn eX
  refine⟨_,qn,?_⟩
  rw[eX]
  simp only[Sem.run_bind,Sem.run_pure]
  have aD:=IM (P:=P) (w:=w) e ((Array.range (c*i.size)).map (λj=>zero[j %zero.size]!)).toList
  have:(⟨((Array.range (c*i.size)).map (λj=>zero[j %zero.size]!)).toList⟩:Array Value)=((Array.range (c*i.size)).map (λj=>zero[j %zero.size]!)):=rfl
  rw[this] at aD
  rw[aD];rfl
 have bx:(_root_.Go.sizeOf e).run P w=.ok i.size w:=by simp[_root_.Go.sizeOf,run_typeInfo af]
 by_cases h0:c*i.size=0
 · refine key #[] (by rw[if_pos h0,h0];simp[cf]) ?_
   simp only[Instr.makeSlice,Sem.run_bind,bX hu,Result.andThen_ok,asInt,asIntOf,Sem.run_pure,run_typeInfo af,jl,xu]
   rw[if_neg s5]
   simp[bx,h0]
 · refine key v.cells (by rw[if_neg h0];exact xq ag nv c) ?_
   simp only[Instr.makeSlice,Sem.run_bind,bX hu,Result.andThen_ok,asInt,asIntOf,Sem.run_pure,run_typeInfo af,jl,xu]
   rw[if_neg s5]
   simp[bx,h0,aC]
structure Laid(P:Program)(μ:bq)(w:World)(s:Sem Next)(b:Nat)(v:I)(cw:df)(u:Value)(X:Obj)(sz:Nat):Prop where
 run:s.run P w=.ok (.value u) (w.alloc X)
 val:∀aX,e8 μ aX->aX b=some ⟨w.heap.size,0,sz⟩->bm aX v u
 obj:∀aX w',e8 μ aX->w'.heap[w.heap.size]? =some X->ph aX cw ⟨w.heap.size,0,sz⟩ w'
 ro:cw.pj=false
theorem rM.laid{s:Sem Value}{e:TypeId}{cs:List I}{val:Addr->Value}(h:rM P μ w s e cs val){b:Nat}{v:I}(aC:∀aX sz,aX b=some ⟨w.heap.size,0,sz⟩->bm aX v (val ⟨w.heap.size,0,none⟩)):
  ∃u X sz,Laid P μ w (do pure (.value (<-s))) b v (.cells cs e .own 0 0) u X sz:=by
 obtain⟨us,ab,ad⟩:=h
 refine⟨_,.cells ⟨us⟩ e,us.length,by simp[ad],λaX _ hm=>aC aX _ hm,λaX w' hle bu=>?_,rfl⟩
 exact⟨⟨us⟩,0,0,bu,λj v aJ=>by
  obtain⟨u,hu,aj⟩:=ab.get aJ
  exact⟨u,by simpa using hu,aj.mono hle⟩,by simp,rfl,ab.length.symm,rfl,rfl⟩
theorem Rl(o:Oper){g:Operand->I}{cy:Operand->Value}(al:∀x,bm μ (g x) (cy x)){b:Nat}{v:I}{cw:df}(h:j8 P o.op g b=some (v,cw)):
  ∃u X sz,Laid P μ w (execOp cy o) b v cw u X sz:=by
 obtain⟨dst,op,type,pos,after,guard⟩:=o
 cases op<;>simp only[j8] at h<;>try (cases h;done)
 case alloc e=>
  split at h
  · rename_i z a2
    split at h
    · cases h
      exact(Rh a2).laid λaX sz hm=>⟨_,hm,rfl⟩
    · cases h
  · cases h
 case box e x=>
  split at h
  · rename_i en
    cases h
    have ae:g x≠ .bad:=by intro e;rw[e] at en;simp[I.cells,I.cT] at en
    exact(Ri (al x) ae).laid λaX sz hm=>⟨_,hm,rfl⟩
  · cases h
 case buildSlice t len parts=>
  split at h
  · rename_i e hu
    split at h
    · rename_i sz z hs a2
      split at h
      · rename_i cs ag hf
        rw[Bool.and_eq_true,Nat.ble_eq,Nat.beq_eq] at ag
        split at h
        · cases h
          exact(Rj g cy al hu hs a2 ag.1 ag.2 parts hf).laid λaX sz hm=>⟨_,hm,rfl⟩
        · cases h
      · cases h
    · cases h
  · cases h
 case makeMap t r=>
  cases r with
  |some x=>cases h
  |none=>
   cases h
   exact⟨.map (some w.heap.size),.map #[] 0,0,rfl,λaX _ hm=>⟨_,hm,rfl⟩,λaX w' _ bu=>⟨[],bu,rfl⟩,rfl⟩
 case makeSlice t l c=>
  split at h
  · rename_i e oj c' hu aw ag
    obtain⟨kl,el⟩:=rL aw (al l)
    obtain⟨kc,xQ⟩:=rL ag (al c)
    split at h
    · rename_i i z af a2
      split at h
      · rename_i cs kx
        split at h
        · cases h
          rw[Bool.and_eq_true,Bool.and_eq_true,Nat.ble_eq,Nat.beq_eq,decide_eq_true_eq] at kx
          have:=(Rk (P:=P) (μ:=μ) (w:=w) (kl:=kl) (kc:=kc) hu af a2 kx.1.1 kx.1.2 kx.2).laid (b:=b) (v:=.slice b 0 oj (.exact c')) λaX sz hm=>⟨_,hm,rfl⟩
          simp only[execOp,el,xQ]
          exact this
        · cases h
      · cases h
    · cases h
  · cases h
end
end aP
namespace aP
open Go
def hn(P:Program)(μ:bq):Prop:=∀g,g<P.globals.size->∃i,μ g=some i/\i.bl=g/\i.base=0
theorem hn.mono{P:Program}{μ aX:bq}(h:hn P μ)(hle:e8 μ aX):hn P aX:=λg al=>let⟨i,ab,ad⟩:=h g al;⟨i,hle _ _ ab,ad⟩
def Ends(μ:bq)(H:J)(w:World):av->Ending->World->Prop
 |.ret v aW,e,w'=>∃aX u,e=.returned u/\bm aX v u/\bt aX aW w'/\cb μ H w aX aW w'
 |.b6 v aW,e,w'=>∃aX u,e=.panicked [{v:=u,recovered:=false}]/\bm aX v u/\bt aX aW w'/\cb μ H w aX aW w'
 |.fail _,_,_=>True
def av.k0:av->Bool
 |.fail _=>false
 |_=>true
def tj(P:Program)(f:FuncId)(vs:List Value)(w:World)(R:Ending->World->Prop):Prop:=
 (∃v w',(callFunc f ⟨vs⟩).run P w=.ok (.value v) w'/\R (.returned v) w')\/
 ((callFunc f ⟨vs⟩).run P w=.ok (.enter f ⟨vs⟩) w/\Calls P f ⟨vs⟩ w R)
def rN(P:Program)(m:Machine)(c:Frame)(cs:List Frame)(R:Ending->World->Prop):Prop:=
 ∃e w',R e w'/\match e with
  |.returned v=>Steps P m (lone (c.finish v) cs w')
  |.panicked chain=>Steps P m (lone (c.raise chain) cs w')
  |.outgrown=>False
def IN(P:Program)(l:Nat)(vs:List Value)(w:World)(R:Ending->World->Prop):Prop:=
 ∃f tmps assign body,(Instr.yield l ⟨vs⟩).run P w=.ok (.round l f tmps assign body) w/\∀c cs,rN P (lone (Frame.round l f tmps assign body .normal) (c::cs) w) c cs R
structure jq(P:Program)(call:aI->List I->J->av):Prop where
 fn:∀f args H,(call (.fn f) args H).k0=true->∀μ w (vs:List Value),bt μ H w->hn P μ->cf μ args vs->tj P f vs w (Ends μ H w (call (.fn f) args H))
 dh:∀l args H,(call (.dh l) args H).k0=true->∀μ w i (vs:List Value),bt μ H w->hn P μ->μ l=some i->cf μ args vs->IN P i.bl vs w (Ends μ H w (call (.dh l) args H))
theorem rN.of_steps{P:Program}{m aZ:Machine}{c:Frame}{cs:List Frame}{R:Ending->World->Prop}(h:Steps P m aZ)(an:rN P aZ c cs R):rN P m c cs R:=by
 obtain⟨e,w',aj,hs⟩:=an
 refine⟨e,w',aj,?_⟩
 cases e with
 |returned v=>exact h.trans hs
 |panicked u_=>exact h.trans hs
 |outgrown=>exact hs.elim
theorem IP{P:Program}{f:FuncId}{args:Array Value}{w:World}{R:Ending->World->Prop}(dP:∀w',¬R .outgrown w')(h:Calls P f args w R)(c:Frame)(cs:List Frame):
  rN P (lone (Frame.enter P f args .normal) (c::cs) w) c cs R:=by
 obtain⟨e,w',c7,aj,ag,_,aw⟩:=h (c::cs)
 refine⟨e,w',aj,?_⟩
 cases e with
 |returned v=>exact Steps.trans ag (.one (step_leave_returned aw))
 |panicked u_=>exact Steps.trans ag (.one (step_leave_panicked aw))
 |outgrown=>exact(dP _ aj).elim
def hD(μ:bq)(kind:CallKind)(cs0:List Frame):bF->List Frame->Prop
 |.none,cs=>cs=cs0/\∀c7:Frame,c7.kind=kind->tryRecover c7 cs0=none
 |.act v,cs=>cs=cs0/\kind=.deferred/\∃c rest u,cs0=c::rest/\c.mode=.panicking [{v:=u,recovered:=false}]/\bm μ v u
 |.done v,cs=>kind=.deferred/\∃c rest u,cs0=c::rest/\c.mode=.panicking [{v:=u,recovered:=false}]/\bm μ v u/\cs={c with mode:=.panicking [{v:=u,recovered:=true}]}::rest
theorem hD.mono{μ aX:bq}(hle:e8 μ aX){kind:CallKind}{cs0 cs:List Frame}{q:bF}(h:hD μ kind cs0 q cs):hD aX kind cs0 q cs:=by
 cases q with
 |none=>exact h
 |act v=>obtain⟨ab,ad,c,rest,u,ar,aG,bJ⟩:=h;exact⟨ab,ad,c,rest,u,ar,aG,bJ.mono hle⟩
 |done v=>obtain⟨ab,c,rest,u,ar,aG,bJ,cu⟩:=h;exact⟨ab,c,rest,u,ar,aG,bJ.mono hle,cu⟩
section
variable {P:Program} {μ:bq} {H:J} {w:World}
theorem Av{b:Frame}{a:Act}{ops:Array Oper}{i:Nat}{rest:List Nat}{k:List Item}{cs:List Frame}{s:Sem Next}
  (ct:stepG P true {frame:=b.atR a (.inRegion ops (i::rest)::k),callers:=cs,status:=.running,dying:=none} w=stepG.apply P true (b.atR a (.inRegion ops (i::rest)::k)) cs none s w):
  (∀v w',s.run P w=.ok (.value v) w'->Steps P (lone (b.atR a (.inRegion ops (i::rest)::k)) cs w) (lone ((b.atR a (.inRegion ops (i::rest)::k)).finish v) cs w'))/\
  (∀w',s.run P w=.ok .skip w'->Steps P (lone (b.atR a (.inRegion ops (i::rest)::k)) cs w) (lone ((b.atR a (.inRegion ops (i::rest)::k)).finish undef) cs w'))/\
  (∀u w',s.run P w=.halt (.panic u) w'->Steps P (lone (b.atR a (.inRegion ops (i::rest)::k)) cs w) (lone ((b.atR a (.inRegion ops (i::rest)::k)).raise [{v:=u,recovered:=false}]) cs w'))/\
  (∀d w',s.run P w=.ok (.defer d) w'->Steps P (lone (b.atR a (.inRegion ops (i::rest)::k)) cs w) (lone (b.atR ({a with defers:=d::a.defers}.put ((ops[i]?).bind (·.dst)) undef) (.inRegion ops rest::k)) cs w'))/\
  (∀f args w',s.run P w=.ok (.enter f args) w'->Steps P (lone (b.atR a (.inRegion ops (i::rest)::k)) cs w) (lone (Frame.enter P f args .normal) (b.atR a (.inRegion ops (i::rest)::k)::cs) w'))/\
  (∀l f tmps assign body w',s.run P w=.ok (.round l f tmps assign body) w'->Steps P (lone (b.atR a (.inRegion ops (i::rest)::k)) cs w) (lone (Frame.round l f tmps assign body .normal) (b.atR a (.inRegion ops (i::rest)::k)::cs) w'))/\
  (b.roundOf=none->∀w',s.run P w=.ok .recover w'->∀v bO,tryRecover (b.atR a (.inRegion ops (i::rest)::k)) cs=some (v,bO)->Steps P (lone (b.atR a (.inRegion ops (i::rest)::k)) cs w) (lone ((b.atR a (.inRegion ops (i::rest)::k)).finish v) bO w'))/\
  (b.roundOf=none->∀w',s.run P w=.ok .recover w'->tryRecover (b.atR a (.inRegion ops (i::rest)::k)) cs=none->Steps P (lone (b.atR a (.inRegion ops (i::rest)::k)) cs w) (lone ((b.atR a (.inRegion ops (i::rest)::k)).finish .nilIface) cs w')):=by
 refine⟨λv w' aj=>.one (step_lone_go ?_),λw' aj=>.one (step_lone_go ?_),λu w' aj=>.one (step_lone_go ?_),λd w' aj=>.one (step_lone_go ?_),λf args w' aj=>.one (step_lone_go ?_),λl f tmps assign body w' aj=>.one (step_lone_go ?_),λae w' aj v bO ba=>.one (step_lone_go ?_),λae w' aj ba=>.one (step_lone_go ?_)⟩
 · rw[ct];simp[stepG.apply,aj]
 · rw[ct];simp[stepG.apply,aj]
 · rw[ct];simp[stepG.apply,aj]
 · rw[ct]
   have:=Frame.finish_atR b {a with defers:=d::a.defers} ops i rest k undef
   simp only[stepG.apply,Sem.runT_eq,aj,GStep.bare_after]
   exact congrArg (λc7=>GStep.go {frame:=c7,callers:=cs,status:=.running,dying:=none} w') this
 · rw[ct];simp[stepG.apply,aj,Frame.atR]
 · rw[ct];simp[stepG.apply,aj,Frame.atR]
 · rw[ct]
   have j_:(b.atR a (.inRegion ops (i::rest)::k)).roundOf=none:=ae
   simp[stepG.apply,aj,j_,ba]
 · rw[ct]
   have j_:(b.atR a (.inRegion ops (i::rest)::k)).roundOf=none:=ae
   simp[stepG.apply,aj,j_,ba]
def Dx(P:Program)(μ:bq)(H:J)(w:World)(b:Frame)(a:Act)(ops:Array Oper)(o:Oper)(i:Nat)(rest:List Nat)(k:List Item)(cs0 cs:List Frame):xb->Prop
 |.ok v bd bk aW=>∃aX w' u tk bO,Steps P (lone (b.atR a (.inRegion ops (i::rest)::k)) cs w) (lone (b.atR {tmps:=(a.put o.dst u).tmps,defers:=tk} (.inRegion ops rest::k)) bO w')/\
   bm aX v u/\bt aX aW w'/\cb μ H w aX aW w'/\gq aX bd tk/\hD aX b.kind cs0 bk bO
 |.b6 v bd bk aW=>∃aX w' u,Steps P (lone (b.atR a (.inRegion ops (i::rest)::k)) cs w) (lone {b.atR a (.inRegion ops (i::rest)::k) with mode:=.panicking [{v:=u,recovered:=false}]} cs w')/\
   bm aX v u/\bt aX aW w'/\cb μ H w aX aW w'/\gq aX bd a.defers/\hD aX b.kind cs0 bk cs
 |.fail _=>True
theorem put_defers(a:Act)(dst:Option Tmp)(u:Value):(a.put dst u).defers=a.defers:=by cases dst<;>rfl
theorem Aw(a:Act)(dst:Option Tmp)(u:Value):a.put dst u={tmps:=(a.put dst u).tmps,defers:=a.defers}:=by cases dst<;>rfl
theorem Rm(a:Act)(ds:List Deferred)(dst:Option Tmp)(u:Value):({a with defers:=ds}:Act).put dst u={tmps:=(a.put dst u).tmps,defers:=ds}:=by cases dst<;>rfl
theorem IQ{b:Frame}{a:Act}{ops:Array Oper}{o:Oper}{i:Nat}{rest:List Nat}{k:List Item}{cs0 cs:List Frame}(a4:ops[i]? =some o){d:List bU}{q:bF}
  (ao:gq μ d a.defers)(aM:hD μ b.kind cs0 q cs){r:av}{m:Machine}(hs:Steps P (lone (b.atR a (.inRegion ops (i::rest)::k)) cs w) m)
  (aw:rN P m (b.atR a (.inRegion ops (i::rest)::k)) cs (Ends μ H w r)):Dx P μ H w b a ops o i rest k cs0 cs (xc d q r):=by
 obtain⟨e,w',aj,ct⟩:=aw
 cases r with
 |ret v aW=>
  obtain⟨aX,u,rfl,ab,ad,ar⟩:=aj
  refine⟨aX,w',u,a.defers,cs,hs.trans ?_,ab,ad,ar,ao.mono ar.le,aM.mono ar.le⟩
  have:(b.atR a (.inRegion ops (i::rest)::k)).finish u=b.atR {tmps:=(a.put o.dst u).tmps,defers:=a.defers} (.inRegion ops rest::k):=by
   rw[Frame.finish_atR,a4,<-Aw];rfl
  rw[<-this];exact ct
 |b6 v aW=>
  obtain⟨aX,u,rfl,ab,ad,ar⟩:=aj
  exact⟨aX,w',u,hs.trans ct,ab,ad,ar,ao.mono ar.le,aM.mono ar.le⟩
 |fail w=>trivial
theorem Ax{r:av}(h:r.k0=false):∃s,r=.fail s:=by
 cases r with
 |fail s=>exact⟨s,rfl⟩
 |_=>cases h
theorem Ay{r:av}(al:r.k0=true):∀w',¬Ends μ H w r .outgrown w':=by
 intro w' h
 cases r with
 |ret v aW=>obtain⟨_,_,e,_⟩:=h;cases e
 |b6 v aW=>obtain⟨_,_,e,_⟩:=h;cases e
 |fail s=>cases al
theorem IS{call:aI->List I->J->av}(ag:jq P call)(ak:bt μ H w)(mH:hn P μ){b:Frame}{a:Act}{ops:Array Oper}{o:Oper}{i:Nat}{rest:List Nat}{k:List Item}{cs0 cs:List Frame}
  (a4:ops[i]? =some o){gd:Option (I×Bool)}(gz:∀px,ew gd=some px->Region.wanted o (yielded ops a.tmps)=px){g:Operand->I}(al:∀x,bm μ (g x) (a.eval x)){d:List bU}{q:bF}
  (ao:gq μ d a.defers)(aM:hD μ b.kind cs0 q cs){inR:Bool}(fj:inR=b.roundOf.isSome):Dx P μ H w b a ops o i rest k cs0 cs (dO P inR call gd o g d q H):=by
 unfold dO
 have mI:∀u,(b.atR a (.inRegion ops (i::rest)::k)).finish u=b.atR {tmps:=(a.put o.dst u).tmps,defers:=a.defers} (.inRegion ops rest::k):=λu=>by
  rw[Frame.finish_atR,a4,<-Aw];rfl
 split
 · trivial
 · rename_i hw
   have xR:=gz _ hw
   refine⟨μ,w,undef,a.defers,cs,?_,⟨[],rfl,rfl⟩,ak,cb.refl _ _ _,ao,aM⟩
   have hs:=stepR_op_skip (P:=P) (b:=b) (a:=a) (k:=k) (cs:=cs) (w:=w) (ops:=ops) (i:=i) (rest:=rest) (by simp[a4,xR])
   rw[a4] at hs
   have he:a.put ((some o).bind (·.dst)) undef={tmps:=(a.put o.dst undef).tmps,defers:=a.defers}:=Aw a o.dst undef
   rw[he] at hs
   exact .one hs
 · rename_i hw
   have Dy:=gz _ hw
   have ct:=stepGR_op (P:=P) (b:=b) (a:=a) (k:=k) (cs:=cs) (w:=w) (rest:=rest) a4 Dy
   have ft:=Rg (P:=P) ak o al
   by_cases IT:b.roundOf.isSome=true/\∃c,o.op=.defer c
   · obtain⟨aj,c,Rn⟩:=IT
     have:(∃x,cH P o g H=.ll x)\/∃s,cH P o g H=.fail s:=by
      unfold cH
      rw[Rn]
      simp only
      split
      · split
        · exact .inl ⟨_,rfl⟩
        · exact .inr ⟨_,rfl⟩
      · exact .inr ⟨_,rfl⟩
     rcases this with⟨x,e⟩|⟨s,e⟩
     · rw[e];simp only[fj,aj,if_true];trivial
     · rw[e];trivial
   · have tl:o.semAt b.roundOf a.eval=execOp a.eval o:=by
       cases hi:b.roundOf with
       |none=>rfl
       |some l=>exact Oper.semAt_eq _ _ _ λc e=>IT ⟨by rw[hi];rfl,c,e⟩
     rw[tl] at ct
     obtain⟨ai,ax,aB,bE,bS,dC,eY,fZ⟩:=Av ct
     cases fm:cH P o g H with
     |val v aW=>
      rw[fm] at ft
      obtain⟨aX,w',u,aj,ab,ad,ar⟩:=ft
      refine⟨aX,w',u,a.defers,cs,?_,ab,ad,ar,ao.mono ar.le,aM.mono ar.le⟩
      rw[<-mI]
      rcases aj with aj|⟨rfl,aj⟩
      · exact ai _ _ aj
      · exact ax _ aj
     |b6 v aW=>
      rw[fm] at ft
      obtain⟨rfl,u,aj,ab⟩:=ft
      exact⟨μ,w,u,aB _ _ aj,ab,ak,cb.refl _ _ _,ao,aM⟩
     |call f args aW=>
      rw[fm] at ft
      obtain⟨rfl,vs,aj,ab⟩:=ft
      simp only
      cases b7:(call (.fn f) args aW).k0 with
      |false=>obtain⟨s,hs⟩:=Ax b7;rw[hs];trivial
      |true=>
       rcases ag.fn f args aW b7 μ w vs ak mH ab with⟨v,w',a8,a6⟩|⟨a8,a6⟩
       · rw[<-aj] at a8
         have hs:=ai _ _ a8
         cases IU:call (.fn f) args aW with
         |fail s=>trivial
         |ret v' aR=>
          rw[IU] at a6
          obtain⟨aX,u,e,ad,ar,aG⟩:=a6
          cases e
          exact⟨aX,w',_,a.defers,cs,by rw[<-mI];exact hs,ad,ar,aG,ao.mono aG.le,aM.mono aG.le⟩
         |b6 v' aR=>
          rw[IU] at a6
          obtain⟨aX,u,e,ad,ar,aG⟩:=a6
          cases e
       · rw[<-aj] at a8
         have hs:=bS _ _ _ a8
         exact IQ a4 ao aM hs (IP (Ay b7) a6 _ _)
     |dh l args aW=>
      rw[fm] at ft
      obtain⟨rfl,eo,vs,aw,aj,ab⟩:=ft
      simp only
      cases b7:(call (.dh l) args aW).k0 with
      |false=>obtain⟨s,hs⟩:=Ax b7;rw[hs];trivial
      |true=>
       obtain⟨f,tmps,as,cn,a8,a6⟩:=ag.dh l args aW b7 μ w eo vs ak mH aw ab
       rw[<-aj] at a8
       have hs:=dC _ _ _ _ _ _ a8
       exact IQ a4 ao aM hs (a6 _ _)
     |ll x=>
      rw[fm] at ft
      obtain⟨rJ,aj,ab⟩:=ft
      simp only
      split
      · trivial
      · refine⟨μ,w,undef,rJ::a.defers,cs,?_,⟨[],rfl,rfl⟩,ak,cb.refl _ _ _,⟨_,_,rfl,ab,ao⟩,aM⟩
        have hs:=bE _ _ aj
        rw[a4] at hs
        have he:({a with defers:=rJ::a.defers}:Act).put ((some o).bind (·.dst)) undef={tmps:=(a.put o.dst undef).tmps,defers:=rJ::a.defers}:=Rm a _ o.dst undef
        rw[he] at hs
        exact hs
     |sS=>
      rw[fm] at ft
      have aj:(execOp a.eval o).run P w=.ok .recover w:=ft
      simp only
      split
      · trivial
      · rename_i Ag
        have xS:b.roundOf=none:=by
         cases hi:b.roundOf with
         |none=>rfl
         |some l=>rw[hi] at fj;exact absurd fj Ag
        have aq:(b.atR a (.inRegion ops (i::rest)::k)).kind=b.kind:=rfl
        split
        · obtain⟨rfl,ba⟩:=aM
          refine⟨μ,w,.nilIface,a.defers,cs,?_,rfl,ak,cb.refl _ _ _,ao,⟨rfl,ba⟩⟩
          rw[<-mI]
          exact fZ xS _ aj (ba _ aq)
        · have tm:=aM
          obtain⟨mJ,c,rs,u,aA,ay,bw,rfl⟩:=aM
          refine⟨μ,w,.nilIface,a.defers,_,?_,rfl,ak,cb.refl _ _ _,ao,tm⟩
          rw[<-mI]
          refine fZ xS _ aj ?_
          have xU:(b.atR a (.inRegion ops (i::rest)::k)).kind=.deferred:=aq.trans mJ
          simp only[tryRecover,xU]
        · obtain⟨rfl,mJ,c,rs,u,aA,ay,bw⟩:=aM
          subst aA
          refine⟨μ,w,u,a.defers,{c with mode:=.panicking [{v:=u,recovered:=true}]}::rs,?_,bw,ak,cb.refl _ _ _,ao,⟨mJ,c,rs,u,rfl,ay,bw,rfl⟩⟩
          rw[<-mI]
          refine eY xS _ aj _ _ ?_
          have xU:(b.atR a (.inRegion ops (i::rest)::k)).kind=.deferred:=aq.trans mJ
          simp only[tryRecover,xU,ay]
     |fail s=>trivial
end
end aP
