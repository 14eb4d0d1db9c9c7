/-
  PROVED HERE: contracts of functions (Sxb). No condition beside each statement's own.
-/
import Derived.Test.YtokgebablggccaaGreatDoorSxa
set_option linter.unusedVariables false
set_option linter.unusedSimpArgs false
set_option maxRecDepth 100000
namespace aJ
open Go
variable {B b f n t x:Nat}{Q:cl->bD->Prop}{a:TypeId}{args:List aa}{av:Env}{cv st:bD}{e:cl}{h:I}{src v:aa}
section
variable {D:Type}
def eK(enc:D->List aa)(bN:List D):List aa:=bN.flatMap enc
theorem QA{enc:D->List aa}{w:Nat}(hw:∀d,(enc d).length=w):∀bN:List D,(eK enc bN).length=bN.length*w
 |[]=>by simp[eK]
 |d::bN=>by
  have:=QA hw bN
  unfold eK at this⊢
  rw[List.flatMap_cons,List.length_append,hw,this,List.length_cons,Nat.add_mul];omega
theorem Z7(enc:D->List aa)(l m:List D):eK enc (l++m)=eK enc l++eK enc m:=by simp[eK]
theorem yw(enc:D->List aa)(d:D)(m:List D):eK enc (d::m)=enc d++eK enc m:=rfl
section
variable {enc:D->List aa} {w:Nat}
theorem Gn(ak:∀d,(enc d).all aa.dJ=true):∀bN:List D,(eK enc bN).all aa.dJ=true
 |[]=>rfl
 |d::bN=>by rw[yw,List.all_append,ak,Gn ak bN];rfl
end
end
structure qf{D:Type}(P:Program)(enc:D->List aa)(w:Nat)(el sT:TypeId):Prop where
 hu:P.underlying sT=some (.slice el)
 hF:uk P (some sT)=true
 info:∃i,P.info? el=some i/\i.size=w/\i.bytes<=1000
 zero:∃z,gu P el=some z/\z.cells.length=w
 size:eg P el=some w
 len:∀d,(enc d).length=w
 cell:∀d,(enc d).all aa.dJ=true
 pos:0<w
section
variable {D:Type} {P:Program} {enc:D->List aa} {w:Nat} {el sT:TypeId}
def iH(enc:D->List aa)(w:Nat)(el:TypeId)(B:Nat)(h:I)(v:aa)(bN:List D):Prop:=
 (v=.ao/\bN=[])\/∃p,v=.slice p 0 bN.length (.aX w)/\0<bN.length/\h.get p=some (.cells (eK enc bN) el .aX 0 0)/\B<=p/\p<h.n
theorem iH.le{kO:Nat}{bN:List D}(eU:B<=kO):iH enc w el kO h v bN->iH enc w el B h v bN
 |.inl h=>.inl h
 |.inr ⟨p,J,ae,aq,aQ,bj⟩=>.inr ⟨p,J,ae,aq,Nat.le_trans eU aQ,bj⟩
theorem iH.ne{bN:List D}(bg:iH enc w el B h v bN){c:Nat}{cs:List aa}{r_ lo up:Nat}{k:ff}(aB:h.get c=some (.cells cs r_ k lo up))(ai:k≠ .aX\/r_≠el):∀n cp,v≠ .slice c 0 n cp:=by
 intro n cp e
 rcases bg with⟨rfl,_⟩|⟨p,rfl,ae,aq,aQ,bj⟩
 · cases e
 · cases e
   rw[aB] at aq
   cases aq
   rcases ai with h|h<;>exact h rfl
theorem iH.cx{ay:I}{bN:List D}(bg:iH enc w el B h v bN)(aT:h.n<=ay.n)(ai:∀p,v=.slice p 0 bN.length (.aX w)->p<h.n->ay.get p=h.get p):iH enc w el B ay v bN:=by
 rcases bg with bg|⟨q,rfl,ae,aq,aQ,bj⟩
 · exact .inl bg
 · exact .inr ⟨q,rfl,ae,(ai q rfl bj).trans aq,aQ,by omega⟩
theorem iH.Kg{bN:List D}(bg:iH enc w el B h v bN){c:Nat}{cs:List aa}{r_:Nat}{o:Option b5}(ak:h.get c=some (.cells cs r_ .own 0 0)):iH enc w el B (h.set c o) v bN:=by
 rcases bg with bg|⟨p,J,ae,aq,aQ,bj⟩
 · exact .inl bg
 · exact .inr ⟨p,J,ae,cr (λe=>by subst e;rw[ak] at aq;cases aq) aq,aQ,by simpa using bj⟩
theorem iH.sound{bN:List D}(bg:iH enc w el B h v bN):aa.sound v=true:=by
 rcases bg with⟨rfl,_⟩|⟨p,rfl,_⟩<;>rfl
theorem Z8(T:qf P enc w el sT)(ah:jr h w src=some (0,[])):fi P h sT (some sT) .ao src=some (.ao,h):=by
 obtain⟨i,hi,bQ,_⟩:=T.info
 obtain⟨z,bm,_⟩:=T.zero
 simp only[fi,T.hu,T.hF,hi,bm,bQ,ah]
theorem Gp(T:qf P enc w el sT){es:List D}(ah:jr h w src=some (es.length,eK enc es))(h0:0<es.length)(aA:es.length<=1000000):fi P h sT (some sT) .ao src=some (.slice h.n 0 es.length (.aX w),h.push (.cells (eK enc es) el .aX 0 0)):=by
 obtain⟨i,hi,bQ,x_⟩:=T.info
 obtain⟨z,bm,pc⟩:=T.zero
 obtain⟨k,ai⟩:∃k,es.length=k+1:=⟨es.length-1,by omega⟩
 have hx:mX (k+1) i.bytes=true:=by
  unfold mX
  have J:(4*(k+1)+2048)*(i.bytes+1)<=5000000*1001:=Nat.mul_le_mul (by omega) (by omega)
  simp;omega
 have ts:r1 h el i.bytes w (k+1) z (eK enc es) 0=some (.slice h.n 0 (k+1) (.aX w),h.push (.cells (eK enc es) el .aX 0 0)):=
  ys hx (by rw[pc];simp) (Gn T.cell es)
 rw[ai] at ah⊢
 simp only[fi,T.hu,T.hF,hi,bm,bQ,ah,ts]
theorem Gq(T:qf P enc w el sT){p:Nat}{bN es:List D}(aB:h.get p=some (.cells (eK enc bN) el .aX 0 0))(ah:jr h w src=some (es.length,eK enc es))(h0:0<es.length)(aA:bN.length+es.length<=1000000):
  fi P h sT (some sT) (.slice p 0 bN.length (.aX w)) src=some (.slice h.n 0 (bN.length+es.length) (.aX w),(h.set p none).push (.cells (eK enc (bN++es)) el .aX 0 0)):=by
 obtain⟨i,hi,bQ,x_⟩:=T.info
 obtain⟨z,bm,pc⟩:=T.zero
 obtain⟨k,ai⟩:∃k,es.length=k+1:=⟨es.length-1,by omega⟩
 have hx:mX (bN.length+(k+1)) i.bytes=true:=by
  unfold mX
  have J:(4*(bN.length+(k+1))+2048)*(i.bytes+1)<=5000000*1001:=Nat.mul_le_mul (by omega) (by omega)
  simp;omega
 have ts:r1 (h.set p none) el i.bytes w (bN.length+(k+1)) z (eK enc bN++eK enc es) (0-0)=some (.slice (h.set p none).n 0 (bN.length+(k+1)) (.aX w),(h.set p none).push (.cells (eK enc bN++eK enc es) el .aX 0 0)):=
  ys hx (by rw[pc];simp) (by rw[List.all_append,Gn T.cell,Gn T.cell];rfl)
 have jH:(Nat.beq w w&&Nat.blt 0 w)=true:=by
  have:=T.pos
  simp[Nat.blt_eq];omega
 have hlen:=QA T.len bN
 have qd:Nat.ble (0+(bN.length+(k+1))*w) (eK enc bN).length=false:=by
  cases ab:Nat.ble (0+(bN.length+(k+1))*w) (eK enc bN).length with
  |false=>rfl
  |true=>
   have:=Nat.le_of_ble_eq_true ab
   rw[hlen,Nat.add_mul,Nat.add_mul] at this
   have:=T.pos
   omega
 have m2:(Nat.ble 0 (0+bN.length*w)&&Nat.beq el el)=true:=by simp
 have yx:aJ.loadCells h p 0 (bN.length*w)=some (eK enc bN):=by
  have:=C1 (h:=h) (xs:=eK enc bN) (rest:=[]) (by rw[List.append_nil];exact aB)
  rwa [hlen] at this
 rw[ai] at ah⊢
 rw[Z7]
 simp only[fi,T.hu,T.hF,hi,bm,bQ,ah,jH,aB,qd,m2,yx,ts]
 rfl
theorem Z9(T:qf P enc w el sT){bN es:List D}(bg:iH enc w el B h v bN)(eU:B<=h.n)(ah:jr h w src=some (es.length,eK enc es))(aA:bN.length+es.length<=1000000):
  ∃v' ay,fi P h sT (some sT) v src=some (v',ay)/\iH enc w el B ay v' (bN++es)/\Ext B h ay/\h.n<=ay.n/\∀c,c<h.n->(∀n cp,v≠ .slice c 0 n cp)->ay.get c=h.get c:=by
 by_cases h0:es.length=0
 · have he:es=[]:=List.eq_nil_of_length_eq_zero h0
   subst he
   refine⟨v,h,?_,by rw[List.append_nil];exact bg,Ext.refl _ _,Nat.le_refl _,λ_ _ _=>rfl⟩
   rcases bg with⟨rfl,_⟩|⟨p,rfl,ae,aq,aQ,bj⟩
   · exact Z8 T ah
   · obtain⟨i,hi,bQ,x_⟩:=T.info
     obtain⟨z,bm,pc⟩:=T.zero
     have jH:(Nat.beq w w&&Nat.blt 0 w)=true:=by
      have:=T.pos
      simp[Nat.blt_eq];omega
     have e3:jr h w src=some (0,eK enc []):=ah
     simp only[fi,T.hu,T.hF,hi,bm,bQ,e3,jH]
 · rcases bg with⟨rfl,rfl⟩|⟨p,rfl,ae,aq,aQ,bj⟩
   · rw[List.nil_append]
     exact⟨_,_,Gp T ah (by omega) (by simp at aA;omega),.inr ⟨h.n,rfl,by omega,dx rfl,eU,by simp⟩,Ext.k4 eU (Ext.refl _ _),by simp,λc ak _=>gN ak rfl⟩
   · refine⟨_,_,Gq T aq ah (by omega) aA,.inr ⟨h.n,by rw[List.length_append],by rw[List.length_append];omega,by exact dx (by simp),eU,by simp⟩,?_,by simp,λc ak hw=>?_⟩
     · exact Ext.k4 (by simp;omega) (Ext.ix aQ (Ext.refl _ _))
     · exact gN (by simpa using ak) (cr (λe=>hw _ _ (by rw[e])) rfl)
theorem QB(T:qf P enc w el sT)(g:I)(t:TypeId)(d:D):jr (g.push (.cells (enc d) t .own 0 0)) w (.slice g.n 0 1 (.exact 1))=some ([d].length,eK enc [d]):=by
 have e:takeN (1*w) (lC 0 (enc d))=some (enc d):=by
  rw[Nat.one_mul]
  have:=Z0 (enc d) [] w (T.len d)
  rw[List.append_nil] at this
  exact this
 have:aJ.loadCells (g.push (.cells (enc d) t .own 0 0)) g.n 0 (1*w)=some (enc d):=rk (dx rfl) e
 simp only[jr,this]
 simp[eK]
end
theorem AG{w:Nat}(h:x<2^w):(BitVec.ofInt w (Int.ofNat x)).toNat=x:=by
 show(BitVec.ofInt w ((x:Nat):Int)).toNat=x
 rw[BitVec.ofInt_natCast,BitVec.toNat_ofNat,Nat.mod_eq_of_lt h]
theorem wrap_i32(n:Nat)(h:n<2147483648):IntKind.wrap .i32 (n:Int)=(n:Int):=by
 have aE:(2:Int)^32=4294967296:=by rfl
 have br:(2:Int)^31=2147483648:=by rfl
 have e:((n:Int) %4294967296)=n:=by omega
 have aH:decide ((n:Int)>=2147483648)=false:=by simp;omega
 simp only[IntKind.wrap,IntKind.bits,IntKind.signed,aE,e,Bool.true_and,Nat.add_one_sub_one,br,Nat.reduceSub]
 have:¬((n:Int)>=2147483648):=by omega
 first
  |simp[this]
  |(simp only[aH,Bool.false_eq_true,if_false])
theorem wH(j:Nat)(ab:x<256)(aL:j<=8):arith BinOp.and IntKind.u8 (Int.ofNat x) (Int.ofNat (2^j-1))=some (aa.int IntKind.u8 (Int.ofNat (x %2^j))):=by
 have a3:2^j<=2^8:=Nat.pow_le_pow_right (by omega) aL
 have J:=AG (w:=8) (x:=x) (by omega)
 have ae:=AG (w:=8) (x:=2^j-1) (by have:=Nat.two_pow_pos j;omega)
 have aq:=wrap_u8 (x %2^j)
 have aQ:x %2^j %256=x %2^j:=Nat.mod_eq_of_lt (by have:=Nat.mod_le x (2^j);omega)
 rw[aQ] at aq
 show some (aa.int IntKind.u8 (IntKind.wrap .u8 (((BitVec.ofInt 8 (Int.ofNat x)&&&BitVec.ofInt 8 (Int.ofNat (2^j-1))).toNat:Nat):Int)))=_
 rw[BitVec.toNat_and,J,ae,Nat.and_two_pow_sub_one_eq_mod,aq];rfl
theorem QC{q j:Nat}(ag:b<2^j):q*2^j|||b=q*2^j+b:=by
 have:=Nat.shiftLeft_add_eq_or_of_lt (a:=q) ag
 rw[Nat.shiftLeft_eq] at this
 exact this.symm
theorem Z_(j:Nat){q:Nat}(ag:b<2^j)(h:q*2^j+b<256):arith BinOp.or IntKind.u8 (Int.ofNat (q*2^j)) (Int.ofNat b)=some (aa.int IntKind.u8 (Int.ofNat (q*2^j+b))):=by
 have J:=AG (w:=8) (x:=q*2^j) (by omega)
 have ae:=AG (w:=8) (x:=b) (by omega)
 have aq:=wrap_u8 (q*2^j+b)
 rw[Nat.mod_eq_of_lt h] at aq
 show some (aa.int IntKind.u8 (IntKind.wrap .u8 (((BitVec.ofInt 8 (Int.ofNat (q*2^j))|||BitVec.ofInt 8 (Int.ofNat b)).toNat:Nat):Int)))=_
 rw[BitVec.toNat_or,J,ae,QC ag,aq];rfl
theorem aaa(j:Nat){q:Nat}(ag:b<2^j)(h:q*2^j+b<2147483648):arith BinOp.or IntKind.i32 (Int.ofNat (q*2^j)) (Int.ofNat b)=some (aa.int IntKind.i32 (Int.ofNat (q*2^j+b))):=by
 have J:=AG (w:=32) (x:=q*2^j) (by omega)
 have ae:=AG (w:=32) (x:=b) (by omega)
 have aq:=wrap_i32 (q*2^j+b) h
 show some (aa.int IntKind.i32 (IntKind.wrap .i32 (((BitVec.ofInt 32 (Int.ofNat (q*2^j))|||BitVec.ofInt 32 (Int.ofNat b)).toNat:Nat):Int)))=_
 rw[BitVec.toNat_or,J,ae,QC ag,aq];rfl
theorem AH(j:Nat){p:Nat}(a3:p %2^j=0)(ag:b<2^j)(h:p+b<2147483648):arith BinOp.or IntKind.i32 (Int.ofNat p) (Int.ofNat b)=some (aa.int IntKind.i32 (Int.ofNat (p+b))):=by
 have e:p=p/2^j*2^j:=by
  have:=Nat.div_add_mod p (2^j)
  rw[a3,Nat.add_zero,Nat.mul_comm] at this
  exact this.symm
 rw[e] at h⊢
 exact aaa j ag h
theorem aab(j:Nat){p:Nat}(a3:p %2^j=0)(ag:b<2^j)(h:p+b<256):arith BinOp.or IntKind.u8 (Int.ofNat p) (Int.ofNat b)=some (aa.int IntKind.u8 (Int.ofNat (p+b))):=by
 have e:p=p/2^j*2^j:=by
  have:=Nat.div_add_mod p (2^j)
  rw[a3,Nat.add_zero,Nat.mul_comm] at this
  exact this.symm
 rw[e] at h⊢
 exact Z_ j ag h
theorem AI(j:Nat)(aL:j<=32)(h:x*2^j<2147483648):gv BinOp.shl IntKind.i32 (Int.ofNat x) (Int.ofNat j)=some (aa.int IntKind.i32 (Int.ofNat (x*2^j))):=by
 have aT:¬(Int.ofNat j<0):=by
  have aG:Int.ofNat j=(j:Int):=rfl
  rw[aG];omega
 have aG:(Int.ofNat j).toNat=j:=rfl
 have aE:min j IntKind.i32.bits=j:=by show min j 32=j;omega
 have br:Int.ofNat x*2^j=((x*2^j:Nat):Int):=by
  show((x:Nat):Int)*2^j=_
  norm_cast
 have aq:=wrap_i32 (x*2^j) h
 simp only[gv,if_neg aT,aG,aE,br,aq];rfl
theorem wI{P:Program}{b:TypeId}(a_:P.underlying a=some (.int .u8))(ag:P.underlying b=some (.int .i32))(aT:n<256):df P a b (.int .u8 (Int.ofNat n)) h=.val (.int .i32 (Int.ofNat n)) h:=
 AE a_ ag (wrap_i32 n (by omega))
theorem Gr{P:Program}{b:TypeId}(a_:P.underlying a=some (.int .i32))(ag:P.underlying b=some (.int .u8)):df P a b (.int .i32 (Int.ofNat n)) h=.val (.int .u8 (Int.ofNat (n %256))) h:=
 AE a_ ag (wrap_u8 n)
theorem wrap_u32(n:Nat)(h:n<4294967296):IntKind.wrap .u32 (n:Int)=(n:Int):=by
 have e:((n:Int) %4294967296)=n:=by omega
 have aE:(2:Int)^32=4294967296:=by rfl
 simp only[IntKind.wrap,IntKind.bits,IntKind.signed,aE,e,Bool.false_and,if_neg Bool.false_ne_true]
theorem QD{P:Program}{b:TypeId}(a_:P.underlying a=some (.int .i32))(ag:P.underlying b=some (.int .u32))(aT:n<4294967296):df P a b (.int .i32 (Int.ofNat n)) h=.val (.int .u32 (Int.ofNat n)) h:=
 AE a_ ag (wrap_u32 n aT)
theorem QE{P:Program}{b:TypeId}(a_:P.underlying a=some (.int .u8))(ag:P.underlying b=some (.int .i64))(aT:n<256):df P a b (.int .u8 (Int.ofNat n)) h=.val (.int .i64 (Int.ofNat n)) h:=
 AE a_ ag (r6 n (by omega))
section
variable {P:Program}
theorem aac{w s:List UInt8}{sT e:TypeId}{xT:Option TypeId}{i:TypeInfo}{z:aa}(eU:B<=h.n)(hu:P.underlying sT=some (.slice e))(hF:uk P xT=true)(hi:P.info? e=some i)(bQ:i.size=1)(bm:gu P e=some z)(pc:z.cells.length=1)
  (tc:mX (w.length+s.length) i.bytes=true)(m8:jr h 1 src=some (s.length,cC s))(aj:m7 B e h v w):
  ∃v' ay,fi P h sT xT v src=some (v',ay)/\m7 B e ay v' (w++s)/\Ext B h ay:=by
 have C2:Nat.beq z.cells.length 1=true:=by rw[pc];rfl
 rcases aj with⟨rfl,rfl⟩|⟨c,rest,rfl,aB,po,mC⟩
 · cases s with
   |nil=>exact⟨.ao,h,by simp only[fi,hu,hF,hi,bm,bQ,m8];rfl,.inl ⟨rfl,rfl⟩,Ext.refl _ _⟩
   |cons a s=>
    have Kd:mX (a::s).length i.bytes=true:=by simpa using tc
    have mB:=ys (h:=h) (e:=e) (fz:=0) Kd C2 (yv (a::s))
    refine⟨.slice h.n 0 (a::s).length (.aX 1),h.push (.cells (cC (a::s)) e .aX 0 0),?_,.inr ⟨h.n,[],by simp,by rw[I.mZ,if_pos rfl];simp,eU,by simp⟩,Ext.push eU _⟩
    rw[<-mB]
    simp only[fi,hu,hF,hi,bm,bQ,m8]
    rfl
 · cases s with
   |nil=>exact⟨.slice c 0 w.length (.aX 1),h,by simp only[fi,hu,hF,hi,bm,bQ,m8];rfl,.inr ⟨c,rest,by simp,by simpa using aB,po,mC⟩,Ext.refl _ _⟩
   |cons a s=>
    have C3:(Nat.beq 1 1&&Nat.blt 0 1)=true:=rfl
    by_cases tf:(a::s).length<=rest.length
    · have qd:Nat.ble (0+(w.length+(a::s).length)*1) (cC w++rest).length=true:=by
        simp only[Nat.ble_eq,List.length_append,ox];omega
      have a3:=Gk (cC w) (cC (a::s)) rest (yv _) (by rw[ox];exact tf)
      have hw:og .aX 0 0 (0+w.length*1) (cC (a::s)).length=true:=by unfold og;simp
      have wm:gK (0+w.length*1) (cC (a::s)) (cC w++rest)=some (cC w++(cC (a::s)++rest.drop (cC (a::s)).length)):=by
       rw[<-a3,ox];simp
      refine⟨.slice c 0 (w.length+(a::s).length) (.aX 1),h.set c (some (.cells (cC w++(cC (a::s)++rest.drop (cC (a::s)).length)) e .aX 0 0)),?_,.inr ⟨c,rest.drop (cC (a::s)).length,by simp,by rw[I.fk,if_pos rfl,yu];simp,po,by simpa using mC⟩,Ext.set po _⟩
      simp only[fi,hu,hF,hi,bm,bQ,m8]
      simp only[C3,List.length_cons,aB]
      simp only[List.length_cons] at qd wm hw
      simp only[qd,aJ.storeCells,aB,hw,wm]
    · have qd:Nat.ble (0+(w.length+(a::s).length)*1) (cC w++rest).length=false:=by
        cases ag:Nat.ble (0+(w.length+(a::s).length)*1) (cC w++rest).length with
        |false=>rfl
        |true=>simp only[Nat.ble_eq,List.length_append,ox] at ag;omega
      have aA:loadCells h c 0 (w.length*1)=some (cC w):=by
       have:=C1 (xs:=cC w) aB
       rw[ox] at this;simpa using this
      have gZ:(cC w++cC (a::s)).all aa.dJ=true:=by rw[<-yu];exact yv _
      have Ke:(Nat.ble 0 (0+w.length*1)&&Nat.beq e e)=true:=by simp
      have mB:=ys (h:=h.set c none) (e:=e) (fz:=0-0) tc C2 gZ
      refine⟨.slice (h.set c none).n 0 (w.length+(a::s).length) (.aX 1),(h.set c none).push (.cells (cC w++cC (a::s)) e .aX 0 0),?_,.inr ⟨(h.set c none).n,[],by simp,by rw[I.mZ,if_pos rfl,yu];simp,by simp;omega,by simp⟩,
       (Ext.set po none).trans (Nat.le_refl _) (Ext.push (by simp;omega) _)⟩
      simp only[List.length_cons] at qd mB
      simp only[fi,hu,hF,hi,bm,bQ,m8]
      simp only[C3,List.length_cons,aB]
      simp only[qd,aA,Ke,mB]
end
def Gs(t:Nat):Code->Bool
 |.cond (.tmp u) _ _=>Nat.beq u t
 |_=>false
theorem aad{c:Code}(h:Gs t c=true):c=.cond (.tmp t) (sub c [0]) (sub c [1]):=by
 cases c with
 |cond x a b=>
  cases x with
  |tmp u=>
   obtain rfl:=Nat.eq_of_beq_eq_true (show Nat.beq u t=true from h)
   simp[sub]
  |_=>simp[Gs] at h
 |_=>simp[Gs] at h
def Kh:Code->Bool
 |.scope _=>true
 |_=>false
theorem aae{c:Code}(h:Kh c=true):c=.scope (sub c [0]):=by
 cases c<;>simp[Kh,sub] at h⊢
section
variable {P:Program} {rd:Option Nat} {call:e0} {fn:Func}
theorem dU.cond{need:Nat}{a b:Code}{d:List cc}{q:cm}{x:Bool}(aT:Nat.testBit need t=true)(aA:gk t av=some (.bool x))(J:dU P need rd call (if x then a else b) ⟨av,d,q,h⟩ e cv):dU P need rd call (.cond (.tmp t) a b) ⟨av,d,q,h⟩ e cv:=by
 intro r aj
 obtain⟨bt,aG,cR⟩:=J r aj
 have aB:ed 0 [] r (c7 P need [] (.tmp t))=.bool x:=by
  simp only[c7,kD,aT,ed]
  exact aj t _ aA
 refine⟨bt,?_,cR⟩
 simp only[eR,aB]
 cases x<;>simpa using aG
theorem a0.cond{p:List Nat}{d:List cc}{q:cm}{x:Bool}(ah:Gs t (sub (hc fn) p)=true)(aT:Nat.testBit (e1 fn) t=true)(aA:gk t av=some (.bool x))(J:a0 P fn rd call (p++[if x then 0 else 1]) ⟨av,d,q,h⟩ e cv):a0 P fn rd call p ⟨av,d,q,h⟩ e cv:=by
 unfold a0 at*
 rw[aad ah]
 refine dU.cond aT aA ?_
 cases x<;>(rw[pn] at J;simpa using J)
theorem a0.scope{p:List Nat}(ah:Kh (sub (hc fn) p)=true)(J:a0 P fn rd call (p++[0]) st e cv):a0 P fn rd call p st e cv:=by
 unfold a0 at*
 rw[aae ah]
 rw[pn] at J
 intro r aj
 obtain⟨bt,aG,cR⟩:=J r aj
 exact⟨bt,by simp only[eR];exact aG,cR⟩
end
theorem aaf{P:Program}{b:TypeId}{k k':IntKind}{n:Int}(a_:P.underlying a=some (.int k))(ag:P.underlying b=some .string):df P a b (.int k' n) h=.val (.str (Utf8.encode n).data.toList) h:=by
 simp only[df,a_,ag]
section
variable {P:Program} {intr:Nat->List aa->I->Option (aa×I)}
def tx:cl->Option aa
 |.aK v=>some v
 |_=>none
theorem C4{g:Nat}{fn cn:Func}{gargs:List aa}{J ae:I}(aM:P.funcs[f]? =some fn)(ag:fn.body.isSome=true)(hi:intr f args h=none)(hle:Nat.ble args.length fn.ntmps=true)
  {q:cm}(dD:a0 P fn none (eA P intr n) [] ⟨lN 0 args,[],.none,h⟩ e ⟨av,[.call g gargs],q,J⟩)(he:e=.ret\/e=.nrm\/∃v,e=.aK v)
  (aB:P.funcs[g]? =some cn)(se:cn.body.isSome=true)(C5:Nat.ble gargs.length cn.ntmps=true)
  {aE:cl}{Γ2:Env}{aU:cm}(rl:a0 P cn none (eA P intr n) [] ⟨lN 0 gargs,[],pX (tx e),J⟩ aE ⟨Γ2,[],aU,ae⟩)(ph:aE=.ret\/aE=.nrm){w:aa}(Ki:iw P (e1 cn) cn Γ2 ae=some w)
  (bB:uu aU (tx e)=none)(iG:iw P (e1 fn) fn av ae=some v):
  eA P intr (n+1) (.fn f) args h=.ret v ae:=by
 obtain⟨c,ak⟩:=Option.isSome_iff_exists.1 ag
 obtain⟨cI,mC⟩:=Option.isSome_iff_exists.1 se
 have sn:hc fn=c:=by simp[hc,ak]
 have Kj:hc cn=cI:=by simp[hc,mC]
 unfold a0 at dD rl
 rw[sn] at dD
 rw[Kj] at rl
 simp only[sub] at dD rl
 obtain⟨bt,aO,cR⟩:=dD _ (AA args)
 obtain⟨b3,aZ,gg⟩:=rl _ (AA gargs)
 have aj:=Gi cR iG
 have sa:=Gi gg Ki
 have aH:zV P cn (tx e) (lF P (eA P intr n) cn gargs (pX (tx e)) J)=some (none,ae):=by
  have jQ:lF P (eA P intr n) cn gargs (pX (tx e)) J=.ok aE b3 [] aU ae:=by
   simp only[lF,mC,C5];exact aZ
  rw[jQ]
  rcases ph with rfl|rfl<;>simp only[zV,sa,bB]
 simp only[eA,hi,ta,aM,ak,lF,hle,aO]
 rcases he with rfl|rfl|⟨v',rfl⟩<;>(simp only[tx] at aH;simp only[xG,mr,aB,aH,aj])
end
section
variable {P:Program} {fn:Func} {call:e0}
def cg(P:Program)(fn:Func)(call:e0)(p:List Nat)(st:bD)(Q:cl->bD->Prop):Prop:=∃e cv,a0 P fn none call p st e cv/\Q e cv
def nx(A:bD->Prop)(Q:cl->bD->Prop):cl->bD->Prop
 |.nrm,s=>A s
 |e,s=>Q e s
def qg(id:Nat)(Q:cl->bD->Prop):cl->bD->Prop
 |.exit j,s=>if j=id then Q .nrm s else Q (.exit j) s
 |e,s=>Q e s
theorem cg.of{p:List Nat}(h:a0 P fn none call p st e cv)(q:Q e cv):cg P fn call p st Q:=⟨e,cv,h,q⟩
theorem cg.seq{p:List Nat}(ah:wG (sub (hc fn) p)=true)(h:cg P fn call (p++[0]) st (nx (λs=>cg P fn call (p++[1]) s Q) Q)):cg P fn call p st Q:=by
 obtain⟨e,s,r,q⟩:=h
 cases e with
 |nrm=>obtain⟨aE,s2,b3,aU⟩:=q;exact⟨aE,s2,a0.seq ah r b3,aU⟩
 |exit j=>exact⟨_,s,a0.yr ah r (by simp),q⟩
 |ret=>exact⟨_,s,a0.yr ah r (by simp),q⟩
 |aK v=>exact⟨_,s,a0.yr ah r (by simp),q⟩
 |_=>exact⟨_,s,a0.yr ah r (by simp),q⟩
theorem cg.block{p:List Nat}{id:Nat}(ah:CZ id (sub (hc fn) p)=true)(h:cg P fn call (p++[0]) st (qg id Q)):cg P fn call p st Q:=by
 obtain⟨e,s,r,q⟩:=h
 cases e with
 |exit j=>
  by_cases aL:j=id
  · subst aL
    exact⟨.nrm,s,a0.block ah r,by simpa[qg] using q⟩
  · exact⟨.exit j,s,a0.qc ah r (by simpa using aL),by simpa[qg,aL] using q⟩
 |nrm=>exact⟨_,s,a0.qc ah r (by simp),q⟩
 |ret=>exact⟨_,s,a0.qc ah r (by simp),q⟩
 |aK v=>exact⟨_,s,a0.qc ah r (by simp),q⟩
 |_=>exact⟨_,s,a0.qc ah r (by simp),q⟩
theorem cg.pre{p:List Nat}{st1:bD}(h:cg P fn call p st Q)(ah:kN st.av st1.av)(aH:st1.d=st.d)(bB:st1.q=st.q)(ar:st1.h=st.h):cg P fn call p st1 Q:=by
 obtain⟨e,s,r,q⟩:=h;exact⟨e,s,dU.pre r ah aH bB ar,q⟩
theorem eP.more{p:List Nat}{m:Nat}(v5:n<=m)(h:eP P fn none call p n st e cv):eP P fn none call p m st e cv:=by
 intro r aj
 obtain⟨bt,aG,cR⟩:=h r aj
 exact⟨bt,Ka v5 aG,cR⟩
theorem cg.loop{p:List Nat}(ah:C0 (sub (hc fn) p)=true)(uG:Nat->bD->Prop)(step:∀k st,uG k st->cg P fn call (p++[0]) st (nx (λs=>∃j,j<k/\uG j s) Q)):∀(k:Nat) (st:bD),k<99999->uG k st->cg P fn call p st Q:=by
 have key:∀(k:Nat) (st:bD),uG k st->∃e cv,eP P fn none call p (k+1) st e cv/\Q e cv:=by
  intro k
  induction k using Nat.strongRecOn with
  |_ k bM=>
   intro st hi
   obtain⟨e,s,r,q⟩:=step k st hi
   have out:∀{e:cl},a0 P fn none call (p++[0]) st e s->e≠ .nrm->Q e s->∃e cv,eP P fn none call p (k+1) st e cv/\Q e cv:=λr he q=>⟨_,s,.exit r he,q⟩
   cases e with
   |nrm=>
    obtain⟨j,aL,p8⟩:=q
    obtain⟨aE,s2,b3,aU⟩:=bM j aL s p8
    refine⟨aE,s2,?_,aU⟩
    have:eP P fn none call p (j+1+1) st aE s2:=.step r b3
    exact eP.more (by omega) this
   |exit j=>exact out r (by simp) q
   |ret=>exact out r (by simp) q
   |aK v=>exact out r (by simp) q
   |_=>exact out r (by simp) q
 intro k st ai hi
 obtain⟨e,s,r,q⟩:=key k st hi
 exact⟨e,s,eP.run ah r (by omega),q⟩
variable {intr:Nat->List aa->I->Option (aa×I)}
theorem tz{R:a8->Prop}(aM:P.funcs[f]? =some fn)(ag:fn.body.isSome=true)(hi:intr f args h=none)(hle:Nat.ble args.length fn.ntmps=true)
  (aB:cg P fn (eA P intr n) [] ⟨lN 0 args,[],.none,h⟩ Q)
  (Kk:∀e s,Q e s->((e=.ret\/e=.nrm)/\s.d=[]/\∃w,iw P (e1 fn) fn s.av s.h=some w/\R (.ret w s.h))\/∃v,e=.aK v/\s.d=[]/\R (.aK v s.h)):R (eA P intr (n+1) (.fn f) args h):=by
 obtain⟨e,s,r,q⟩:=aB
 obtain⟨av,d,aag,ay⟩:=s
 rcases Kk e _ q with⟨he,aH,w,hw,aj⟩|⟨v,rfl,aH,aj⟩
 · simp only at aH hw aj
   subst aH
   rw[Kb aM ag hi hle r he hw];exact aj
 · simp only at aH aj
   subst aH
   rw[ow aM ag hi hle r];exact aj
theorem Gt{g:Nat}{fn cn:Func}{gargs:List aa}{J ae:I}(aM:P.funcs[f]? =some fn)(ag:fn.body.isSome=true)(hi:intr f args h=none)(hle:Nat.ble args.length fn.ntmps=true)
  {x:aa}{q:cm}(dD:a0 P fn none (eA P intr n) [] ⟨lN 0 args,[],.none,h⟩ (.aK x) ⟨av,[.call g gargs],q,J⟩)
  (aB:P.funcs[g]? =some cn)(se:cn.body.isSome=true)(C5:Nat.ble gargs.length cn.ntmps=true)
  {aE:cl}{Γ2:Env}{aU:cm}(rl:a0 P cn none (eA P intr n) [] ⟨lN 0 gargs,[],.act x,J⟩ aE ⟨Γ2,[],aU,ae⟩)(ph:aE=.ret\/aE=.nrm){w:aa}(Ki:iw P (e1 cn) cn Γ2 ae=some w)
  (bB:uu aU (some x)=some x):
  eA P intr (n+1) (.fn f) args h=.aK x ae:=by
 obtain⟨c,ak⟩:=Option.isSome_iff_exists.1 ag
 obtain⟨cI,mC⟩:=Option.isSome_iff_exists.1 se
 have sn:hc fn=c:=by simp[hc,ak]
 have Kj:hc cn=cI:=by simp[hc,mC]
 unfold a0 at dD rl
 rw[sn] at dD
 rw[Kj] at rl
 simp only[sub] at dD rl
 obtain⟨bt,aO,cR⟩:=dD _ (AA args)
 obtain⟨b3,aZ,gg⟩:=rl _ (AA gargs)
 have sa:=Gi gg Ki
 have aH:zV P cn (some x) (lF P (eA P intr n) cn gargs (pX (some x)) J)=some (some x,ae):=by
  have jQ:lF P (eA P intr n) cn gargs (pX (some x)) J=.ok aE b3 [] aU ae:=by
   simp only[lF,mC,C5];exact aZ
  rw[jQ]
  rcases ph with rfl|rfl<;>simp only[zV,sa,bB]
 simp only[eA,hi,ta,aM,ak,lF,hle,aO]
 simp only[xG,mr,aB,aH]
end
end aJ
namespace aJ
open Go
variable {Q:cl->bD->Prop}{dt dv gD kE oy so wJ:Prop}{e:cl}{fn:Func}{l:List Prop}{st st1:bD}
variable {P:Program} {call:e0} {rd:Option Nat}
def cY:Nat->Nat->List Hint->List Hint
 |0,_,l=>l
 |n+1,x,l=>.b (Nat.testBit x n)::cY n x l
def Kl:List Prop->Nat->Prop
 |[],_=>True
 |p::_,0=>p
 |_::l,n+1=>Kl l n
theorem QF:∀{ps:List Prop} (n:Nat),ei ps->Kl ps n
 |[],_,_=>trivial
 |_::_,0,h=>h.1
 |_::_,n+1,h=>QF n h.2
def aah(ps:List Prop):Nat->Prop
 |0=>true=true
 |1=>false=false
 |d+2=>Kl ps d
def Km(ps:List Prop)(B:Nat):Nat->Nat->List Prop
 |0,_=>[]
 |n+1,x=>aah ps (x/B^n %B)::Km ps B n x
theorem QG{ps:List Prop}(h:ei ps)(B:Nat):∀n x,ei (Km ps B n x)
 |0,_=>trivial
 |n+1,x=>⟨by
  cases x/B^n %B with
  |zero=>exact(rfl:true=true)
  |succ d=>cases d with
   |zero=>exact(rfl:false=false)
   |succ d=>exact QF d h,QG h B n x⟩
theorem b4(x:aa)(h:aa.sound x=true:=by kernel_rfl):aa.sound x=true:=h
theorem ck(x:aa):x=x:=rfl
theorem hU{p:Prop}(h:p)(t:ei l):ei (p::l):=⟨h,t⟩
theorem bz:ei []:=trivial
theorem kP(J:dt)(ae:dv)(t:ei l):ei (dt::dv::l):=⟨J,ae,t⟩
theorem m9(J:dt)(ae:dv)(aq:gD)(t:ei l):ei (dt::dv::gD::l):=⟨J,ae,aq,t⟩
theorem jt(J:dt)(ae:dv)(aq:gD)(aQ:kE)(t:ei l):ei (dt::dv::gD::kE::l):=⟨J,ae,aq,aQ,t⟩
theorem nM(J:dt)(ae:dv)(aq:gD)(aQ:kE)(bj:oy)(t:ei l):ei (dt::dv::gD::kE::oy::l):=⟨J,ae,aq,aQ,bj,t⟩
theorem qh(J:dt)(ae:dv)(aq:gD)(aQ:kE)(bj:oy)(cW:so)(t:ei l):ei (dt::dv::gD::kE::oy::so::l):=⟨J,ae,aq,aQ,bj,cW,t⟩
theorem AJ(J:dt)(ae:dv)(aq:gD)(aQ:kE)(bj:oy)(cW:so)(eS:wJ)(t:ei l):ei (dt::dv::gD::kE::oy::so::wJ::l):=⟨J,ae,aq,aQ,bj,cW,eS,t⟩
theorem pq{C6:Prop}(J:dt)(ae:dv)(aq:gD)(aQ:kE)(bj:oy)(cW:so)(eS:wJ)(e6:C6)(t:ei l):ei (dt::dv::gD::kE::oy::so::wJ::C6::l):=⟨J,ae,aq,aQ,bj,cW,eS,e6,t⟩
theorem dN{C6 QH:Prop}(J:dt)(ae:dv)(aq:gD)(aQ:kE)(bj:oy)(cW:so)(eS:wJ)(e6:C6)(mv:QH)(t:ei l):ei (dt::dv::gD::kE::oy::so::wJ::C6::QH::l):=⟨J,ae,aq,aQ,bj,cW,eS,e6,mv,t⟩
theorem bA{path:List Nat}{cv:bD}{ps:List Prop}(cx:List Nat)(ah:List Hint)(B n x:Nat)(ak:ei ps)(ab:Gh cx (Qq P fn rd call path st ah)=some ⟨(e,cv),Km ps B n x,[]⟩:=by kernel_rfl):a0 P fn rd call path st e cv:=ZS cx ab (QG ak B n x)
theorem gG(p:List Nat){fC:bD}(J:a0 P fn rd call (p++[0]) st .nrm st1)(ae:a0 P fn rd call (p++[1]) st1 e fC)(ah:wG (sub (hc fn) p)=true:=by kernel_rfl):a0 P fn rd call p st e fC:=a0.seq ah J ae
theorem AK(p:List Nat)(J:a0 P fn rd call (p++[0]) st e st1)(he:e≠ .nrm)(ah:wG (sub (hc fn) p)=true:=by kernel_rfl):a0 P fn rd call p st e st1:=a0.yr ah J he
theorem e8(p:List Nat)(h:cg P fn call (p++[0]) st (nx (λs=>cg P fn call (p++[1]) s Q) Q))(ah:wG (sub (hc fn) p)=true:=by kernel_rfl):cg P fn call p st Q:=cg.seq ah h
theorem tA{p:List Nat}(uG:Nat->bD->Prop)(step:∀k st,uG k st->cg P fn call (p++[0]) st (nx (λs=>∃j,j<k/\uG j s) Q))(k:Nat)(st:bD)(ai:k<99999)(hi:uG k st)(ah:C0 (sub (hc fn) p)=true:=by kernel_rfl):cg P fn call p st Q:=cg.loop ah uG step k st ai hi
theorem kQ{p:List Nat}(h:cg P fn call p st Q)(ah:kN st.av st1.av)(aH:st1.d=st.d:=by rfl)(bB:st1.q=st.q:=by rfl)(ar:st1.h=st.h:=by rfl):cg P fn call p st1 Q:=cg.pre h ah aH bB ar
theorem eI{intr:Nat->List aa->I->Option (aa×I)}{f n:Nat}{args:List aa}{h:I}(aM:P.funcs[f]? =some fn){av:Env}{q:cm}{ay:I}(dD:a0 P fn none (eA P intr n) [] ⟨lN 0 args,[],.none,h⟩ e ⟨av,[],q,ay⟩)(he:e=.ret\/e=.nrm){v:aa}(iG:iw P (e1 fn) fn av ay=some v)(ag:fn.body.isSome=true:=by kernel_rfl)(hi:intr f args h=none:=by rfl)(hle:Nat.ble args.length fn.ntmps=true:=by kernel_rfl):eA P intr (n+1) (.fn f) args h=.ret v ay:=Kb aM ag hi hle dD he iG
end aJ
