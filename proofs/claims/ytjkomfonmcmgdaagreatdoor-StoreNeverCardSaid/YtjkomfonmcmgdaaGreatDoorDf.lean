/-
  PROVED HERE: contracts of functions (Df). No condition beside each statement's own.
-/
import Derived.Test.YtjkomfonmcmgdaaGreatDoorDe
import Derived.Test.YtjkomfonmcmgdaaGreatDoorTx
set_option linter.unusedVariables false
set_option linter.unusedSimpArgs false
namespace Go.Proofs.cF
open Go aM Go.Proofs c_
set_option maxRecDepth 100000
set_option maxHeartbeats 1000000
theorem Ws(m:Nat)(v:I)(f:Nat)(aR:List I)(h:J){R:av->Prop}(H:∃ei:Int,∃aj:J,(Y m) (.fn 84) [v,.fn f [] aR] h=.ret (.int .i64 ei) aj/\R (.ret (.bool (fb (.ofNat 0) ei)) aj)):
  R (Y (m+1) (.fn 65) [v,.fn f [] aR] h):=
 dJ (intr:=b1) [(7,.bC (.z .i64))] [(0,.o v),(1,.o (.fn f [] aR))] Tryz.func65 (by kernel_rfl) (by kernel_rfl) (by kernel_rfl) rfl (Eq.mp (by kernel_rfl) H)
theorem Wt(m:Nat)(v:I)(f:Nat)(aR:List I)(h:J){R:av->Prop}(H:∃aD:Nat,b9 Tryz.prog h 63 v=some (.int .i64 (.ofNat aD))/\a4 Tryz.prog Tryz.f84 (Y m) [1,0,1,0] (ah.mk [(0,v),(1,.fn f [] aR),(7,.int .i64 (.ofNat aD)),(8,.int .i64 (.ofNat 0))] [] .none h) (λcd ct=>((∃aj:J,∃bB:Env,cd=.exit 0/\ct=ah.mk bB [] .none aj/\cl [] bB/\R (.ret (.int .i64 (.negSucc 0)) aj))\/(∃bm:Nat,∃ax:J,∃b2:Env,cd=.ret/\ct=ah.mk b2 [] .none ax/\cl [(4,.int .i64 (.ofNat bm))] b2/\R (.ret (.int .i64 (.ofNat bm)) ax))))):
  R (Y (m+1) (.fn 84) [v,.fn f [] aR] h):=
 dJ (intr:=b1) [(4000,.g2 [0,1,7,8] [(.exit 0,[]),(.ret,[(4,.n .i64)])])] [(0,.o v),(1,.o (.fn f [] aR))] Tryz.func84 (by kernel_rfl) (by kernel_rfl) (by kernel_rfl) rfl (Eq.mp (by kernel_rfl) H)
theorem Wu(call:aI->List I->J->av)(b:Nat)(off:Nat)(N:Nat)(i:Nat)(f:Nat)(aR:List I)(cp:b3)(h:J){Q:bn->ah->Prop}(H:(i<N->i<N/\∃v1:I,au h b (off+i*1)=some v1/\∃bt:Bool,∃aj:J,call (.fn f) (v1::aR) h=.ret (.bool bt) aj/\(bt=true->Q .ret (ah.mk [(0,.slice b off N cp),(1,.fn f [] aR),(4,.int .i64 (.ofNat i)),(7,.int .i64 (.ofNat N)),(8,.int .i64 (.ofNat i))] [] .none aj))/\(bt=false->i+1<9223372036854775808/\Q .nrm (ah.mk [(0,.slice b off N cp),(1,.fn f [] aR),(7,.int .i64 (.ofNat N)),(8,.int .i64 (.ofNat (i+1)))] [] .none aj)))/\(¬i<N->Q (.exit 0) (ah.mk [(0,.slice b off N cp),(1,.fn f [] aR),(7,.int .i64 (.ofNat N)),(8,.int .i64 (.ofNat i))] [] .none h))):
  a4 Tryz.prog Tryz.f84 call [1,0,1,0,0] ⟨[(0,.slice b off N cp),(1,.fn f [] aR),(7,.int .i64 (.ofNat N)),(8,.int .i64 (.ofNat i))],[],.none,h⟩ Q:=
 dI [(15,.bC .o)] [0,1,4,7,8] [(0,.v (.slice b off N cp)),(1,.o (.fn f [] aR)),(7,.v (.int .i64 (.ofNat N))),(8,.v (.int .i64 (.ofNat i)))] rfl (Eq.mp (by kernel_rfl) H)
theorem Wv(call:aI->List I->J->av)(N:Nat)(i:Nat)(f:Nat)(aR:List I)(v:I)(h:J){Q:bn->ah->Prop}(H:¬i<N/\Q (.exit 0) (ah.mk [] [] .none h)):
  a4 Tryz.prog Tryz.f84 call [1,0,1,0,0] ⟨[(0,v),(1,.fn f [] aR),(7,.int .i64 (.ofNat N)),(8,.int .i64 (.ofNat i))],[],.none,h⟩ Q:=
 dI [(1009,.f)] [] [(0,.o v),(1,.o (.fn f [] aR)),(7,.v (.int .i64 (.ofNat N))),(8,.v (.int .i64 (.ofNat i)))] rfl (Eq.mp (by kernel_rfl) H)
theorem Ww(m:Nat)(v:I)(f:Nat)(aR:List I)(h:J){R:av->Prop}(H:∃aD:Nat,b9 Tryz.prog h 63 v=some (.int .i64 (.ofNat aD))/\(1<=aD/\aD<9223372036854775808)/\a4 Tryz.prog Tryz.f86 (Y m) [1,0,1,0] (ah.mk [(0,v),(1,.fn f [] aR),(5,.int .i64 (.ofNat (aD-1)))] [] .none h) (λcd ct=>((∃aj:J,∃bB:Env,cd=.exit 0/\ct=ah.mk bB [] .none aj/\cl [] bB/\R (.ret (.bool true) aj))\/(∃ax:J,∃b2:Env,cd=.ret/\ct=ah.mk b2 [] .none ax/\cl [(4,.bool false)] b2/\R (.ret (.bool false) ax))))):
  R (Y (m+1) (.fn 86) [v,.fn f [] aR] h):=
 dJ (intr:=b1) [(4000,.g2 [0,1,5] [(.exit 0,[]),(.ret,[(4,.is (.bool false))])])] [(0,.o v),(1,.o (.fn f [] aR))] Tryz.func86 (by kernel_rfl) (by kernel_rfl) (by kernel_rfl) rfl (Eq.mp (by kernel_rfl) H)
theorem Wx(m:Nat)(v:I)(f:Nat)(aR:List I)(h:J){R:av->Prop}(H:∃aD:Nat,b9 Tryz.prog h 63 v=some (.int .i64 (.ofNat aD))/\∃ei:Int,arith .sub .i64 (.ofNat aD) (.ofNat 1)=some (.int .i64 ei)/\a4 Tryz.prog Tryz.f86 (Y m) [1,0,1,0] (ah.mk [(0,v),(1,.fn f [] aR),(5,.int .i64 ei)] [] .none h) (λcd ct=>∃aj:J,∃bB:Env,cd=.exit 0/\ct=ah.mk bB [] .none aj/\cl [] bB/\R (.ret (.bool true) aj))):
  R (Y (m+1) (.fn 86) [v,.fn f [] aR] h):=
 dJ (intr:=b1) [(8,.bC (.z .i64)),(4000,.g2 [0,1,5] [(.exit 0,[])])] [(0,.o v),(1,.o (.fn f [] aR))] Tryz.func86 (by kernel_rfl) (by kernel_rfl) (by kernel_rfl) rfl (Eq.mp (by kernel_rfl) H)
theorem Wy(call:aI->List I->J->av)(b:Nat)(off:Nat)(N:Nat)(i:Nat)(f:Nat)(aR:List I)(cp:b3)(h:J){Q:bn->ah->Prop}(H:(0<i->i<N/\∃v1:I,au (h.room 12) b (off+i*1)=some v1/\(1<=i/\i<9223372036854775808)/\i-1<N/\∃v2:I,au (h.room 12) b (off+(i-1)*1)=some v2/\∃ei:Int,∃aj:J,call (.fn f) (v1::v2::aR) (h.room 12)=.ret (.int .i64 ei) aj/\I.sound (.fn f [] aR)=true/\I.sound v1=true/\I.sound v2=true/\(bM ei (.ofNat 0)=true->Q .ret (ah.mk [(0,.slice b off N cp),(1,.fn f [] aR),(4,.bool false),(5,.int .i64 (.ofNat i))] [] .none aj))/\(bM ei (.ofNat 0)=false->(1<=i/\i<9223372036854775808)/\Q .nrm (ah.mk [(0,.slice b off N cp),(1,.fn f [] aR),(5,.int .i64 (.ofNat (i-1)))] [] .none aj)))/\(¬0<i->Q (.exit 0) (ah.mk [(0,.slice b off N cp),(1,.fn f [] aR),(5,.int .i64 (.ofNat i))] [] .none h))):
  a4 Tryz.prog Tryz.f86 call [1,0,1,0,0] ⟨[(0,.slice b off N cp),(1,.fn f [] aR),(5,.int .i64 (.ofNat i))],[],.none,h⟩ Q:=
 dI [(17,.bC .o),(22,.bC .o),(23,.bC (.z .i64))] [0,1,4,5] [(0,.v (.slice b off N cp)),(1,.o (.fn f [] aR)),(5,.v (.int .i64 (.ofNat i)))] rfl (Eq.mp (by kernel_rfl) H)
theorem Wz(call:aI->List I->J->av)(v:I)(f:Nat)(aR:List I)(h:J){Q:bn->ah->Prop}(H:bM (.ofNat 0) (.negSucc 0)=false/\Q (.exit 0) (ah.mk [] [] .none h)):
  a4 Tryz.prog Tryz.f86 call [1,0,1,0,0] ⟨[(0,v),(1,.fn f [] aR),(5,.int .i64 (.negSucc 0))],[],.none,h⟩ Q:=
 dI [(1010,.f)] [] [(0,.o v),(1,.o (.fn f [] aR)),(5,.v (.int .i64 (.negSucc 0)))] rfl (Eq.mp (by kernel_rfl) H)
theorem WA(m:Nat)(x:I)(y:I)(a:Nat)(f:Nat)(aR:List I)(h:J){R:av->Prop}(H:au (h.room 7) a 0=some (.fn f [] aR)/\∃s1:List UInt8,∃aj:J,(Y m) (.fn f) (x::aR) (h.room 7)=.ret (.str s1) aj/\au aj a 0=some (.fn f [] aR)/\∃s2:List UInt8,∃ax:J,(Y m) (.fn f) (y::aR) aj=.ret (.str s2) ax/\I.sound (.fn f [] aR)=true/\I.sound x=true/\I.sound (.fn f [] aR)=true/\au (h.room 7) a 0=some (.fn f [] aR)/\I.sound y=true/\(dB s1 s2=true->R (.ret (.int .i64 (.negSucc 0)) ax))/\(dB s1 s2=false->R (.ret (.int .i64 (.ofNat 1)) ax))):
  R (Y (m+1) (.fn 87) [x,y,.ptr a 0] h):=
 dJ (intr:=b1) [(6,.bC (.io (.fn f [] aR))),(9,.bC (.io (.fn f [] aR)))] [(0,.o x),(1,.o y),(2,.v (.ptr a 0))] Tryz.func87 (by kernel_rfl) (by kernel_rfl) (by kernel_rfl) rfl (Eq.mp (by kernel_rfl) H)
theorem WB(m:Nat)(x:I)(y:I)(a:Nat)(f:Nat)(aR:List I)(h:J){R:av->Prop}(H:au (h.room 8) a 0=some (.fn f [] aR)/\∃s1:List UInt8,∃aj:J,(Y m) (.fn f) (x::aR) (h.room 8)=.ret (.str s1) aj/\au aj a 0=some (.fn f [] aR)/\∃s2:List UInt8,∃ax:J,(Y m) (.fn f) (y::aR) aj=.ret (.str s2) ax/\I.sound (.fn f [] aR)=true/\I.sound x=true/\I.sound (.fn f [] aR)=true/\au (h.room 8) a 0=some (.fn f [] aR)/\I.sound y=true/\R (.ret (.bool (dF s1 s2)) ax)):
  R (Y (m+1) (.fn 89) [x,y,.ptr a 0] h):=
 dJ (intr:=b1) [(6,.bC (.io (.fn f [] aR))),(9,.bC (.io (.fn f [] aR)))] [(0,.o x),(1,.o y),(2,.v (.ptr a 0))] Tryz.func89 (by kernel_rfl) (by kernel_rfl) (by kernel_rfl) rfl (Eq.mp (by kernel_rfl) H)
theorem Lv(m:Nat)(v:I)(f:Nat)(aR:List I)(h:J){R:av->Prop}(H:∃aD:Nat,b9 Tryz.prog h 63 v=some (.int .i64 (.ofNat aD))/\(aD<2->R (.ret v h))/\(¬aD<2->a4 Tryz.prog Tryz.f88 (Y m) [1,1,0,1,0] (ah.mk [(0,v),(1,.fn f [] aR),(5,.int .i64 (.ofNat 1))] [] .none h) (λcd ct=>((∃v1:I,∃aj:J,∃bB:Env,cd=.exit 0/\ct=ah.mk bB [] .none aj/\cl [(0,v1)] bB/\R (.ret v1 aj))\/(∃v2:I,∃ax:J,∃b2:Env,cd=.ret/\ct=ah.mk b2 [] .none ax/\cl [(4,v2)] b2/\R (.ret v2 ax)))))):
  R (Y (m+1) (.fn 88) [v,.fn f [] aR] h):=
 dJ (intr:=b1) [(4000,.g2 [0,1,5] [(.exit 0,[(0,.o)]),(.ret,[(4,.o)])])] [(0,.o v),(1,.o (.fn f [] aR))] Tryz.func88 (by kernel_rfl) (by kernel_rfl) (by kernel_rfl) rfl (Eq.mp (by kernel_rfl) H)
theorem WC(call:aI->List I->J->av)(b:Nat)(N:Nat)(k:Nat)(f:Nat)(aR:List I)(h:J){Q:bn->ah->Prop}(H:(k<N->k<N/\∃v1:I,au (h.room 11) b (0+k*1)=some v1/\(1<=k/\k<9223372036854775808)/\k-1<N/\∃v2:I,au (h.room 11) b (0+(k-1)*1)=some v2/\∃bt:Bool,∃aj:J,call (.fn f) (v1::v2::aR) (h.room 11)=.ret (.bool bt) aj/\I.sound (.fn f [] aR)=true/\I.sound v1=true/\I.sound v2=true/\(bt=true->∃aD:Nat,∃bm:Nat,∃bG:Nat,∃aG:b3,de Tryz.prog aj 63 (.slice b 0 N (.a1 1)) (some (.int .i64 (.ofNat k))) none none=some (.slice aD bm bG aG)/\a4 Tryz.prog Tryz.f88 call [1,1,0,1,0,0,1,0,0,1,0,1,0,1,0] (ah.mk [(0,.slice b 0 N (.a1 1)),(1,.fn f [] aR),(5,.int .i64 (.ofNat k)),(6,.slice aD bm bG aG),(7,.int .i64 (.ofNat 1))] [] .none aj) (λcd ct=>∃bV:Nat,∃cc:Nat,∃cI:Nat,∃a9:b3,∃dr:Nat,∃ax:J,∃bB:Env,cd=.exit 2/\ct=ah.mk bB [] .none ax/\cl [(0,.slice bV cc cI a9),(5,.int .i64 (.ofNat dr))] bB/\∃en:Nat,∃eH:Nat,∃fX:Nat,∃dn:b3,de Tryz.prog ax 63 (.slice bV cc cI a9) (some (.int .i64 (.ofNat dr))) none none=some (.slice en eH fX dn)/\∃aC:J,oH Tryz.prog ax 63 (.slice en eH fX dn)=some (.aP [],aC)/\∃c4:I,de Tryz.prog aC 63 (.slice bV cc cI a9) none (some (.int .i64 (.ofNat dr))) none=some c4/\Q .ret (ah.mk [(0,.slice bV cc cI a9),(4,c4),(5,.int .i64 (.ofNat dr))] [] .none aC)))/\(bt=false->k+1<9223372036854775808/\Q .nrm (ah.mk [(0,.slice b 0 N (.a1 1)),(1,.fn f [] aR),(5,.int .i64 (.ofNat (k+1)))] [] .none aj)))/\(¬k<N->Q (.exit 0) (ah.mk [(0,.slice b 0 N (.a1 1)),(1,.fn f [] aR),(5,.int .i64 (.ofNat k))] [] .none h))):
  a4 Tryz.prog Tryz.f88 call [1,1,0,1,0,0] ⟨[(0,.slice b 0 N (.a1 1)),(1,.fn f [] aR),(5,.int .i64 (.ofNat k))],[],.none,h⟩ Q:=
 dI [(22,.bC .o),(27,.bC .o),(31,.bC .fS),(4002,.g2 [0,1,5,6,7] [(.exit 2,[(0,.fS),(5,.n .i64)])]),(61,.bC .fS),(64,.bC .o)] [0,1,4,5] [(0,.v (.slice b 0 N (.a1 1))),(1,.o (.fn f [] aR)),(5,.v (.int .i64 (.ofNat k)))] rfl (Eq.mp (by kernel_rfl) H)
theorem WD(call:aI->List I->J->av)(b:Nat)(N:Nat)(k:Nat)(f:Nat)(dC:Nat)(M:Nat)(j:Nat)(aR:List I)(h:J){Q:bn->ah->Prop}(H:(j<M->j<M/\∃v1:I,au (h.room 12) b (dC+j*1)=some v1/\(1<=j/\j<9223372036854775808)/\j-1<M/\∃v2:I,au (h.room 12) b (dC+(j-1)*1)=some v2/\∃bt:Bool,∃aj:J,call (.fn f) (v1::v2::aR) (h.room 12)=.ret (.bool bt) aj/\I.sound (.fn f [] aR)=true/\I.sound v1=true/\I.sound v2=true/\(bt=true->j+1<9223372036854775808/\Q .nrm (ah.mk [(0,.slice b 0 N (.a1 1)),(1,.fn f [] aR),(5,.int .i64 (.ofNat k)),(6,.slice b dC M (.a1 1)),(7,.int .i64 (.ofNat (j+1)))] [] .none aj))/\(bt=false->j<M/\∃s1:List UInt8,au aj b (dC+j*1)=some (.str s1)/\k<N/\∃ax:J,aM.storeCells aj b (0+k*1) [.str s1]=some ax/\k+1<9223372036854775808/\j+1<9223372036854775808/\Q .nrm (ah.mk [(0,.slice b 0 N (.a1 1)),(1,.fn f [] aR),(5,.int .i64 (.ofNat (k+1))),(6,.slice b dC M (.a1 1)),(7,.int .i64 (.ofNat (j+1)))] [] .none ax)))/\(¬j<M->Q (.exit 2) (ah.mk [(0,.slice b 0 N (.a1 1)),(1,.fn f [] aR),(5,.int .i64 (.ofNat k)),(6,.slice b dC M (.a1 1)),(7,.int .i64 (.ofNat j))] [] .none h))):
  a4 Tryz.prog Tryz.f88 call [1,1,0,1,0,0,1,0,0,1,0,1,0,1,0,0] ⟨[(0,.slice b 0 N (.a1 1)),(1,.fn f [] aR),(5,.int .i64 (.ofNat k)),(6,.slice b dC M (.a1 1)),(7,.int .i64 (.ofNat j))],[],.none,h⟩ Q:=
 dI [(42,.bC .o),(47,.bC .o)] [0,1,5,6,7] [(0,.v (.slice b 0 N (.a1 1))),(1,.o (.fn f [] aR)),(5,.v (.int .i64 (.ofNat k))),(6,.v (.slice b dC M (.a1 1))),(7,.v (.int .i64 (.ofNat j)))] rfl (Eq.mp (by kernel_rfl) H)
theorem WE(m:Nat)(b:Nat)(off:Nat)(N:Nat)(cp:b3)(h:J){R:av->Prop}(H:∃v1:I,∃aj:J,dy Tryz.prog (J.push h (.cells [] 9 .own 0 0)) 63 (some 63) (.slice h.n 0 0 (.exact 0)) (.slice b off N cp)=some (v1,aj)/\R (.ret v1 aj)):
  R (Y (m+1) (.fn 38) [.slice b off N cp] h):=
 dJ (intr:=b1) [(7,.bC .o)] [(0,.v (.slice b off N cp))] Tryz.func38 (by kernel_rfl) (by kernel_rfl) (by kernel_rfl) rfl (Eq.mp (by kernel_rfl) H)
theorem WG(m:Nat)(h:J){R:av->Prop}(H:R (.ret .a0 h)):
  R (Y (m+1) (.fn 38) [.a0] h):=
 dJ (intr:=b1) [] [(0,.v .a0)] Tryz.func38 (by kernel_rfl) (by kernel_rfl) (by kernel_rfl) rfl (Eq.mp (by kernel_rfl) H)
theorem WH(m:Nat)(v:I)(f:Nat)(aR:List I)(h:J){R:av->Prop}(H:I.cQ (.fn f [] aR)=true/\∃bt:Bool,∃aj:J,(Y m) (.fn 86) [v,.fn 87 [] [.ptr h.n 0]] (J.push h (.cells [.fn f [] aR] 114 .own 0 0))=.ret (.bool bt) aj/\(bt=true->∃v1:I,∃ax:J,(Y m) (.fn 38) [v] aj=.ret v1 ax/\∃v2:I,∃aC:J,(Y m) (.fn 88) [v1,.fn 89 [] [.ptr h.n 0]] ax=.ret v2 aC/\∃aD:Nat,b9 Tryz.prog aC 63 v2=some (.int .i64 (.ofNat aD))/\∃bm:Nat,b9 Tryz.prog aC 63 v=some (.int .i64 (.ofNat bm))/\R (.ret (.bool (a8 (.ofNat aD) (.ofNat bm))) aC))/\(bt=false->R (.ret (.bool false) aj))):
  R (Y (m+1) (.fn 68) [v,.fn f [] aR] h):=
 dJ (intr:=b1) [] [(0,.o v),(1,.o (.fn f [] aR))] Tryz.func68 (by kernel_rfl) (by kernel_rfl) (by kernel_rfl) rfl (Eq.mp (by kernel_rfl) H)
theorem WI(m:Nat)(v:I)(f:Nat)(aR:List I)(h:J){R:av->Prop}(H:∃ei:Int,∃aj:J,(Y m) (.fn 82) [v,.fn f [] aR] h=.ret (.int .i64 ei) aj/\R (.ret (.bool (fb (.ofNat 0) ei)) aj)):
  R (Y (m+1) (.fn 63) [v,.fn f [] aR] h):=
 dJ (intr:=b1) [(7,.bC (.z .i64))] [(0,.o v),(1,.o (.fn f [] aR))] Tryz.func63 (by kernel_rfl) (by kernel_rfl) (by kernel_rfl) rfl (Eq.mp (by kernel_rfl) H)
theorem WJ(m:Nat)(v:I)(f:Nat)(aR:List I)(h:J){R:av->Prop}(H:∃aD:Nat,b9 Tryz.prog h 50 v=some (.int .i64 (.ofNat aD))/\a4 Tryz.prog Tryz.f82 (Y m) [1,0,1,0] (ah.mk [(0,v),(1,.fn f [] aR),(7,.int .i64 (.ofNat aD)),(8,.int .i64 (.ofNat 0))] [] .none h) (λcd ct=>((∃aj:J,∃bB:Env,cd=.exit 0/\ct=ah.mk bB [] .none aj/\cl [] bB/\R (.ret (.int .i64 (.negSucc 0)) aj))\/(∃bm:Nat,∃ax:J,∃b2:Env,cd=.ret/\ct=ah.mk b2 [] .none ax/\cl [(4,.int .i64 (.ofNat bm))] b2/\R (.ret (.int .i64 (.ofNat bm)) ax))))):
  R (Y (m+1) (.fn 82) [v,.fn f [] aR] h):=
 dJ (intr:=b1) [(4000,.g2 [0,1,7,8] [(.exit 0,[]),(.ret,[(4,.n .i64)])])] [(0,.o v),(1,.o (.fn f [] aR))] Tryz.func82 (by kernel_rfl) (by kernel_rfl) (by kernel_rfl) rfl (Eq.mp (by kernel_rfl) H)
theorem WK(call:aI->List I->J->av)(b:Nat)(off:Nat)(N:Nat)(i:Nat)(f:Nat)(aR:List I)(cp:b3)(h:J){Q:bn->ah->Prop}(H:(i<N->i<N/\∃v1:I,au h b (off+i*1)=some v1/\∃bt:Bool,∃aj:J,call (.fn f) (v1::aR) h=.ret (.bool bt) aj/\(bt=true->Q .ret (ah.mk [(0,.slice b off N cp),(1,.fn f [] aR),(4,.int .i64 (.ofNat i)),(7,.int .i64 (.ofNat N)),(8,.int .i64 (.ofNat i))] [] .none aj))/\(bt=false->i+1<9223372036854775808/\Q .nrm (ah.mk [(0,.slice b off N cp),(1,.fn f [] aR),(7,.int .i64 (.ofNat N)),(8,.int .i64 (.ofNat (i+1)))] [] .none aj)))/\(¬i<N->Q (.exit 0) (ah.mk [(0,.slice b off N cp),(1,.fn f [] aR),(7,.int .i64 (.ofNat N)),(8,.int .i64 (.ofNat i))] [] .none h))):
  a4 Tryz.prog Tryz.f82 call [1,0,1,0,0] ⟨[(0,.slice b off N cp),(1,.fn f [] aR),(7,.int .i64 (.ofNat N)),(8,.int .i64 (.ofNat i))],[],.none,h⟩ Q:=
 dI [(15,.bC .o)] [0,1,4,7,8] [(0,.v (.slice b off N cp)),(1,.o (.fn f [] aR)),(7,.v (.int .i64 (.ofNat N))),(8,.v (.int .i64 (.ofNat i)))] rfl (Eq.mp (by kernel_rfl) H)
theorem WL(call:aI->List I->J->av)(N:Nat)(i:Nat)(f:Nat)(aR:List I)(v:I)(h:J){Q:bn->ah->Prop}(H:¬i<N/\Q (.exit 0) (ah.mk [] [] .none h)):
  a4 Tryz.prog Tryz.f82 call [1,0,1,0,0] ⟨[(0,v),(1,.fn f [] aR),(7,.int .i64 (.ofNat N)),(8,.int .i64 (.ofNat i))],[],.none,h⟩ Q:=
 dI [(1009,.f)] [] [(0,.o v),(1,.o (.fn f [] aR)),(7,.v (.int .i64 (.ofNat N))),(8,.v (.int .i64 (.ofNat i)))] rfl (Eq.mp (by kernel_rfl) H)
theorem WM(m:Nat)(v:I)(f:Nat)(aR:List I)(h:J){R:av->Prop}(H:∃aD:Nat,b9 Tryz.prog h 50 v=some (.int .i64 (.ofNat aD))/\(1<=aD/\aD<9223372036854775808)/\a4 Tryz.prog Tryz.f90 (Y m) [1,0,1,0] (ah.mk [(0,v),(1,.fn f [] aR),(5,.int .i64 (.ofNat (aD-1)))] [] .none h) (λcd ct=>((∃aj:J,∃bB:Env,cd=.exit 0/\ct=ah.mk bB [] .none aj/\cl [] bB/\R (.ret (.bool true) aj))\/(∃ax:J,∃b2:Env,cd=.ret/\ct=ah.mk b2 [] .none ax/\cl [(4,.bool false)] b2/\R (.ret (.bool false) ax))))):
  R (Y (m+1) (.fn 90) [v,.fn f [] aR] h):=
 dJ (intr:=b1) [(4000,.g2 [0,1,5] [(.exit 0,[]),(.ret,[(4,.is (.bool false))])])] [(0,.o v),(1,.o (.fn f [] aR))] Tryz.func90 (by kernel_rfl) (by kernel_rfl) (by kernel_rfl) rfl (Eq.mp (by kernel_rfl) H)
theorem WN(m:Nat)(v:I)(f:Nat)(aR:List I)(h:J){R:av->Prop}(H:∃aD:Nat,b9 Tryz.prog h 50 v=some (.int .i64 (.ofNat aD))/\∃ei:Int,arith .sub .i64 (.ofNat aD) (.ofNat 1)=some (.int .i64 ei)/\a4 Tryz.prog Tryz.f90 (Y m) [1,0,1,0] (ah.mk [(0,v),(1,.fn f [] aR),(5,.int .i64 ei)] [] .none h) (λcd ct=>∃aj:J,∃bB:Env,cd=.exit 0/\ct=ah.mk bB [] .none aj/\cl [] bB/\R (.ret (.bool true) aj))):
  R (Y (m+1) (.fn 90) [v,.fn f [] aR] h):=
 dJ (intr:=b1) [(8,.bC (.z .i64)),(4000,.g2 [0,1,5] [(.exit 0,[])])] [(0,.o v),(1,.o (.fn f [] aR))] Tryz.func90 (by kernel_rfl) (by kernel_rfl) (by kernel_rfl) rfl (Eq.mp (by kernel_rfl) H)
theorem WO(call:aI->List I->J->av)(b:Nat)(off:Nat)(N:Nat)(i:Nat)(f:Nat)(aR:List I)(cp:b3)(h:J){Q:bn->ah->Prop}(H:(0<i->i<N/\∃v1:I,au (h.room 12) b (off+i*1)=some v1/\(1<=i/\i<9223372036854775808)/\i-1<N/\∃v2:I,au (h.room 12) b (off+(i-1)*1)=some v2/\∃ei:Int,∃aj:J,call (.fn f) (v1::v2::aR) (h.room 12)=.ret (.int .i64 ei) aj/\I.sound (.fn f [] aR)=true/\I.sound v1=true/\I.sound v2=true/\(bM ei (.ofNat 0)=true->Q .ret (ah.mk [(0,.slice b off N cp),(1,.fn f [] aR),(4,.bool false),(5,.int .i64 (.ofNat i))] [] .none aj))/\(bM ei (.ofNat 0)=false->(1<=i/\i<9223372036854775808)/\Q .nrm (ah.mk [(0,.slice b off N cp),(1,.fn f [] aR),(5,.int .i64 (.ofNat (i-1)))] [] .none aj)))/\(¬0<i->Q (.exit 0) (ah.mk [(0,.slice b off N cp),(1,.fn f [] aR),(5,.int .i64 (.ofNat i))] [] .none h))):
  a4 Tryz.prog Tryz.f90 call [1,0,1,0,0] ⟨[(0,.slice b off N cp),(1,.fn f [] aR),(5,.int .i64 (.ofNat i))],[],.none,h⟩ Q:=
 dI [(17,.bC .o),(22,.bC .o),(23,.bC (.z .i64))] [0,1,4,5] [(0,.v (.slice b off N cp)),(1,.o (.fn f [] aR)),(5,.v (.int .i64 (.ofNat i)))] rfl (Eq.mp (by kernel_rfl) H)
theorem WQ(call:aI->List I->J->av)(v:I)(f:Nat)(aR:List I)(h:J){Q:bn->ah->Prop}(H:bM (.ofNat 0) (.negSucc 0)=false/\Q (.exit 0) (ah.mk [] [] .none h)):
  a4 Tryz.prog Tryz.f90 call [1,0,1,0,0] ⟨[(0,v),(1,.fn f [] aR),(5,.int .i64 (.negSucc 0))],[],.none,h⟩ Q:=
 dI [(1010,.f)] [] [(0,.o v),(1,.o (.fn f [] aR)),(5,.v (.int .i64 (.negSucc 0)))] rfl (Eq.mp (by kernel_rfl) H)
theorem WR(m:Nat)(x:I)(y:I)(a:Nat)(f:Nat)(aR:List I)(h:J){R:av->Prop}(H:au (h.room 7) a 0=some (.fn f [] aR)/\∃s1:List UInt8,∃aj:J,(Y m) (.fn f) (x::aR) (h.room 7)=.ret (.str s1) aj/\au aj a 0=some (.fn f [] aR)/\∃s2:List UInt8,∃ax:J,(Y m) (.fn f) (y::aR) aj=.ret (.str s2) ax/\I.sound (.fn f [] aR)=true/\I.sound x=true/\I.sound (.fn f [] aR)=true/\au (h.room 7) a 0=some (.fn f [] aR)/\I.sound y=true/\(dB s1 s2=true->R (.ret (.int .i64 (.negSucc 0)) ax))/\(dB s1 s2=false->R (.ret (.int .i64 (.ofNat 1)) ax))):
  R (Y (m+1) (.fn 91) [x,y,.ptr a 0] h):=
 dJ (intr:=b1) [(6,.bC (.io (.fn f [] aR))),(9,.bC (.io (.fn f [] aR)))] [(0,.o x),(1,.o y),(2,.v (.ptr a 0))] Tryz.func91 (by kernel_rfl) (by kernel_rfl) (by kernel_rfl) rfl (Eq.mp (by kernel_rfl) H)
theorem WS(m:Nat)(x:I)(y:I)(a:Nat)(f:Nat)(aR:List I)(h:J){R:av->Prop}(H:au (h.room 8) a 0=some (.fn f [] aR)/\∃s1:List UInt8,∃aj:J,(Y m) (.fn f) (x::aR) (h.room 8)=.ret (.str s1) aj/\au aj a 0=some (.fn f [] aR)/\∃s2:List UInt8,∃ax:J,(Y m) (.fn f) (y::aR) aj=.ret (.str s2) ax/\I.sound (.fn f [] aR)=true/\I.sound x=true/\I.sound (.fn f [] aR)=true/\au (h.room 8) a 0=some (.fn f [] aR)/\I.sound y=true/\R (.ret (.bool (dF s1 s2)) ax)):
  R (Y (m+1) (.fn 94) [x,y,.ptr a 0] h):=
 dJ (intr:=b1) [(6,.bC (.io (.fn f [] aR))),(9,.bC (.io (.fn f [] aR)))] [(0,.o x),(1,.o y),(2,.v (.ptr a 0))] Tryz.func94 (by kernel_rfl) (by kernel_rfl) (by kernel_rfl) rfl (Eq.mp (by kernel_rfl) H)
theorem Lw(m:Nat)(v:I)(f:Nat)(aR:List I)(h:J){R:av->Prop}(H:∃aD:Nat,b9 Tryz.prog h 50 v=some (.int .i64 (.ofNat aD))/\(aD<2->R (.ret v h))/\(¬aD<2->a4 Tryz.prog Tryz.f92 (Y m) [1,1,0,1,0] (ah.mk [(0,v),(1,.fn f [] aR),(5,.int .i64 (.ofNat 1))] [] .none h) (λcd ct=>((∃v1:I,∃aj:J,∃bB:Env,cd=.exit 0/\ct=ah.mk bB [] .none aj/\cl [(0,v1)] bB/\R (.ret v1 aj))\/(∃v2:I,∃ax:J,∃b2:Env,cd=.ret/\ct=ah.mk b2 [] .none ax/\cl [(4,v2)] b2/\R (.ret v2 ax)))))):
  R (Y (m+1) (.fn 92) [v,.fn f [] aR] h):=
 dJ (intr:=b1) [(4000,.g2 [0,1,5] [(.exit 0,[(0,.o)]),(.ret,[(4,.o)])])] [(0,.o v),(1,.o (.fn f [] aR))] Tryz.func92 (by kernel_rfl) (by kernel_rfl) (by kernel_rfl) rfl (Eq.mp (by kernel_rfl) H)
theorem WT(call:aI->List I->J->av)(b:Nat)(N:Nat)(k:Nat)(f:Nat)(aR:List I)(h:J){Q:bn->ah->Prop}(H:(k<N->k<N/\∃v1:I,au (h.room 11) b (0+k*1)=some v1/\(1<=k/\k<9223372036854775808)/\k-1<N/\∃v2:I,au (h.room 11) b (0+(k-1)*1)=some v2/\∃bt:Bool,∃aj:J,call (.fn f) (v1::v2::aR) (h.room 11)=.ret (.bool bt) aj/\I.sound (.fn f [] aR)=true/\I.sound v1=true/\I.sound v2=true/\(bt=true->∃aD:Nat,∃bm:Nat,∃bG:Nat,∃aG:b3,de Tryz.prog aj 50 (.slice b 0 N (.a1 1)) (some (.int .i64 (.ofNat k))) none none=some (.slice aD bm bG aG)/\a4 Tryz.prog Tryz.f92 call [1,1,0,1,0,0,1,0,0,1,0,1,0,1,0] (ah.mk [(0,.slice b 0 N (.a1 1)),(1,.fn f [] aR),(5,.int .i64 (.ofNat k)),(6,.slice aD bm bG aG),(7,.int .i64 (.ofNat 1))] [] .none aj) (λcd ct=>∃bV:Nat,∃cc:Nat,∃cI:Nat,∃a9:b3,∃dr:Nat,∃ax:J,∃bB:Env,cd=.exit 2/\ct=ah.mk bB [] .none ax/\cl [(0,.slice bV cc cI a9),(5,.int .i64 (.ofNat dr))] bB/\∃en:Nat,∃eH:Nat,∃fX:Nat,∃dn:b3,de Tryz.prog ax 50 (.slice bV cc cI a9) (some (.int .i64 (.ofNat dr))) none none=some (.slice en eH fX dn)/\∃aC:J,oH Tryz.prog ax 50 (.slice en eH fX dn)=some (.aP [],aC)/\∃c4:I,de Tryz.prog aC 50 (.slice bV cc cI a9) none (some (.int .i64 (.ofNat dr))) none=some c4/\Q .ret (ah.mk [(0,.slice bV cc cI a9),(4,c4),(5,.int .i64 (.ofNat dr))] [] .none aC)))/\(bt=false->k+1<9223372036854775808/\Q .nrm (ah.mk [(0,.slice b 0 N (.a1 1)),(1,.fn f [] aR),(5,.int .i64 (.ofNat (k+1)))] [] .none aj)))/\(¬k<N->Q (.exit 0) (ah.mk [(0,.slice b 0 N (.a1 1)),(1,.fn f [] aR),(5,.int .i64 (.ofNat k))] [] .none h))):
  a4 Tryz.prog Tryz.f92 call [1,1,0,1,0,0] ⟨[(0,.slice b 0 N (.a1 1)),(1,.fn f [] aR),(5,.int .i64 (.ofNat k))],[],.none,h⟩ Q:=
 dI [(22,.bC .o),(27,.bC .o),(31,.bC .fS),(4002,.g2 [0,1,5,6,7] [(.exit 2,[(0,.fS),(5,.n .i64)])]),(61,.bC .fS),(64,.bC .o)] [0,1,4,5] [(0,.v (.slice b 0 N (.a1 1))),(1,.o (.fn f [] aR)),(5,.v (.int .i64 (.ofNat k)))] rfl (Eq.mp (by kernel_rfl) H)
theorem WU(call:aI->List I->J->av)(b:Nat)(N:Nat)(k:Nat)(f:Nat)(dC:Nat)(M:Nat)(j:Nat)(aR:List I)(h:J){Q:bn->ah->Prop}(H:(j<M->j<M/\∃v1:I,au (h.room 12) b (dC+j*1)=some v1/\(1<=j/\j<9223372036854775808)/\j-1<M/\∃v2:I,au (h.room 12) b (dC+(j-1)*1)=some v2/\∃bt:Bool,∃aj:J,call (.fn f) (v1::v2::aR) (h.room 12)=.ret (.bool bt) aj/\I.sound (.fn f [] aR)=true/\I.sound v1=true/\I.sound v2=true/\(bt=true->j+1<9223372036854775808/\Q .nrm (ah.mk [(0,.slice b 0 N (.a1 1)),(1,.fn f [] aR),(5,.int .i64 (.ofNat k)),(6,.slice b dC M (.a1 1)),(7,.int .i64 (.ofNat (j+1)))] [] .none aj))/\(bt=false->j<M/\∃aD:Nat,au aj b (dC+j*1)=some (.ptr aD 0)/\k<N/\∃ax:J,aM.storeCells aj b (0+k*1) [.ptr aD 0]=some ax/\k+1<9223372036854775808/\j+1<9223372036854775808/\Q .nrm (ah.mk [(0,.slice b 0 N (.a1 1)),(1,.fn f [] aR),(5,.int .i64 (.ofNat (k+1))),(6,.slice b dC M (.a1 1)),(7,.int .i64 (.ofNat (j+1)))] [] .none ax)))/\(¬j<M->Q (.exit 2) (ah.mk [(0,.slice b 0 N (.a1 1)),(1,.fn f [] aR),(5,.int .i64 (.ofNat k)),(6,.slice b dC M (.a1 1)),(7,.int .i64 (.ofNat j))] [] .none h))):
  a4 Tryz.prog Tryz.f92 call [1,1,0,1,0,0,1,0,0,1,0,1,0,1,0,0] ⟨[(0,.slice b 0 N (.a1 1)),(1,.fn f [] aR),(5,.int .i64 (.ofNat k)),(6,.slice b dC M (.a1 1)),(7,.int .i64 (.ofNat j))],[],.none,h⟩ Q:=
 dI [(42,.bC .o),(47,.bC .o)] [0,1,5,6,7] [(0,.v (.slice b 0 N (.a1 1))),(1,.o (.fn f [] aR)),(5,.v (.int .i64 (.ofNat k))),(6,.v (.slice b dC M (.a1 1))),(7,.v (.int .i64 (.ofNat j)))] rfl (Eq.mp (by kernel_rfl) H)
theorem WV(m:Nat)(b:Nat)(off:Nat)(N:Nat)(cp:b3)(h:J){R:av->Prop}(H:∃v1:I,∃aj:J,dy Tryz.prog (J.push h (.cells [] 35 .own 0 0)) 50 (some 50) (.slice h.n 0 0 (.exact 0)) (.slice b off N cp)=some (v1,aj)/\R (.ret v1 aj)):
  R (Y (m+1) (.fn 93) [.slice b off N cp] h):=
 dJ (intr:=b1) [(7,.bC .o)] [(0,.v (.slice b off N cp))] Tryz.func93 (by kernel_rfl) (by kernel_rfl) (by kernel_rfl) rfl (Eq.mp (by kernel_rfl) H)
theorem WW(m:Nat)(h:J){R:av->Prop}(H:R (.ret .a0 h)):
  R (Y (m+1) (.fn 93) [.a0] h):=
 dJ (intr:=b1) [] [(0,.v .a0)] Tryz.func93 (by kernel_rfl) (by kernel_rfl) (by kernel_rfl) rfl (Eq.mp (by kernel_rfl) H)
theorem WX(m:Nat)(v:I)(f:Nat)(aR:List I)(h:J){R:av->Prop}(H:I.cQ (.fn f [] aR)=true/\∃bt:Bool,∃aj:J,(Y m) (.fn 90) [v,.fn 91 [] [.ptr h.n 0]] (J.push h (.cells [.fn f [] aR] 116 .own 0 0))=.ret (.bool bt) aj/\(bt=true->∃v1:I,∃ax:J,(Y m) (.fn 93) [v] aj=.ret v1 ax/\∃v2:I,∃aC:J,(Y m) (.fn 92) [v1,.fn 94 [] [.ptr h.n 0]] ax=.ret v2 aC/\∃aD:Nat,b9 Tryz.prog aC 50 v2=some (.int .i64 (.ofNat aD))/\∃bm:Nat,b9 Tryz.prog aC 50 v=some (.int .i64 (.ofNat bm))/\R (.ret (.bool (a8 (.ofNat aD) (.ofNat bm))) aC))/\(bt=false->R (.ret (.bool false) aj))):
  R (Y (m+1) (.fn 71) [v,.fn f [] aR] h):=
 dJ (intr:=b1) [] [(0,.o v),(1,.o (.fn f [] aR))] Tryz.func71 (by kernel_rfl) (by kernel_rfl) (by kernel_rfl) rfl (Eq.mp (by kernel_rfl) H)
theorem WY(m:Nat)(v:I)(h:J){R:av->Prop}(H:∃bt:Bool,∃aj:J,(Y m) (.fn 43) [v] h=.ret (.bool bt) aj/\R (.ret (.bool !bt) aj)):
  R (Y (m+1) (.fn 62) [v] h):=
 dJ (intr:=b1) [] [(0,.o v)] Tryz.func62 (by kernel_rfl) (by kernel_rfl) (by kernel_rfl) rfl (Eq.mp (by kernel_rfl) H)
theorem WZ(m:Nat)(s:List UInt8)(h:J){R:av->Prop}(H:∃bt:Bool,∃aj:J,(Y m) (.fn 67) [.str s] h=.ret (.bool bt) aj/\R (.ret (.bool !bt) aj)):
  R (Y (m+1) (.fn 66) [.str s] h):=
 dJ (intr:=b1) [] [(0,.v (.str s))] Tryz.func66 (by kernel_rfl) (by kernel_rfl) (by kernel_rfl) rfl (Eq.mp (by kernel_rfl) H)
theorem W0(m:Nat)(s:List UInt8)(h:J){R:av->Prop}(H:R (.ret (.str s) h)):
  R (Y (m+1) (.fn 69) [.str s] h):=
 dJ (intr:=b1) [] [(0,.v (.str s))] Tryz.func69 (by kernel_rfl) (by kernel_rfl) (by kernel_rfl) rfl (Eq.mp (by kernel_rfl) H)
theorem W1(m:Nat)(r:Nat)(h:J){R:av->Prop}(H:∃aD:Nat,au h r (0+0)=some (.int .i64 (.ofNat aD))/\(aD=9->R (.ret (.bool true) h))/\(¬aD=9->∃bm:Nat,au h r (0+0)=some (.int .i64 (.ofNat bm))/\R (.ret (.bool (a8 (.ofNat bm) (.ofNat 1))) h))):
  R (Y (m+1) (.fn 70) [.ptr r 0] h):=
 dJ (intr:=b1) [] [(0,.v (.ptr r 0))] Tryz.func70 (by kernel_rfl) (by kernel_rfl) (by kernel_rfl) rfl (Eq.mp (by kernel_rfl) H)
theorem W2(m:Nat)(r:Nat)(h:J){R:av->Prop}(H:∃aD:Nat,∃aj:J,(Y m) (.fn 16) [.ptr r 0] h=.ret (.int .i64 (.ofNat aD)) aj/\(60<aD->R (.ret (.int .i64 (.ofNat 3)) aj))/\(¬60<aD->∃bt:Bool,∃ax:J,(Y m) (.fn 43) [.ptr r 0] aj=.ret (.bool bt) ax/\(bt=true->R (.ret (.int .i64 (.ofNat 0)) ax))/\(bt=false->R (.ret (.int .i64 (.ofNat 2)) ax)))):
  R (Y (m+1) (.fn 25) [.ptr r 0] h):=
 dJ (intr:=b1) [] [(0,.v (.ptr r 0))] Tryz.func25 (by kernel_rfl) (by kernel_rfl) (by kernel_rfl) rfl (Eq.mp (by kernel_rfl) H)
theorem W3(m:Nat)(h:J){R:av->Prop}(H:R (.ret (.int .i64 (.ofNat 1)) h)):
  R (Y (m+1) (.fn 25) [.bb] h):=
 dJ (intr:=b1) [] [(0,.v .bb)] Tryz.func25 (by kernel_rfl) (by kernel_rfl) (by kernel_rfl) rfl (Eq.mp (by kernel_rfl) H)
theorem r0{n:Nat}{q:Nat->Bool}(h:∀j,j<n->q j=false):(List.range n).any q=false:=by
 rw[List.any_eq_false];intro j aL;rw[h j (by simpa using aL)];simp
theorem vP{n i:Nat}{q:Nat->Bool}(af:i<n)(h:q i=true):(List.range n).any q=true:=List.any_eq_true.2 ⟨i,by simpa using af,h⟩
theorem l6{f:Nat}{aR:List I}(h:jw aR=true):I.sound (.fn f [] aR)=true:=by simp[I.sound,jw,h]
theorem Fp(z:I)(aZ:z.cQ=true)(L:List I)(k:Nat)(aq:k<L.length):fN k [z] L=some (L.set k z):=by
 have h:=x0 (L.take k) [z] (L.drop k) (by simp[aZ]) (by simp;omega)
 rw[List.length_take,Nat.min_eq_left (by omega),List.take_append_drop] at h
 rw[h,List.drop_drop]
 congr 1
 rw[List.set_eq_take_append_cons_drop,if_pos aq]
 rfl
theorem Lx(xs:List I)(aa:xs.all I.cQ=true)(L:List I)(k:Nat)(aq:k+xs.length<=L.length):∃r3,fN k xs L=some r3/\r3.length=L.length:=by
 have h:=x0 (L.take k) xs (L.drop k) aa (by simp;omega)
 rw[List.length_take,Nat.min_eq_left (by omega),List.take_append_drop] at h
 exact⟨_,h,by simp;omega⟩
theorem W4:∀(l cs:List I) (o:Nat),(∀i (af:i<l.length),nth (o+i) cs=some l[i])->takeN l.length (jn o cs)=some l:=by
 have base:∀(l cs:List I),(∀i (af:i<l.length),nth i cs=some l[i])->takeN l.length cs=some l:=by
  intro l
  induction l with
  |nil=>intro cs _;rfl
  |cons a l a6=>
   intro cs h
   cases cs with
   |nil=>have:=h 0 (by simp);simp[nth] at this
   |cons c cs=>
    have h0:=h 0 (by simp)
    simp only[nth,List.getElem_cons_zero,Option.some.injEq] at h0
    subst h0
    have:=a6 cs (λi af=>by have:=h (i+1) (by simpa using af);simpa[nth] using this)
    simp only[List.length_cons,takeN,this]
 intro l cs o
 induction o generalizing cs with
 |zero=>intro h;exact base l cs (λi af=>by have:=h i af;rwa [Nat.zero_add] at this)
 |succ o a6=>
  intro h
  cases cs with
  |nil=>
   cases l with
   |nil=>rfl
   |cons a l=>have:=h 0 (by simp);simp[nth] at this
  |cons c cs=>
   refine a6 cs (λi af=>?_)
   have:=h i af
   rw[show o+1+i=(o+i)+1 by omega] at this
   simpa[nth] using this
theorem c7.src{B:Nat}{h:J}{b off:Nat}{cp:b3}{vs:List I}(aw:∀i (af:i<vs.length),au h b (off+i*1)=some vs[i])(h0:0<vs.length)(ag:cp≠ .dead):fP h 1 (.slice b off vs.length cp)=some (vs.length,vs):=by
 have ae:∃cs e k aN up,h.get b=some (.cells cs e k aN up):=by
  have:=aw 0 h0
  unfold au at this
  split at this
  · rename_i cs e k aN up al
    exact⟨cs,e,k,aN,up,al⟩
  · cases this
 obtain⟨cs,e,k,aN,up,al⟩:=ae
 have fU:aM.loadCells h b off (vs.length*1)=some vs:=by
  refine pb al ?_
  rw[Nat.mul_one]
  refine W4 vs cs off (λi af=>?_)
  have:=aw i af
  simp only[au,al,Nat.mul_one] at this
  exact this
 cases cp with
 |dead=>exact absurd rfl ag
 |exact c=>simp only[fP,fU]
 |a1 c=>simp only[fP,fU]
def hS(h:J)(b:Nat)(el:Nat)(L:List I):Prop:=h.get b=some (.cells L el .a1 0 0)
theorem hS.nH{h:J}{b el:Nat}{L:List I}(a2:hS h b el L){i o:Nat}(af:i<L.length)(e:o=i):au h b o=some L[i]:=by
 subst e;exact nu a2 (List.getElem?_eq_getElem af)
theorem W5(m:Nat){B:Nat}{h:J}{v:I}{vs:List I}(f:Nat)(aR:List I)(q:Nat->Bool)(aB:c7 B h v vs)(hlen:vs.length<=90000)(hf:∀i (af:i<vs.length) x,Ext B h x->cN B x (.bool (q i)) (Y m (.fn f) (vs[i]::aR) x)):
  cN B h (.bool ((List.range vs.length).any q)) (Y (m+2) (.fn 65) [v,.fn f [] aR] h):=by
 refine Ws (m+1) v f aR h ?_
 have key:∃i g,Y (m+1) (.fn 84) [v,.fn f [] aR] h=.ret (.int .i64 i) g/\fb (Int.ofNat 0) i=(List.range vs.length).any q/\Ext B h g:=by
  refine Wt m v f aR h (R:=λx=>∃i g,x=.ret (.int .i64 i) g/\fb (Int.ofNat 0) i=(List.range vs.length).any q/\Ext B h g) ⟨vs.length,aB.len (t:=63) (e:=9) (by kernel_rfl),?_⟩
  refine a4.loop (by kernel_rfl) (λk st=>∃i x Γ,st=⟨Γ,[],.none,x⟩/\cl [(0,v),(1,.fn f [] aR),(7,.int .i64 (Int.ofNat vs.length)),(8,.int .i64 (Int.ofNat i))] Γ/\vs.length-i=k/\i<=vs.length/\Ext B h x/\∀j,j<i->q j=false) ?_ vs.length _ (by omega) ⟨0,h,_,rfl,⟨rfl,rfl,rfl,rfl,trivial⟩,by omega,by omega,Ext.refl _ _,λj aL=>by omega⟩
  rintro k st ⟨i,x,Γ,rfl,cP,aq,af,aa,aT⟩
  rcases aB with⟨rfl,rfl⟩|⟨b,off,cp,rfl,ae,aw,aO,ao⟩
  · exact a4.pre (Wv (Y m) _ i f aR _ x ⟨by simp,.inl ⟨x,_,rfl,rfl,trivial,_,x,rfl,rfl,aa⟩⟩) cP rfl rfl rfl
  · refine a4.pre (Wu (Y m) b off _ i f aR cp x ⟨λab=>⟨ab,_,iS aa ae (aw i ab),?_⟩,λab=>?_⟩) cP rfl rfl rfl
    · obtain⟨g,aG,bA⟩:=hf i ab x aa
      have al:=aa.trans (Nat.le_refl _) bA
      refine⟨q i,g,aG,λag=>?_,λag=>?_⟩
      · exact .inr ⟨i,g,_,rfl,rfl,⟨rfl,trivial⟩,_,g,rfl,by rw[vP ab ag];exact mA (by omega),al⟩
      · refine⟨by omega,_,(by show _<k;omega),i+1,g,_,rfl,⟨rfl,rfl,rfl,rfl,trivial⟩,rfl,by omega,al,λj aL=>?_⟩
        by_cases e:j=i
        · rw[e];exact ag
        · exact aT j (by omega)
    · exact .inl ⟨x,_,rfl,rfl,trivial,_,x,rfl,by rw[r0 (λj aL=>aT j (by omega))];rfl,aa⟩
 obtain⟨i,g,aG,aA,bA⟩:=key
 exact⟨i,g,aG,cN.of (h4 aA.symm) bA⟩
theorem W6(m:Nat){B:Nat}{h:J}{v:I}{vs:List I}(f:Nat)(aR:List I)(q:Nat->Nat->Bool)(aB:c7 B h v vs)(hlen:vs.length<=90000)(hz:jw aR=true)(eA:∀i (af:i<vs.length),I.sound vs[i]=true)(hf:∀i j (af:i<vs.length) (aL:j<vs.length) x,Ext B h x->cN B x (.int .i64 (if q i j then Int.negSucc 0 else Int.ofNat 1)) (Y m (.fn f) (vs[i]::vs[j]::aR) x)):
  cN B h (.bool (!(List.range vs.length).any (λi=>decide (0<i)&&q i (i-1)))) (Y (m+1) (.fn 86) [v,.fn f [] aR] h):=by
 by_cases h0:vs.length=0
 · refine Wx m v f aR h ⟨0,by rw[<-h0];exact aB.len (t:=63) (e:=9) (by kernel_rfl),Int.negSucc 0,by kernel_rfl,?_⟩
   refine a4.loop (by kernel_rfl) (λk st=>∃Γ,st=⟨Γ,[],.none,h⟩/\cl [(0,v),(1,.fn f [] aR),(5,.int .i64 (Int.negSucc 0))] Γ) ?_ 1 _ (by omega) ⟨_,rfl,rfl,rfl,rfl,trivial⟩
   rintro k st ⟨Γ,rfl,cP⟩
   exact a4.pre (Wz (Y m) v f aR h ⟨rfl,h,_,rfl,rfl,trivial,cN.of (h4 (by rw[h0];rfl)) (Ext.refl _ _)⟩) cP rfl rfl rfl
 · refine Ww m v f aR h ⟨vs.length,aB.len (t:=63) (e:=9) (by kernel_rfl),⟨by omega,by omega⟩,?_⟩
   refine a4.loop (by kernel_rfl) (λk st=>∃i x Γ,st=⟨Γ,[],.none,x⟩/\cl [(0,v),(1,.fn f [] aR),(5,.int .i64 (Int.ofNat i))] Γ/\i=k/\i<vs.length/\Ext B h x/\∀j,i<j->j<vs.length->q j (j-1)=false) ?_ (vs.length-1) _ (by omega) ⟨vs.length-1,h,_,rfl,⟨rfl,rfl,rfl,trivial⟩,by omega,by omega,Ext.refl _ _,λj aL oY=>by omega⟩
   rintro k st ⟨i,x,Γ,rfl,cP,aq,af,aa,aT⟩
   rcases aB with⟨rfl,rfl⟩|⟨b,off,cp,rfl,ae,aw,aO,ao⟩
   · simp at h0
   · refine a4.pre (Wy (Y m) b off _ i f aR cp x ⟨λab=>?_,λab=>?_⟩) cP rfl rfl rfl
     · have ak:=aa.h3 (k:=12)
       obtain⟨g,aG,bA⟩:=hf i (i-1) af (by omega) _ ak
       have al:=ak.trans (Nat.le_refl _) bA
       refine⟨af,_,iS ak ae (aw i af),⟨by omega,by omega⟩,by omega,_,iS ak ae (aw (i-1) (by omega)),_,g,aG,l6 hz,eA i af,eA (i-1) (by omega),λag=>?_,λag=>?_⟩
       · have ov:q i (i-1)=true:=by
           cases qb:q i (i-1) with
           |true=>rfl
           |false=>rw[qb] at ag;exact absurd ag (by decide)
         exact .inr ⟨g,_,rfl,rfl,⟨rfl,trivial⟩,cN.of (h4 (by rw[vP af (by simp[ab,ov])];rfl)) al⟩
       · have ov:q i (i-1)=false:=by
           cases qb:q i (i-1) with
           |false=>rfl
           |true=>rw[qb] at ag;exact absurd ag (by decide)
         refine⟨⟨by omega,by omega⟩,_,(by show _<k;omega),i-1,g,_,rfl,⟨rfl,rfl,rfl,trivial⟩,rfl,by omega,al,λj aL oY=>?_⟩
         by_cases e:j=i
         · rw[e];exact ov
         · exact aT j (by omega) oY
     · refine .inl ⟨x,_,rfl,rfl,trivial,cN.of (h4 ?_) aa⟩
       rw[r0 (λj aL=>?_)];rfl
       by_cases e:0<j
       · rw[aT j (by omega) aL,Bool.and_false]
       · simp[e]
theorem Ly(m:Nat){B:Nat}{h:J}{v:I}{vs:List I}(f:Nat)(aR:List I)(q:Nat->Bool)(aB:c7 B h v vs)(hlen:vs.length<=90000)(hf:∀i (af:i<vs.length) x,Ext B h x->cN B x (.bool (q i)) (Y m (.fn f) (vs[i]::aR) x)):
  cN B h (.bool ((List.range vs.length).any q)) (Y (m+2) (.fn 63) [v,.fn f [] aR] h):=by
 refine WI (m+1) v f aR h ?_
 have key:∃i g,Y (m+1) (.fn 82) [v,.fn f [] aR] h=.ret (.int .i64 i) g/\fb (Int.ofNat 0) i=(List.range vs.length).any q/\Ext B h g:=by
  refine WJ m v f aR h (R:=λx=>∃i g,x=.ret (.int .i64 i) g/\fb (Int.ofNat 0) i=(List.range vs.length).any q/\Ext B h g) ⟨vs.length,aB.len (t:=50) (e:=35) (by kernel_rfl),?_⟩
  refine a4.loop (by kernel_rfl) (λk st=>∃i x Γ,st=⟨Γ,[],.none,x⟩/\cl [(0,v),(1,.fn f [] aR),(7,.int .i64 (Int.ofNat vs.length)),(8,.int .i64 (Int.ofNat i))] Γ/\vs.length-i=k/\i<=vs.length/\Ext B h x/\∀j,j<i->q j=false) ?_ vs.length _ (by omega) ⟨0,h,_,rfl,⟨rfl,rfl,rfl,rfl,trivial⟩,by omega,by omega,Ext.refl _ _,λj aL=>by omega⟩
  rintro k st ⟨i,x,Γ,rfl,cP,aq,af,aa,aT⟩
  rcases aB with⟨rfl,rfl⟩|⟨b,off,cp,rfl,ae,aw,aO,ao⟩
  · exact a4.pre (WL (Y m) _ i f aR _ x ⟨by simp,.inl ⟨x,_,rfl,rfl,trivial,_,x,rfl,rfl,aa⟩⟩) cP rfl rfl rfl
  · refine a4.pre (WK (Y m) b off _ i f aR cp x ⟨λab=>⟨ab,_,iS aa ae (aw i ab),?_⟩,λab=>?_⟩) cP rfl rfl rfl
    · obtain⟨g,aG,bA⟩:=hf i ab x aa
      have al:=aa.trans (Nat.le_refl _) bA
      refine⟨q i,g,aG,λag=>?_,λag=>?_⟩
      · exact .inr ⟨i,g,_,rfl,rfl,⟨rfl,trivial⟩,_,g,rfl,by rw[vP ab ag];exact mA (by omega),al⟩
      · refine⟨by omega,_,(by show _<k;omega),i+1,g,_,rfl,⟨rfl,rfl,rfl,rfl,trivial⟩,rfl,by omega,al,λj aL=>?_⟩
        by_cases e:j=i
        · rw[e];exact ag
        · exact aT j (by omega)
    · exact .inl ⟨x,_,rfl,rfl,trivial,_,x,rfl,by rw[r0 (λj aL=>aT j (by omega))];rfl,aa⟩
 obtain⟨i,g,aG,aA,bA⟩:=key
 exact⟨i,g,aG,cN.of (h4 aA.symm) bA⟩
theorem W7(m:Nat){B:Nat}{h:J}{v:I}{vs:List I}(f:Nat)(aR:List I)(q:Nat->Nat->Bool)(aB:c7 B h v vs)(hlen:vs.length<=90000)(hz:jw aR=true)(eA:∀i (af:i<vs.length),I.sound vs[i]=true)(hf:∀i j (af:i<vs.length) (aL:j<vs.length) x,Ext B h x->cN B x (.int .i64 (if q i j then Int.negSucc 0 else Int.ofNat 1)) (Y m (.fn f) (vs[i]::vs[j]::aR) x)):
  cN B h (.bool (!(List.range vs.length).any (λi=>decide (0<i)&&q i (i-1)))) (Y (m+1) (.fn 90) [v,.fn f [] aR] h):=by
 by_cases h0:vs.length=0
 · refine WN m v f aR h ⟨0,by rw[<-h0];exact aB.len (t:=50) (e:=35) (by kernel_rfl),Int.negSucc 0,by kernel_rfl,?_⟩
   refine a4.loop (by kernel_rfl) (λk st=>∃Γ,st=⟨Γ,[],.none,h⟩/\cl [(0,v),(1,.fn f [] aR),(5,.int .i64 (Int.negSucc 0))] Γ) ?_ 1 _ (by omega) ⟨_,rfl,rfl,rfl,rfl,trivial⟩
   rintro k st ⟨Γ,rfl,cP⟩
   exact a4.pre (WQ (Y m) v f aR h ⟨rfl,h,_,rfl,rfl,trivial,cN.of (h4 (by rw[h0];rfl)) (Ext.refl _ _)⟩) cP rfl rfl rfl
 · refine WM m v f aR h ⟨vs.length,aB.len (t:=50) (e:=35) (by kernel_rfl),⟨by omega,by omega⟩,?_⟩
   refine a4.loop (by kernel_rfl) (λk st=>∃i x Γ,st=⟨Γ,[],.none,x⟩/\cl [(0,v),(1,.fn f [] aR),(5,.int .i64 (Int.ofNat i))] Γ/\i=k/\i<vs.length/\Ext B h x/\∀j,i<j->j<vs.length->q j (j-1)=false) ?_ (vs.length-1) _ (by omega) ⟨vs.length-1,h,_,rfl,⟨rfl,rfl,rfl,trivial⟩,by omega,by omega,Ext.refl _ _,λj aL oY=>by omega⟩
   rintro k st ⟨i,x,Γ,rfl,cP,aq,af,aa,aT⟩
   rcases aB with⟨rfl,rfl⟩|⟨b,off,cp,rfl,ae,aw,aO,ao⟩
   · simp at h0
   · refine a4.pre (WO (Y m) b off _ i f aR cp x ⟨λab=>?_,λab=>?_⟩) cP rfl rfl rfl
     · have ak:=aa.h3 (k:=12)
       obtain⟨g,aG,bA⟩:=hf i (i-1) af (by omega) _ ak
       have al:=ak.trans (Nat.le_refl _) bA
       refine⟨af,_,iS ak ae (aw i af),⟨by omega,by omega⟩,by omega,_,iS ak ae (aw (i-1) (by omega)),_,g,aG,l6 hz,eA i af,eA (i-1) (by omega),λag=>?_,λag=>?_⟩
       · have ov:q i (i-1)=true:=by
           cases qb:q i (i-1) with
           |true=>rfl
           |false=>rw[qb] at ag;exact absurd ag (by decide)
         exact .inr ⟨g,_,rfl,rfl,⟨rfl,trivial⟩,cN.of (h4 (by rw[vP af (by simp[ab,ov])];rfl)) al⟩
       · have ov:q i (i-1)=false:=by
           cases qb:q i (i-1) with
           |false=>rfl
           |true=>rw[qb] at ag;exact absurd ag (by decide)
         refine⟨⟨by omega,by omega⟩,_,(by show _<k;omega),i-1,g,_,rfl,⟨rfl,rfl,rfl,trivial⟩,rfl,by omega,al,λj aL oY=>?_⟩
         by_cases e:j=i
         · rw[e];exact ov
         · exact aT j (by omega) oY
     · refine .inl ⟨x,_,rfl,rfl,trivial,cN.of (h4 ?_) aa⟩
       rw[r0 (λj aL=>?_)];rfl
       by_cases e:0<j
       · rw[aT j (by omega) aL,Bool.and_false]
       · simp[e]
end Go.Proofs.cF
namespace Go.Proofs.cF
open Go aM Go.Proofs c_
set_option maxRecDepth 100000
set_option maxHeartbeats 1000000
theorem Lz{n:Nat}(h:¬n<2):2<=n:=by omega
theorem yF{P:Program}{h:J}{T E b n k:Nat}(hu:P.underlying T=some (.slice E))(hs:dh P E=some 1)(h0:0<k)(aq:k<n):de P h T (.slice b 0 n (.a1 1)) (some (.int .i64 (Int.ofNat k))) none none=some (.slice b (0+k*1) (n-k) (.a1 1)):=by
 have bt:Nat.ble n n=true:=by rw[Nat.ble_eq];omega
 have bH:Nat.ble k n=true:=by rw[Nat.ble_eq];omega
 have ej:Nat.blt k n=true:=by rw[Nat.blt_eq];exact aq
 have df:¬k=0:=by omega
 simp only[de,hu,hs,bounds,g8,eC,bt,bH,ej,if_true,if_neg df]
theorem Bt{P:Program}{h:J}{T E b n k:Nat}(hu:P.underlying T=some (.slice E))(hs:dh P E=some 1)(aq:k<=n):de P h T (.slice b 0 n (.a1 1)) none (some (.int .i64 (Int.ofNat k))) none=some (.slice b 0 k (.a1 1)):=by
 have bt:Nat.ble n n=true:=by rw[Nat.ble_eq];omega
 have bH:Nat.ble k n=true:=by rw[Nat.ble_eq];omega
 have ej:Nat.ble 0 k=true:=by rw[Nat.ble_eq];omega
 simp only[de,hu,hs,bounds,g8,eC,bt,bH,ej,if_true,Nat.sub_zero]
theorem LA:∀a:a5,dB a a=false
 |[]=>rfl
 |x::a=>by rw[yn,if_pos rfl];exact LA a
theorem LB:∀a b:a5,dB a b=true->dB b a=false
 |[],b,h=>by cases b<;>rfl
 |x::a,[],h=>by simp[dB] at h
 |x::a,y::b,h=>by
  rw[yn] at h⊢
  by_cases e:x.toNat=y.toNat
  · rw[if_pos e] at h;rw[if_pos e.symm];exact LB a b h
  · rw[if_neg e] at h;rw[if_neg (λh=>e h.symm)]
    have:x.toNat<y.toNat:=by simpa using h
    simp;omega
theorem Fq:∀a b:a5,dB a b=false->dB b a=false->a=b
 |[],[],_,_=>rfl
 |[],y::b,h,_=>by simp[dB] at h
 |x::a,[],_,h=>by simp[dB] at h
 |x::a,y::b,ab,ad=>by
  rw[yn] at ab ad
  by_cases e:x.toNat=y.toNat
  · rw[if_pos e] at ab;rw[if_pos e.symm] at ad
    rw[Fq a b ab ad,show x=y from UInt8.toNat_inj.1 e]
  · rw[if_neg e] at ab;rw[if_neg (λh=>e h.symm)] at ad
    simp at ab ad;omega
theorem LC(a b:a5):dB a b=(!dB b a&&!dF b a):=by
 by_cases e:b=a
 · subst e;rw[LA,JP];rfl
 · have ae:dF b a=false:=by
     cases aa:dF b a with
     |false=>rfl
     |true=>exact absurd (by simpa[nW] using aa) e
   rw[ae]
   cases ab:dB a b with
   |true=>rw[LB a b ab];rfl
   |false=>
    cases ad:dB b a with
    |true=>rfl
    |false=>exact absurd (Fq a b ab ad).symm e
def py(w:Nat->a5)(n:Nat):Bool:=!(List.range n).any (λi=>decide (0<i)&&!dB (w (i-1)) (w i))
theorem LD(w:Nat->a5)(n:Nat)(hs:(!(List.range n).any (λi=>decide (0<i)&&dB (w i) (w (i-1))))=true):py w n=(!(List.range n).any (λi=>decide (0<i)&&dF (w i) (w (i-1)))):=by
 unfold py
 congr 1
 rw[Bool.not_eq_true',List.any_eq_false] at hs
 rw[Bool.eq_iff_iff,List.any_eq_true,List.any_eq_true]
 refine exists_congr λi=>and_congr_right λaf=>?_
 have:=hs i af
 rw[LC (w (i-1)) (w i)]
 by_cases e:0<i
 · have aw:dB (w i) (w (i-1))=false:=by simpa[e] using this
   rw[aw];simp[e]
 · simp[e]
theorem LF(w:Nat->a5)(n:Nat)(hs:(!(List.range n).any (λi=>decide (0<i)&&dB (w i) (w (i-1))))=false):py w n=false:=by
 unfold py
 rw[Bool.not_eq_false',List.any_eq_true] at hs⊢
 obtain⟨i,af,aT⟩:=hs
 refine⟨i,af,?_⟩
 rw[LC (w (i-1)) (w i)]
 simp only[Bool.and_eq_true] at aT⊢
 rw[aT.2];exact⟨aT.1,rfl⟩
def yG(L vs:List I):Prop:=∀i (af:i<L.length),∃s,∃hs:s<vs.length,L[i]=vs[s]
theorem yG.set{L vs:List I}(h:yG L vs)(k:Nat){s:Nat}(hs:s<vs.length):yG (L.set k vs[s]) vs:=by
 intro i af
 rw[List.getElem_set]
 split
 · exact⟨s,hs,rfl⟩
 · exact h i (by simpa using af)
theorem LG{a:Bool}{n k:Nat}(h:a=decide (k=n)):a8 (Int.ofNat k) (Int.ofNat n)=a:=by rw[tM,h]
theorem LH{E U:Nat}{h:J}{v:I}{vs:List I}{a:Nat}(hu:Tryz.prog.underlying U=some (.slice E))(fy:oG Tryz.prog (some U)=true){i:TypeInfo}{z:I}(af:Tryz.prog.info? E=some i)(bw:i.size=1)(nj:i.bytes<=1000)(aZ:d_ Tryz.prog E=some z)(ia:z.cells.length=1)(aB:fP h 1 v=some (vs.length,vs))(h0:0<vs.length)(aw:vs.length<=90000)(ag:vs.all I.cQ=true)(aS:h.get a=some (.cells [] E .own 0 0)):
  dy Tryz.prog h U (some U) (.slice a 0 0 (.exact 0)) v=some (.slice h.n 0 vs.length (.a1 1),h.push (.cells vs E .a1 0 0)):=by
 obtain⟨k,aq⟩:∃k,vs.length=k+1:=⟨vs.length-1,by omega⟩
 have hmul:(4*(0+(k+1))+2048)*(i.bytes+1)<=(4*90000+2048)*1001:=Nat.mul_le_mul (by omega) (by omega)
 have iR:kh h E i.bytes 1 (0+(k+1)) z ([]++vs) 0=some (.slice h.n 0 (0+(k+1)) (.a1 1),h.push (.cells ([]++vs) E .a1 0 0)):=
  va (by unfold kI;rw[Nat.ble_eq];omega) (by rw[ia];rfl) (by rw[List.nil_append];exact ag)
 have oc:Nat.ble (0+(k+1)) 0=false:=by
  cases aa:Nat.ble (0+(k+1)) 0 with
  |false=>rfl
  |true=>have:=Nat.le_of_ble_eq_true aa;omega
 have fU:aM.loadCells h a 0 (0*1)=some []:=by simp only[aM.loadCells,aS];rfl
 rw[aq] at aB
 simp only[dy,hu,fy,af,aZ,bw,aB,aq,oc,fU,iR]
 rw[List.nil_append,Nat.zero_add]
theorem LI(m:Nat){B:Nat}{h:J}{v:I}{vs:List I}(cM:B<=h.n)(aB:c7 B h v vs)(hlen:vs.length<=90000)(ag:vs.all I.cQ=true):(v=.a0/\vs=[]/\Y (m+1) (.fn 38) [v] h=.ret .a0 h)\/(0<vs.length/\∃b an,Y (m+1) (.fn 38) [v] h=.ret (.slice b 0 vs.length (.a1 1)) an/\B<=b/\b<an.n/\hS an b 9 vs/\Ext B h an):=by
 rcases aB with⟨rfl,rfl⟩|⟨b,off,cp,rfl,ae,aw,aO,ao⟩
 · exact .inl ⟨rfl,rfl,WG m h (R:=λx=>x=.ret .a0 h) rfl⟩
 · right
   refine⟨aO,?_⟩
   obtain⟨H,cm⟩:∃H,H=h.push (.cells [] 9 .own 0 0):=⟨_,rfl⟩
   have dA:Ext B h H:=by rw[cm];exact Ext.push cM _
   have lr:H.n=h.n+1:=by rw[cm];rfl
   have fy:=c7.src (B:=B) (h:=H) (λi af=>iS dA ae (aw i af)) aO ao
   obtain⟨i,af⟩:=Option.isSome_iff_exists.1 (show(Tryz.prog.info? 9).isSome=true by kernel_rfl)
   have bw:i.size=1:=by
    have:(Tryz.prog.info? 9).map (·.size)=some 1:=by kernel_rfl
    rw[af] at this;simpa using this
   have nj:i.bytes<=1000:=by
    have:(Tryz.prog.info? 9).map (λi=>Nat.ble i.bytes 1000)=some true:=by kernel_rfl
    rw[af] at this;exact Nat.le_of_ble_eq_true (by simpa using this)
   obtain⟨z,aZ⟩:=Option.isSome_iff_exists.1 (show(d_ Tryz.prog 9).isSome=true by kernel_rfl)
   have ia:z.cells.length=1:=by
    have:(d_ Tryz.prog 9).map (λz=>z.cells.length)=some 1:=by kernel_rfl
    rw[aZ] at this;simpa using this
   have ap:=LH (U:=63) (E:=9) (a:=h.n) (by kernel_rfl) (by kernel_rfl) af bw nj aZ ia fy aO hlen ag (by rw[cm];exact fj rfl)
   refine WE m b off vs.length cp h (R:=λx=>∃b an,x=.ret (.slice b 0 vs.length (.a1 1)) an/\B<=b/\b<an.n/\hS an b 9 vs/\Ext B h an) ?_
   rw[<-cm]
   exact⟨_,_,ap,_,_,rfl,by omega,by simp,fj rfl,dA.trans (Nat.le_refl _) (Ext.push (Nat.le_trans cM dA.n) _)⟩
theorem W8(m:Nat){B b K f:Nat}{h:J}{vs:List I}(aR:List I)(q:Nat->Nat->Bool)(hlen:vs.length<=90000)(kC:B<=b)(di:1<=K)(W9:K<vs.length)(hz:jw aR=true)(eA:∀i (af:i<vs.length),I.sound vs[i]=true)(kr:∀i (af:i<vs.length),∃z:List UInt8,vs[i]=(.str z))(hf:∀i j (af:i<vs.length) (aL:j<vs.length) x,Ext B h x->cN x.n x (.bool (q i j)) (Y m (.fn f) (vs[i]::vs[j]::aR) x))
  {g:J}(ae:b<g.n)(a2:hS g b 9 vs)(aa:Ext B h g){Γ:Env}(cP:cl [(0,.slice b 0 vs.length (.a1 1)),(1,.fn f [] aR),(5,.int .i64 (Int.ofNat K)),(6,.slice b (0+K*1) (vs.length-K) (.a1 1)),(7,.int .i64 (Int.ofNat 1))] Γ):
  a4 Tryz.prog Tryz.f88 (Y m) [1,1,0,1,0,0,1,0,0,1,0,1,0,1,0] ⟨Γ,[],.none,g⟩ (λcd ct=>∃(b0:Nat) (ax:J) (cg:Env),cd=.exit 2/\ct=⟨cg,[],.none,ax⟩/\cl [(0,.slice b 0 vs.length (.a1 1)),(5,.int .i64 (Int.ofNat b0))] cg/\K<=b0/\b0<vs.length/\b<ax.n/\Ext B h ax/\∃L,hS ax b 9 L/\L.length=vs.length):=by
 refine a4.loop (by kernel_rfl) (λt st=>∃j k L x Γ,st=⟨Γ,[],.none,x⟩/\cl [(0,.slice b 0 vs.length (.a1 1)),(1,.fn f [] aR),(5,.int .i64 (Int.ofNat k)),(6,.slice b (0+K*1) (vs.length-K) (.a1 1)),(7,.int .i64 (Int.ofNat j))] Γ/\(vs.length-K)-j=t/\1<=j/\j<=vs.length-K/\K<=k/\k+1<=K+j/\b<x.n/\hS x b 9 L/\L.length=vs.length/\yG L vs/\Ext B h x) ?_ (vs.length-K-1) _ (by omega) ⟨1,K,vs,g,Γ,rfl,cP,by omega,by omega,by omega,by omega,by omega,ae,a2,rfl,λi af=>⟨i,af,rfl⟩,aa⟩
 rintro t st ⟨j,k,L,x,Γ,rfl,cP,a_,aL,CE,aq,Dx,r4,qy,g4,mQ,jS⟩
 refine a4.pre (WD (Y m) b _ k f (0+K*1) _ j aR x ⟨λab=>?_,λab=>?_⟩) cP rfl rfl rfl
 · have ak:=jS.h3 (k:=12)
   have lu:hS (x.room 12) b 9 L:=qy
   have i1:K+j<L.length:=by omega
   have i2:K+j-1<L.length:=by omega
   obtain⟨s,hs,es⟩:=mQ (K+j) i1
   obtain⟨bg,dp,rb⟩:=mQ (K+j-1) i2
   obtain⟨aj,aG,bA⟩:=hf s bg hs dp _ ak
   have dV:=ak.trans (Nat.le_refl _) (bA.le (show B<=(x.room 12).n by simp;omega))
   have ow:b<(x.room 12).n:=by simp;omega
   have mR:hS aj b 9 L:=(bA.get b ow).trans lu
   have qz:b<aj.n:=Nat.lt_of_lt_of_le ow bA.n
   obtain⟨z,aZ⟩:=kr s hs
   refine⟨ab,_,(lu.nH i1 (by omega)).trans (by rw[es]),⟨by omega,by omega⟩,by omega,_,(lu.nH i2 (by omega)).trans (by rw[rb]),_,aj,aG,l6 hz,eA s hs,eA bg dp,λag=>?_,λag=>?_⟩
   · exact⟨by omega,_,(by show _<t;omega),j+1,k,L,aj,_,rfl,⟨rfl,rfl,rfl,rfl,rfl,trivial⟩,rfl,by omega,by omega,by omega,by omega,qz,mR,g4,mQ,dV⟩
   · have ch:aM.storeCells aj b (0+k*1) [(.str z)]=some (aj.set b (some (.cells (L.set k (.str z)) 9 .a1 0 0))):=
       gJ mR (AU _ _) (by rw[show 0+k*1=k by omega];exact Fp _ rfl L k (by omega))
     refine⟨ab,z,(mR.nH i1 (by omega)).trans (by rw[es,aZ]),by omega,_,ch,by omega,by omega,_,(by show _<t;omega),j+1,k+1,L.set k (.str z),_,_,rfl,⟨rfl,rfl,rfl,rfl,rfl,trivial⟩,rfl,by omega,by omega,by omega,by omega,by simp;omega,gI rfl,by simpa using g4,?_,Ext.iQ kC dV⟩
     rw[<-aZ]
     exact mQ.set k hs
 · exact⟨k,x,_,rfl,rfl,⟨rfl,rfl,trivial⟩,aq,by omega,r4,jS,L,qy,g4⟩
theorem W_(m:Nat){B b f:Nat}{h:J}{vs:List I}(aR:List I)(q:Nat->Nat->Bool)(hlen:vs.length<=90000)(kC:B<=b)(hz:jw aR=true)(eA:∀i (af:i<vs.length),I.sound vs[i]=true)(kr:∀i (af:i<vs.length),∃z:List UInt8,vs[i]=(.str z))(hf:∀i j (af:i<vs.length) (aL:j<vs.length) x,Ext B h x->cN x.n x (.bool (q i j)) (Y m (.fn f) (vs[i]::vs[j]::aR) x))
  (ae:b<h.n)(a2:hS h b 9 vs):
  ∃w g k,Y (m+1) (.fn 88) [.slice b 0 vs.length (.a1 1),.fn f [] aR] h=.ret w g/\b9 Tryz.prog g 63 w=some (.int .i64 (Int.ofNat k))/\(!(List.range vs.length).any (λi=>decide (0<i)&&q i (i-1)))=decide (k=vs.length)/\Ext B h g:=by
 refine Lv m (.slice b 0 vs.length (.a1 1)) f aR h (R:=λx=>∃w g k,x=.ret w g/\b9 Tryz.prog g 63 w=some (.int .i64 (Int.ofNat k))/\(!(List.range vs.length).any (λi=>decide (0<i)&&q i (i-1)))=decide (k=vs.length)/\Ext B h g) ⟨vs.length,by rfl,λad=>?_,λad=>?_⟩
 · refine⟨_,h,vs.length,rfl,by rfl,?_,Ext.refl _ _⟩
   rw[r0 (λj aL=>by simp[show¬0<j by omega])];simp
 · replace ad:=Lz ad
   refine a4.loop (by kernel_rfl) (λt st=>∃k x Γ,st=⟨Γ,[],.none,x⟩/\cl [(0,.slice b 0 vs.length (.a1 1)),(1,.fn f [] aR),(5,.int .i64 (Int.ofNat k))] Γ/\vs.length-k=t/\1<=k/\k<=vs.length/\b<x.n/\hS x b 9 vs/\Ext B h x/\∀j,0<j->j<k->q j (j-1)=false) ?_ (vs.length-1) _ (by omega) ⟨1,h,_,rfl,⟨rfl,rfl,rfl,trivial⟩,by omega,by omega,by omega,ae,a2,Ext.refl _ _,λj aL oY=>by omega⟩
   rintro t st ⟨k,x,Γ,rfl,cP,a_,aq,tA,r4,qy,jS,aT⟩
   refine a4.pre (WC (Y m) b _ k f aR x ⟨λab=>?_,λab=>?_⟩) cP rfl rfl rfl
   · have ak:=jS.h3 (k:=11)
     have lu:hS (x.room 11) b 9 vs:=qy
     obtain⟨aj,aG,bA⟩:=hf k (k-1) ab (by omega) _ ak
     have dV:=ak.trans (Nat.le_refl _) (bA.le (show B<=(x.room 11).n by simp;omega))
     have ow:b<(x.room 11).n:=by simp;omega
     have mR:hS aj b 9 vs:=(bA.get b ow).trans lu
     have qz:b<aj.n:=Nat.lt_of_lt_of_le ow bA.n
     refine⟨ab,_,lu.nH ab (by omega),⟨by omega,by omega⟩,by omega,_,lu.nH (by omega) (by omega),_,aj,aG,l6 hz,eA k ab,eA (k-1) (by omega),λag=>?_,λag=>?_⟩
     · have s2:de Tryz.prog aj 63 (.slice b 0 vs.length (.a1 1)) (some (.int .i64 (Int.ofNat k))) none none=some (.slice b (0+k*1) (vs.length-k) (.a1 1)):=yF (E:=9) (by kernel_rfl) (by kernel_rfl) (by omega) ab
       refine⟨_,_,_,_,s2,?_⟩
       refine a4.mono (W8 m aR q hlen kC aq ab hz eA kr hf qz mR dV ⟨rfl,rfl,rfl,rfl,rfl,trivial⟩) ?_
       rintro cd ct ⟨b0,ax,cg,rfl,rfl,ox,xt,Fs,fw,qt,L,g4,Bu⟩
       refine⟨_,_,_,_,b0,ax,cg,rfl,rfl,ox,_,_,_,_,yF (E:=9) (by kernel_rfl) (by kernel_rfl) (by omega) Fs,?_⟩
       obtain⟨z,aZ⟩:=Option.isSome_iff_exists.1 (show(d_ Tryz.prog 9).isSome=true by kernel_rfl)
       have ia:z.cells.length=1/\z.cells.all I.cQ=true:=by
        have ab:(d_ Tryz.prog 9).map (λz=>z.cells.length)=some 1:=by kernel_rfl
        have ad:(d_ Tryz.prog 9).map (λz=>z.cells.all I.cQ)=some true:=by kernel_rfl
        rw[aZ] at ab ad;exact⟨by simpa using ab,by simpa using ad⟩
       have pz:∀n,(fc n z.cells).length=n/\(fc n z.cells).all I.cQ=true:=by
        intro n
        induction n with
        |zero=>exact⟨rfl,rfl⟩
        |succ n a6=>simp only[fc,List.length_append,List.all_append,a6.1,a6.2,ia.1,ia.2];exact⟨by omega,rfl⟩
       obtain⟨r3,eN,fR⟩:=Lx (fc (vs.length-b0) z.cells) (pz _).2 L (0+b0*1) (by rw[(pz _).1,Bu];omega)
       have ch:aM.storeCells ax b (0+b0*1) (fc (vs.length-b0) z.cells)=some (ax.set b (some (.cells r3 9 .a1 0 0))):=gJ g4 (AU _ _) eN
       have hI:oH Tryz.prog ax 63 (.slice b (0+b0*1) (vs.length-b0) (.a1 1))=some (.aP [],ax.set b (some (.cells r3 9 .a1 0 0))):=by
        have hu:Tryz.prog.underlying 63=some (.slice 9):=by kernel_rfl
        simp only[oH,hu,aZ,ch]
        rw[if_neg (by omega)]
       refine⟨_,hI,_,Bt (E:=9) (by kernel_rfl) (by kernel_rfl) (by omega),.inr ⟨_,_,_,rfl,rfl,⟨rfl,trivial⟩,_,_,b0,rfl,by rfl,?_,Ext.iQ kC qt⟩⟩
       rw[vP ab (by rw[ag];simp;omega)]
       simp;omega
     · exact⟨by omega,_,(by show _<t;omega),k+1,aj,_,rfl,⟨rfl,rfl,rfl,trivial⟩,rfl,by omega,by omega,qz,mR,dV,λj aL oY=>by
        by_cases e:j=k
        · rw[e];exact ag
        · exact aT j aL (by omega)⟩
   · refine .inl ⟨_,x,_,rfl,rfl,⟨rfl,trivial⟩,_,_,vs.length,rfl,by rfl,?_,jS⟩
     rw[r0 (λj aL=>?_)]
     · simp
     · by_cases e:0<j
       · rw[aT j e (by omega),Bool.and_false]
       · simp[e]
theorem Xa(m:Nat){B:Nat}{h:J}{v:I}{vs:List I}(f:Nat)(aR:List I)(w:Nat->a5)(cM:B<=h.n)(aB:c7 B h v vs)(hlen:vs.length<=90000)(hz:jw aR=true)(eA:∀i (af:i<vs.length),I.sound vs[i]=true)(kr:∀i (af:i<vs.length),∃z:List UInt8,vs[i]=(.str z))(mQ:∀i (af:i<vs.length) x,Ext B h x->cN x.n x (.str (w i)) (Y m (.fn f) (vs[i]::aR) x)):
  cN B h (.bool (py w vs.length)) (Y (m+3) (.fn 68) [v,.fn f [] aR] h):=by
 refine WH (m+2) v f aR h ?_
 obtain⟨H,cm⟩:∃H,H=h.push (.cells [.fn f [] aR] 114 .own 0 0):=⟨_,rfl⟩
 rw[<-cm]
 have dA:Ext B h H:=by rw[cm];exact Ext.push cM _
 have lr:H.n=h.n+1:=by rw[cm];rfl
 have tO:B<=H.n:=Nat.le_trans cM dA.n
 have p5:H.get h.n=some (.cells [.fn f [] aR] 114 .own 0 0):=by rw[cm];exact fj rfl
 have jT:∀i (af:i<vs.length) x,Ext H.n H x->∃g,Y m (.fn f) (vs[i]::aR) x=.ret (.str (w i)) g/\Ext x.n x g:=λi af x aa=>mQ i af x (dA.trans tO aa)
 have qA:c7 H.n H v vs:=(aB.ck (gK.ext dA (Nat.le_refl _))).le (Nat.le_trans cM dA.n)
 have fu:∀x,Ext H.n H x->au x h.n 0=some (.fn f [] aR):=λx aa=>aU ((aa.get h.n (by omega)).trans p5) rfl
 obtain⟨g,aG,bA⟩:=W6 (m+1) (B:=H.n) (h:=H) (v:=v) (vs:=vs) 87 [.ptr h.n 0] (λi j=>dB (w i) (w j)) qA hlen rfl eA (λi j af aL x aa=>by
  have ak:Ext H.n H (x.room 7):=aa.h3
  obtain⟨aj,aG,bA⟩:=jT i af _ ak
  have g6:Ext H.n H aj:=ak.trans ak.n bA
  obtain⟨ax,a9,cX⟩:=jT j aL _ g6
  refine WA m vs[i] vs[j] h.n f aR x ⟨fu _ ak,_,aj,aG,fu _ g6,_,ax,a9,l6 hz,eA i af,l6 hz,fu _ ak,eA j aL,λag=>?_,λag=>?_⟩
  · exact cN.of (by rw[ag];rfl) ((g6.trans g6.n cX).le (Nat.le_refl _)|> λe=>by have df:Ext H.n x ax:=⟨by have a:=bA.n;have b:=cX.n;simp at a;omega,λb ae=>by rw[(g6.trans g6.n cX).get b ae,aa.get b ae]⟩;exact df)
  · exact cN.of (by rw[ag];rfl) ((g6.trans g6.n cX).le (Nat.le_refl _)|> λe=>by have df:Ext H.n x ax:=⟨by have a:=bA.n;have b:=cX.n;simp at a;omega,λb ae=>by rw[(g6.trans g6.n cX).get b ae,aa.get b ae]⟩;exact df))
 have ou:Ext B h g:=dA.trans tO bA
 refine⟨rfl,_,g,aG,λhs=>?_,λhs=>?_⟩
 · have lE:vs.all I.cQ=true:=by
     rw[List.all_eq_true]
     intro x aa
     obtain⟨i,af,rfl⟩:=List.getElem_of_mem aa
     obtain⟨z,aZ⟩:=kr i af
     rw[aZ];rfl
   have Ft:c7 H.n g v vs:=qA.ck (gK.ext bA (Nat.le_refl _))
   have fin:∀v2 ax b,Y (m+2) (.fn 38) [v] g=.ret v2 ax->v2=.slice b 0 vs.length (.a1 1)->H.n<=b->b<ax.n->hS ax b 9 vs->Ext H.n g ax->∃(v2:I) (ax:J),Y (m+2) (.fn 38) [v] g=.ret v2 ax/\∃(w':I) (aC:J),Y (m+2) (.fn 88) [v2,.fn 89 [] [.ptr h.n 0]] ax=.ret w' aC/\∃(k:Nat),b9 Tryz.prog aC 63 w'=some (.int .i64 (Int.ofNat k))/\∃(n:Nat),b9 Tryz.prog aC 63 v=some (.int .i64 (Int.ofNat n))/\cN B h (.bool (py w vs.length)) (.ret (.bool (a8 (Int.ofNat k) (Int.ofNat n))) aC):=by
    intro v2 ax b a9 ay ae fw a2 cX
    subst ay
    have yH:Ext H.n H ax:=bA.trans (Nat.le_refl _) cX
    obtain⟨w',aC,k,dn,dq,bx,dP⟩:=W_ (m+1) (B:=H.n) (h:=ax) (vs:=vs) (f:=89) [.ptr h.n 0] (λi j=>dF (w i) (w j)) hlen ae rfl eA kr (λi j af aL x aa=>by
     have jS:Ext H.n H x:=yH.trans (Nat.le_refl _) aa
     have ak:Ext H.n H (x.room 8):=jS.h3
     obtain⟨aj,aG,jg⟩:=jT i af _ ak
     have g6:Ext H.n H aj:=ak.trans ak.n jg
     obtain⟨ax,a9,jN⟩:=jT j aL _ g6
     refine WB m vs[i] vs[j] h.n f aR x ⟨fu _ ak,_,aj,aG,fu _ g6,_,ax,a9,l6 hz,eA i af,l6 hz,fu _ ak,eA j aL,cN.of rfl ?_⟩
     refine⟨by have a:=jg.n;have b:=jN.n;simp at a;omega,λb ae=>?_⟩
     have a:=jg.n
     simp at a
     rw[jN.get b (by omega),jg.get b (by simp;omega)];rfl) fw a2
    have yI:Ext H.n H aC:=yH.trans (Nat.le_refl _) dP
    have Fu:c7 H.n aC v vs:=qA.ck (gK.ext yI (Nat.le_refl _))
    refine⟨_,ax,a9,w',aC,dn,k,dq,vs.length,Fu.len (t:=63) (e:=9) (by kernel_rfl),cN.of (h4 ?_) (dA.trans tO yI)⟩
    rw[LG bx]
    exact LD w vs.length hs
   rcases LI (m+1) (B:=H.n) (h:=g) bA.n Ft hlen lE with⟨rfl,rfl,a9⟩|⟨aO,b,ax,a9,ae,fw,a2,cX⟩
   · refine⟨.a0,g,a9,.a0,g,?_,0,by rfl,0,by rfl,cN.of (h4 rfl) ou⟩
     exact Lv (m+1) .a0 _ _ g (R:=λx=>x=.ret .a0 g) ⟨0,by rfl,λ_=>rfl,λaK=>absurd (by omega) aK⟩
   · exact fin _ ax b a9 rfl ae fw a2 cX
 · refine cN.of (h4 ?_) ou
   exact LF w vs.length hs
theorem Xb(m:Nat){B:Nat}{h:J}{v:I}{vs:List I}(cM:B<=h.n)(aB:c7 B h v vs)(hlen:vs.length<=90000)(ag:vs.all I.cQ=true):(v=.a0/\vs=[]/\Y (m+1) (.fn 93) [v] h=.ret .a0 h)\/(0<vs.length/\∃b an,Y (m+1) (.fn 93) [v] h=.ret (.slice b 0 vs.length (.a1 1)) an/\B<=b/\b<an.n/\hS an b 35 vs/\Ext B h an):=by
 rcases aB with⟨rfl,rfl⟩|⟨b,off,cp,rfl,ae,aw,aO,ao⟩
 · exact .inl ⟨rfl,rfl,WW m h (R:=λx=>x=.ret .a0 h) rfl⟩
 · right
   refine⟨aO,?_⟩
   obtain⟨H,cm⟩:∃H,H=h.push (.cells [] 35 .own 0 0):=⟨_,rfl⟩
   have dA:Ext B h H:=by rw[cm];exact Ext.push cM _
   have lr:H.n=h.n+1:=by rw[cm];rfl
   have fy:=c7.src (B:=B) (h:=H) (λi af=>iS dA ae (aw i af)) aO ao
   obtain⟨i,af⟩:=Option.isSome_iff_exists.1 (show(Tryz.prog.info? 35).isSome=true by kernel_rfl)
   have bw:i.size=1:=by
    have:(Tryz.prog.info? 35).map (·.size)=some 1:=by kernel_rfl
    rw[af] at this;simpa using this
   have nj:i.bytes<=1000:=by
    have:(Tryz.prog.info? 35).map (λi=>Nat.ble i.bytes 1000)=some true:=by kernel_rfl
    rw[af] at this;exact Nat.le_of_ble_eq_true (by simpa using this)
   obtain⟨z,aZ⟩:=Option.isSome_iff_exists.1 (show(d_ Tryz.prog 35).isSome=true by kernel_rfl)
   have ia:z.cells.length=1:=by
    have:(d_ Tryz.prog 35).map (λz=>z.cells.length)=some 1:=by kernel_rfl
    rw[aZ] at this;simpa using this
   have ap:=LH (U:=50) (E:=35) (a:=h.n) (by kernel_rfl) (by kernel_rfl) af bw nj aZ ia fy aO hlen ag (by rw[cm];exact fj rfl)
   refine WV m b off vs.length cp h (R:=λx=>∃b an,x=.ret (.slice b 0 vs.length (.a1 1)) an/\B<=b/\b<an.n/\hS an b 35 vs/\Ext B h an) ?_
   rw[<-cm]
   exact⟨_,_,ap,_,_,rfl,by omega,by simp,fj rfl,dA.trans (Nat.le_refl _) (Ext.push (Nat.le_trans cM dA.n) _)⟩
theorem Xc(m:Nat){B b K f:Nat}{h:J}{vs:List I}(aR:List I)(q:Nat->Nat->Bool)(hlen:vs.length<=90000)(kC:B<=b)(di:1<=K)(W9:K<vs.length)(hz:jw aR=true)(eA:∀i (af:i<vs.length),I.sound vs[i]=true)(kr:∀i (af:i<vs.length),∃z:Nat,vs[i]=(.ptr z 0))(hf:∀i j (af:i<vs.length) (aL:j<vs.length) x,Ext B h x->cN x.n x (.bool (q i j)) (Y m (.fn f) (vs[i]::vs[j]::aR) x))
  {g:J}(ae:b<g.n)(a2:hS g b 35 vs)(aa:Ext B h g){Γ:Env}(cP:cl [(0,.slice b 0 vs.length (.a1 1)),(1,.fn f [] aR),(5,.int .i64 (Int.ofNat K)),(6,.slice b (0+K*1) (vs.length-K) (.a1 1)),(7,.int .i64 (Int.ofNat 1))] Γ):
  a4 Tryz.prog Tryz.f92 (Y m) [1,1,0,1,0,0,1,0,0,1,0,1,0,1,0] ⟨Γ,[],.none,g⟩ (λcd ct=>∃(b0:Nat) (ax:J) (cg:Env),cd=.exit 2/\ct=⟨cg,[],.none,ax⟩/\cl [(0,.slice b 0 vs.length (.a1 1)),(5,.int .i64 (Int.ofNat b0))] cg/\K<=b0/\b0<vs.length/\b<ax.n/\Ext B h ax/\∃L,hS ax b 35 L/\L.length=vs.length):=by
 refine a4.loop (by kernel_rfl) (λt st=>∃j k L x Γ,st=⟨Γ,[],.none,x⟩/\cl [(0,.slice b 0 vs.length (.a1 1)),(1,.fn f [] aR),(5,.int .i64 (Int.ofNat k)),(6,.slice b (0+K*1) (vs.length-K) (.a1 1)),(7,.int .i64 (Int.ofNat j))] Γ/\(vs.length-K)-j=t/\1<=j/\j<=vs.length-K/\K<=k/\k+1<=K+j/\b<x.n/\hS x b 35 L/\L.length=vs.length/\yG L vs/\Ext B h x) ?_ (vs.length-K-1) _ (by omega) ⟨1,K,vs,g,Γ,rfl,cP,by omega,by omega,by omega,by omega,by omega,ae,a2,rfl,λi af=>⟨i,af,rfl⟩,aa⟩
 rintro t st ⟨j,k,L,x,Γ,rfl,cP,a_,aL,CE,aq,Dx,r4,qy,g4,mQ,jS⟩
 refine a4.pre (WU (Y m) b _ k f (0+K*1) _ j aR x ⟨λab=>?_,λab=>?_⟩) cP rfl rfl rfl
 · have ak:=jS.h3 (k:=12)
   have lu:hS (x.room 12) b 35 L:=qy
   have i1:K+j<L.length:=by omega
   have i2:K+j-1<L.length:=by omega
   obtain⟨s,hs,es⟩:=mQ (K+j) i1
   obtain⟨bg,dp,rb⟩:=mQ (K+j-1) i2
   obtain⟨aj,aG,bA⟩:=hf s bg hs dp _ ak
   have dV:=ak.trans (Nat.le_refl _) (bA.le (show B<=(x.room 12).n by simp;omega))
   have ow:b<(x.room 12).n:=by simp;omega
   have mR:hS aj b 35 L:=(bA.get b ow).trans lu
   have qz:b<aj.n:=Nat.lt_of_lt_of_le ow bA.n
   obtain⟨z,aZ⟩:=kr s hs
   refine⟨ab,_,(lu.nH i1 (by omega)).trans (by rw[es]),⟨by omega,by omega⟩,by omega,_,(lu.nH i2 (by omega)).trans (by rw[rb]),_,aj,aG,l6 hz,eA s hs,eA bg dp,λag=>?_,λag=>?_⟩
   · exact⟨by omega,_,(by show _<t;omega),j+1,k,L,aj,_,rfl,⟨rfl,rfl,rfl,rfl,rfl,trivial⟩,rfl,by omega,by omega,by omega,by omega,qz,mR,g4,mQ,dV⟩
   · have ch:aM.storeCells aj b (0+k*1) [(.ptr z 0)]=some (aj.set b (some (.cells (L.set k (.ptr z 0)) 35 .a1 0 0))):=
       gJ mR (AU _ _) (by rw[show 0+k*1=k by omega];exact Fp _ rfl L k (by omega))
     refine⟨ab,z,(mR.nH i1 (by omega)).trans (by rw[es,aZ]),by omega,_,ch,by omega,by omega,_,(by show _<t;omega),j+1,k+1,L.set k (.ptr z 0),_,_,rfl,⟨rfl,rfl,rfl,rfl,rfl,trivial⟩,rfl,by omega,by omega,by omega,by omega,by simp;omega,gI rfl,by simpa using g4,?_,Ext.iQ kC dV⟩
     rw[<-aZ]
     exact mQ.set k hs
 · exact⟨k,x,_,rfl,rfl,⟨rfl,rfl,trivial⟩,aq,by omega,r4,jS,L,qy,g4⟩
theorem Xd(m:Nat){B b f:Nat}{h:J}{vs:List I}(aR:List I)(q:Nat->Nat->Bool)(hlen:vs.length<=90000)(kC:B<=b)(hz:jw aR=true)(eA:∀i (af:i<vs.length),I.sound vs[i]=true)(kr:∀i (af:i<vs.length),∃z:Nat,vs[i]=(.ptr z 0))(hf:∀i j (af:i<vs.length) (aL:j<vs.length) x,Ext B h x->cN x.n x (.bool (q i j)) (Y m (.fn f) (vs[i]::vs[j]::aR) x))
  (ae:b<h.n)(a2:hS h b 35 vs):
  ∃w g k,Y (m+1) (.fn 92) [.slice b 0 vs.length (.a1 1),.fn f [] aR] h=.ret w g/\b9 Tryz.prog g 50 w=some (.int .i64 (Int.ofNat k))/\(!(List.range vs.length).any (λi=>decide (0<i)&&q i (i-1)))=decide (k=vs.length)/\Ext B h g:=by
 refine Lw m (.slice b 0 vs.length (.a1 1)) f aR h (R:=λx=>∃w g k,x=.ret w g/\b9 Tryz.prog g 50 w=some (.int .i64 (Int.ofNat k))/\(!(List.range vs.length).any (λi=>decide (0<i)&&q i (i-1)))=decide (k=vs.length)/\Ext B h g) ⟨vs.length,by rfl,λad=>?_,λad=>?_⟩
 · refine⟨_,h,vs.length,rfl,by rfl,?_,Ext.refl _ _⟩
   rw[r0 (λj aL=>by simp[show¬0<j by omega])];simp
 · replace ad:=Lz ad
   refine a4.loop (by kernel_rfl) (λt st=>∃k x Γ,st=⟨Γ,[],.none,x⟩/\cl [(0,.slice b 0 vs.length (.a1 1)),(1,.fn f [] aR),(5,.int .i64 (Int.ofNat k))] Γ/\vs.length-k=t/\1<=k/\k<=vs.length/\b<x.n/\hS x b 35 vs/\Ext B h x/\∀j,0<j->j<k->q j (j-1)=false) ?_ (vs.length-1) _ (by omega) ⟨1,h,_,rfl,⟨rfl,rfl,rfl,trivial⟩,by omega,by omega,by omega,ae,a2,Ext.refl _ _,λj aL oY=>by omega⟩
   rintro t st ⟨k,x,Γ,rfl,cP,a_,aq,tA,r4,qy,jS,aT⟩
   refine a4.pre (WT (Y m) b _ k f aR x ⟨λab=>?_,λab=>?_⟩) cP rfl rfl rfl
   · have ak:=jS.h3 (k:=11)
     have lu:hS (x.room 11) b 35 vs:=qy
     obtain⟨aj,aG,bA⟩:=hf k (k-1) ab (by omega) _ ak
     have dV:=ak.trans (Nat.le_refl _) (bA.le (show B<=(x.room 11).n by simp;omega))
     have ow:b<(x.room 11).n:=by simp;omega
     have mR:hS aj b 35 vs:=(bA.get b ow).trans lu
     have qz:b<aj.n:=Nat.lt_of_lt_of_le ow bA.n
     refine⟨ab,_,lu.nH ab (by omega),⟨by omega,by omega⟩,by omega,_,lu.nH (by omega) (by omega),_,aj,aG,l6 hz,eA k ab,eA (k-1) (by omega),λag=>?_,λag=>?_⟩
     · have s2:de Tryz.prog aj 50 (.slice b 0 vs.length (.a1 1)) (some (.int .i64 (Int.ofNat k))) none none=some (.slice b (0+k*1) (vs.length-k) (.a1 1)):=yF (E:=35) (by kernel_rfl) (by kernel_rfl) (by omega) ab
       refine⟨_,_,_,_,s2,?_⟩
       refine a4.mono (Xc m aR q hlen kC aq ab hz eA kr hf qz mR dV ⟨rfl,rfl,rfl,rfl,rfl,trivial⟩) ?_
       rintro cd ct ⟨b0,ax,cg,rfl,rfl,ox,xt,Fs,fw,qt,L,g4,Bu⟩
       refine⟨_,_,_,_,b0,ax,cg,rfl,rfl,ox,_,_,_,_,yF (E:=35) (by kernel_rfl) (by kernel_rfl) (by omega) Fs,?_⟩
       obtain⟨z,aZ⟩:=Option.isSome_iff_exists.1 (show(d_ Tryz.prog 35).isSome=true by kernel_rfl)
       have ia:z.cells.length=1/\z.cells.all I.cQ=true:=by
        have ab:(d_ Tryz.prog 35).map (λz=>z.cells.length)=some 1:=by kernel_rfl
        have ad:(d_ Tryz.prog 35).map (λz=>z.cells.all I.cQ)=some true:=by kernel_rfl
        rw[aZ] at ab ad;exact⟨by simpa using ab,by simpa using ad⟩
       have pz:∀n,(fc n z.cells).length=n/\(fc n z.cells).all I.cQ=true:=by
        intro n
        induction n with
        |zero=>exact⟨rfl,rfl⟩
        |succ n a6=>simp only[fc,List.length_append,List.all_append,a6.1,a6.2,ia.1,ia.2];exact⟨by omega,rfl⟩
       obtain⟨r3,eN,fR⟩:=Lx (fc (vs.length-b0) z.cells) (pz _).2 L (0+b0*1) (by rw[(pz _).1,Bu];omega)
       have ch:aM.storeCells ax b (0+b0*1) (fc (vs.length-b0) z.cells)=some (ax.set b (some (.cells r3 35 .a1 0 0))):=gJ g4 (AU _ _) eN
       have hI:oH Tryz.prog ax 50 (.slice b (0+b0*1) (vs.length-b0) (.a1 1))=some (.aP [],ax.set b (some (.cells r3 35 .a1 0 0))):=by
        have hu:Tryz.prog.underlying 50=some (.slice 35):=by kernel_rfl
        simp only[oH,hu,aZ,ch]
        rw[if_neg (by omega)]
       refine⟨_,hI,_,Bt (E:=35) (by kernel_rfl) (by kernel_rfl) (by omega),.inr ⟨_,_,_,rfl,rfl,⟨rfl,trivial⟩,_,_,b0,rfl,by rfl,?_,Ext.iQ kC qt⟩⟩
       rw[vP ab (by rw[ag];simp;omega)]
       simp;omega
     · exact⟨by omega,_,(by show _<t;omega),k+1,aj,_,rfl,⟨rfl,rfl,rfl,trivial⟩,rfl,by omega,by omega,qz,mR,dV,λj aL oY=>by
        by_cases e:j=k
        · rw[e];exact ag
        · exact aT j aL (by omega)⟩
   · refine .inl ⟨_,x,_,rfl,rfl,⟨rfl,trivial⟩,_,_,vs.length,rfl,by rfl,?_,jS⟩
     rw[r0 (λj aL=>?_)]
     · simp
     · by_cases e:0<j
       · rw[aT j e (by omega),Bool.and_false]
       · simp[e]
theorem Xe(m:Nat){B:Nat}{h:J}{v:I}{vs:List I}(f:Nat)(aR:List I)(w:Nat->a5)(cM:B<=h.n)(aB:c7 B h v vs)(hlen:vs.length<=90000)(hz:jw aR=true)(eA:∀i (af:i<vs.length),I.sound vs[i]=true)(kr:∀i (af:i<vs.length),∃z:Nat,vs[i]=(.ptr z 0))(mQ:∀i (af:i<vs.length) x,Ext B h x->cN x.n x (.str (w i)) (Y m (.fn f) (vs[i]::aR) x)):
  cN B h (.bool (py w vs.length)) (Y (m+3) (.fn 71) [v,.fn f [] aR] h):=by
 refine WX (m+2) v f aR h ?_
 obtain⟨H,cm⟩:∃H,H=h.push (.cells [.fn f [] aR] 116 .own 0 0):=⟨_,rfl⟩
 rw[<-cm]
 have dA:Ext B h H:=by rw[cm];exact Ext.push cM _
 have lr:H.n=h.n+1:=by rw[cm];rfl
 have tO:B<=H.n:=Nat.le_trans cM dA.n
 have p5:H.get h.n=some (.cells [.fn f [] aR] 116 .own 0 0):=by rw[cm];exact fj rfl
 have jT:∀i (af:i<vs.length) x,Ext H.n H x->∃g,Y m (.fn f) (vs[i]::aR) x=.ret (.str (w i)) g/\Ext x.n x g:=λi af x aa=>mQ i af x (dA.trans tO aa)
 have qA:c7 H.n H v vs:=(aB.ck (gK.ext dA (Nat.le_refl _))).le (Nat.le_trans cM dA.n)
 have fu:∀x,Ext H.n H x->au x h.n 0=some (.fn f [] aR):=λx aa=>aU ((aa.get h.n (by omega)).trans p5) rfl
 obtain⟨g,aG,bA⟩:=W7 (m+1) (B:=H.n) (h:=H) (v:=v) (vs:=vs) 91 [.ptr h.n 0] (λi j=>dB (w i) (w j)) qA hlen rfl eA (λi j af aL x aa=>by
  have ak:Ext H.n H (x.room 7):=aa.h3
  obtain⟨aj,aG,bA⟩:=jT i af _ ak
  have g6:Ext H.n H aj:=ak.trans ak.n bA
  obtain⟨ax,a9,cX⟩:=jT j aL _ g6
  refine WR m vs[i] vs[j] h.n f aR x ⟨fu _ ak,_,aj,aG,fu _ g6,_,ax,a9,l6 hz,eA i af,l6 hz,fu _ ak,eA j aL,λag=>?_,λag=>?_⟩
  · exact cN.of (by rw[ag];rfl) ((g6.trans g6.n cX).le (Nat.le_refl _)|> λe=>by have df:Ext H.n x ax:=⟨by have a:=bA.n;have b:=cX.n;simp at a;omega,λb ae=>by rw[(g6.trans g6.n cX).get b ae,aa.get b ae]⟩;exact df)
  · exact cN.of (by rw[ag];rfl) ((g6.trans g6.n cX).le (Nat.le_refl _)|> λe=>by have df:Ext H.n x ax:=⟨by have a:=bA.n;have b:=cX.n;simp at a;omega,λb ae=>by rw[(g6.trans g6.n cX).get b ae,aa.get b ae]⟩;exact df))
 have ou:Ext B h g:=dA.trans tO bA
 refine⟨rfl,_,g,aG,λhs=>?_,λhs=>?_⟩
 · have lE:vs.all I.cQ=true:=by
     rw[List.all_eq_true]
     intro x aa
     obtain⟨i,af,rfl⟩:=List.getElem_of_mem aa
     obtain⟨z,aZ⟩:=kr i af
     rw[aZ];rfl
   have Ft:c7 H.n g v vs:=qA.ck (gK.ext bA (Nat.le_refl _))
   have fin:∀v2 ax b,Y (m+2) (.fn 93) [v] g=.ret v2 ax->v2=.slice b 0 vs.length (.a1 1)->H.n<=b->b<ax.n->hS ax b 35 vs->Ext H.n g ax->∃(v2:I) (ax:J),Y (m+2) (.fn 93) [v] g=.ret v2 ax/\∃(w':I) (aC:J),Y (m+2) (.fn 92) [v2,.fn 94 [] [.ptr h.n 0]] ax=.ret w' aC/\∃(k:Nat),b9 Tryz.prog aC 50 w'=some (.int .i64 (Int.ofNat k))/\∃(n:Nat),b9 Tryz.prog aC 50 v=some (.int .i64 (Int.ofNat n))/\cN B h (.bool (py w vs.length)) (.ret (.bool (a8 (Int.ofNat k) (Int.ofNat n))) aC):=by
    intro v2 ax b a9 ay ae fw a2 cX
    subst ay
    have yH:Ext H.n H ax:=bA.trans (Nat.le_refl _) cX
    obtain⟨w',aC,k,dn,dq,bx,dP⟩:=Xd (m+1) (B:=H.n) (h:=ax) (vs:=vs) (f:=94) [.ptr h.n 0] (λi j=>dF (w i) (w j)) hlen ae rfl eA kr (λi j af aL x aa=>by
     have jS:Ext H.n H x:=yH.trans (Nat.le_refl _) aa
     have ak:Ext H.n H (x.room 8):=jS.h3
     obtain⟨aj,aG,jg⟩:=jT i af _ ak
     have g6:Ext H.n H aj:=ak.trans ak.n jg
     obtain⟨ax,a9,jN⟩:=jT j aL _ g6
     refine WS m vs[i] vs[j] h.n f aR x ⟨fu _ ak,_,aj,aG,fu _ g6,_,ax,a9,l6 hz,eA i af,l6 hz,fu _ ak,eA j aL,cN.of rfl ?_⟩
     refine⟨by have a:=jg.n;have b:=jN.n;simp at a;omega,λb ae=>?_⟩
     have a:=jg.n
     simp at a
     rw[jN.get b (by omega),jg.get b (by simp;omega)];rfl) fw a2
    have yI:Ext H.n H aC:=yH.trans (Nat.le_refl _) dP
    have Fu:c7 H.n aC v vs:=qA.ck (gK.ext yI (Nat.le_refl _))
    refine⟨_,ax,a9,w',aC,dn,k,dq,vs.length,Fu.len (t:=50) (e:=35) (by kernel_rfl),cN.of (h4 ?_) (dA.trans tO yI)⟩
    rw[LG bx]
    exact LD w vs.length hs
   rcases Xb (m+1) (B:=H.n) (h:=g) bA.n Ft hlen lE with⟨rfl,rfl,a9⟩|⟨aO,b,ax,a9,ae,fw,a2,cX⟩
   · refine⟨.a0,g,a9,.a0,g,?_,0,by rfl,0,by rfl,cN.of (h4 rfl) ou⟩
     exact Lw (m+1) .a0 _ _ g (R:=λx=>x=.ret .a0 g) ⟨0,by rfl,λ_=>rfl,λaK=>absurd (by omega) aK⟩
   · exact fin _ ax b a9 rfl ae fw a2 cX
 · refine cN.of (h4 ?_) ou
   exact LF w vs.length hs
end Go.Proofs.cF
