/-
  PROVED HERE: contracts of functions (Df). No condition beside each statement's own.
-/
import Derived.Test.YtjkomfonmcmgdaaDoorDe
import Derived.Test.YtjkomfonmcmgdaaDoorTx
set_option linter.unusedVariables false
set_option linter.unusedSimpArgs false
set_option maxRecDepth 100000
set_option maxHeartbeats 1000000
namespace Go.Proofs.hK
open Go a8 Go.Proofs gp
theorem Sx(m:Nat)(v:I)(f:Nat)(aG:List I)(h:ab){R:a7->Prop}(H:∃dk:Int,∃al:ab,(Y m) (.fn 52) [v,.fn f [] aG] h=.ret (.int .i64 dk) al/\R (.ret (.bool (gN (.ofNat 0) dk)) al)):
  R (Y (m+1) (.fn 38) [v,.fn f [] aG] h):=
 dq (intr:=b5) [(7,.a9 (.z .i64))] [(0,.o v),(1,.o (.fn f [] aG))] Tryd.func38 (by kernel_rfl) (by kernel_rfl) (by kernel_rfl) rfl (Eq.mp (by kernel_rfl) H)
theorem Sy(m:Nat)(v:I)(f:Nat)(aG:List I)(h:ab){R:a7->Prop}(H:∃aM:Nat,cr Tryd.prog h 40 v=some (.int .i64 (.ofNat aM))/\a4 Tryd.prog Tryd.f52 (Y m) [1,0,1,0] (au.mk [(0,v),(1,.fn f [] aG),(7,.int .i64 (.ofNat aM)),(8,.int .i64 (.ofNat 0))] [] .none h) (λca ck=>((∃al:ab,∃bW:Env,ca=.exit 0/\ck=au.mk bW [] .none al/\cd [] bW/\R (.ret (.int .i64 (.negSucc 0)) al))\/(∃bo:Nat,∃aA:ab,∃cM:Env,ca=.ret/\ck=au.mk cM [] .none aA/\cd [(4,.int .i64 (.ofNat bo))] cM/\R (.ret (.int .i64 (.ofNat bo)) aA))))):
  R (Y (m+1) (.fn 52) [v,.fn f [] aG] h):=
 dq (intr:=b5) [(4000,.hH [0,1,7,8] [(.exit 0,[]),(.ret,[(4,.n .i64)])])] [(0,.o v),(1,.o (.fn f [] aG))] Tryd.func52 (by kernel_rfl) (by kernel_rfl) (by kernel_rfl) rfl (Eq.mp (by kernel_rfl) H)
theorem Sz(call:bt)(b off N i f:Nat)(aG:List I)(cp:c7)(h:ab){Q:bk->au->Prop}(H:(i<N->i<N/\∃v1:I,aB h b (off+i*1)=some v1/\∃bn:Bool,∃al:ab,call (.fn f) (v1::aG) h=.ret (.bool bn) al/\(bn=true->Q .ret (au.mk [(0,.slice b off N cp),(1,.fn f [] aG),(4,.int .i64 (.ofNat i)),(7,.int .i64 (.ofNat N)),(8,.int .i64 (.ofNat i))] [] .none al))/\(bn=false->i+1<9223372036854775808/\Q .nrm (au.mk [(0,.slice b off N cp),(1,.fn f [] aG),(7,.int .i64 (.ofNat N)),(8,.int .i64 (.ofNat (i+1)))] [] .none al)))/\(¬i<N->Q (.exit 0) (au.mk [(0,.slice b off N cp),(1,.fn f [] aG),(7,.int .i64 (.ofNat N)),(8,.int .i64 (.ofNat i))] [] .none h))):
  a4 Tryd.prog Tryd.f52 call [1,0,1,0,0] ⟨[(0,.slice b off N cp),(1,.fn f [] aG),(7,.int .i64 (.ofNat N)),(8,.int .i64 (.ofNat i))],[],.none,h⟩ Q:=
 dZ [(15,.a9 .o)] [0,1,4,7,8] [(0,.v (.slice b off N cp)),(1,.o (.fn f [] aG)),(7,.v (.int .i64 (.ofNat N))),(8,.v (.int .i64 (.ofNat i)))] rfl (Eq.mp (by kernel_rfl) H)
theorem SA(call:bt)(N i f:Nat)(aG:List I)(v:I)(h:ab){Q:bk->au->Prop}(H:¬i<N/\Q (.exit 0) (au.mk [] [] .none h)):
  a4 Tryd.prog Tryd.f52 call [1,0,1,0,0] ⟨[(0,v),(1,.fn f [] aG),(7,.int .i64 (.ofNat N)),(8,.int .i64 (.ofNat i))],[],.none,h⟩ Q:=
 dZ [(1009,.f)] [] [(0,.o v),(1,.o (.fn f [] aG)),(7,.v (.int .i64 (.ofNat N))),(8,.v (.int .i64 (.ofNat i)))] rfl (Eq.mp (by kernel_rfl) H)
theorem SB(m:Nat)(v:I)(f:Nat)(aG:List I)(h:ab){R:a7->Prop}(H:∃aM:Nat,cr Tryd.prog h 40 v=some (.int .i64 (.ofNat aM))/\(1<=aM/\aM<9223372036854775808)/\a4 Tryd.prog Tryd.f54 (Y m) [1,0,1,0] (au.mk [(0,v),(1,.fn f [] aG),(5,.int .i64 (.ofNat (aM-1)))] [] .none h) (λca ck=>((∃al:ab,∃bW:Env,ca=.exit 0/\ck=au.mk bW [] .none al/\cd [] bW/\R (.ret (.bool true) al))\/(∃aA:ab,∃cM:Env,ca=.ret/\ck=au.mk cM [] .none aA/\cd [(4,.bool false)] cM/\R (.ret (.bool false) aA))))):
  R (Y (m+1) (.fn 54) [v,.fn f [] aG] h):=
 dq (intr:=b5) [(4000,.hH [0,1,5] [(.exit 0,[]),(.ret,[(4,.is (.bool false))])])] [(0,.o v),(1,.o (.fn f [] aG))] Tryd.func54 (by kernel_rfl) (by kernel_rfl) (by kernel_rfl) rfl (Eq.mp (by kernel_rfl) H)
theorem SC(m:Nat)(v:I)(f:Nat)(aG:List I)(h:ab){R:a7->Prop}(H:∃aM:Nat,cr Tryd.prog h 40 v=some (.int .i64 (.ofNat aM))/\∃dk:Int,arith .sub .i64 (.ofNat aM) (.ofNat 1)=some (.int .i64 dk)/\a4 Tryd.prog Tryd.f54 (Y m) [1,0,1,0] (au.mk [(0,v),(1,.fn f [] aG),(5,.int .i64 dk)] [] .none h) (λca ck=>∃al:ab,∃bW:Env,ca=.exit 0/\ck=au.mk bW [] .none al/\cd [] bW/\R (.ret (.bool true) al))):
  R (Y (m+1) (.fn 54) [v,.fn f [] aG] h):=
 dq (intr:=b5) [(8,.a9 (.z .i64)),(4000,.hH [0,1,5] [(.exit 0,[])])] [(0,.o v),(1,.o (.fn f [] aG))] Tryd.func54 (by kernel_rfl) (by kernel_rfl) (by kernel_rfl) rfl (Eq.mp (by kernel_rfl) H)
theorem SD(call:bt)(b off N i f:Nat)(aG:List I)(cp:c7)(h:ab){Q:bk->au->Prop}(H:(0<i->i<N/\∃v1:I,aB (h.room 12) b (off+i*1)=some v1/\(1<=i/\i<9223372036854775808)/\i-1<N/\∃v2:I,aB (h.room 12) b (off+(i-1)*1)=some v2/\∃dk:Int,∃al:ab,call (.fn f) (v1::v2::aG) (h.room 12)=.ret (.int .i64 dk) al/\I.sound (.fn f [] aG)=true/\I.sound v1=true/\I.sound v2=true/\(fx dk (.ofNat 0)=true->Q .ret (au.mk [(0,.slice b off N cp),(1,.fn f [] aG),(4,.bool false),(5,.int .i64 (.ofNat i))] [] .none al))/\(fx dk (.ofNat 0)=false->(1<=i/\i<9223372036854775808)/\Q .nrm (au.mk [(0,.slice b off N cp),(1,.fn f [] aG),(5,.int .i64 (.ofNat (i-1)))] [] .none al)))/\(¬0<i->Q (.exit 0) (au.mk [(0,.slice b off N cp),(1,.fn f [] aG),(5,.int .i64 (.ofNat i))] [] .none h))):
  a4 Tryd.prog Tryd.f54 call [1,0,1,0,0] ⟨[(0,.slice b off N cp),(1,.fn f [] aG),(5,.int .i64 (.ofNat i))],[],.none,h⟩ Q:=
 dZ [(17,.a9 .o),(22,.a9 .o),(23,.a9 (.z .i64))] [0,1,4,5] [(0,.v (.slice b off N cp)),(1,.o (.fn f [] aG)),(5,.v (.int .i64 (.ofNat i)))] rfl (Eq.mp (by kernel_rfl) H)
theorem SE(call:bt)(v:I)(f:Nat)(aG:List I)(h:ab){Q:bk->au->Prop}(H:fx (.ofNat 0) (.negSucc 0)=false/\Q (.exit 0) (au.mk [] [] .none h)):
  a4 Tryd.prog Tryd.f54 call [1,0,1,0,0] ⟨[(0,v),(1,.fn f [] aG),(5,.int .i64 (.negSucc 0))],[],.none,h⟩ Q:=
 dZ [(1010,.f)] [] [(0,.o v),(1,.o (.fn f [] aG)),(5,.v (.int .i64 (.negSucc 0)))] rfl (Eq.mp (by kernel_rfl) H)
theorem SF(m:Nat)(x y:I)(a f:Nat)(aG:List I)(h:ab){R:a7->Prop}(H:aB (h.room 7) a 0=some (.fn f [] aG)/\∃s1:List UInt8,∃al:ab,(Y m) (.fn f) (x::aG) (h.room 7)=.ret (.str s1) al/\aB al a 0=some (.fn f [] aG)/\∃s2:List UInt8,∃aA:ab,(Y m) (.fn f) (y::aG) al=.ret (.str s2) aA/\I.sound (.fn f [] aG)=true/\I.sound x=true/\I.sound (.fn f [] aG)=true/\aB (h.room 7) a 0=some (.fn f [] aG)/\I.sound y=true/\(eR s1 s2=true->R (.ret (.int .i64 (.negSucc 0)) aA))/\(eR s1 s2=false->R (.ret (.int .i64 (.ofNat 1)) aA))):
  R (Y (m+1) (.fn 55) [x,y,.ptr a 0] h):=
 dq (intr:=b5) [(6,.a9 (.io (.fn f [] aG))),(9,.a9 (.io (.fn f [] aG)))] [(0,.o x),(1,.o y),(2,.v (.ptr a 0))] Tryd.func55 (by kernel_rfl) (by kernel_rfl) (by kernel_rfl) rfl (Eq.mp (by kernel_rfl) H)
theorem SG(m:Nat)(x y:I)(a f:Nat)(aG:List I)(h:ab){R:a7->Prop}(H:aB (h.room 8) a 0=some (.fn f [] aG)/\∃s1:List UInt8,∃al:ab,(Y m) (.fn f) (x::aG) (h.room 8)=.ret (.str s1) al/\aB al a 0=some (.fn f [] aG)/\∃s2:List UInt8,∃aA:ab,(Y m) (.fn f) (y::aG) al=.ret (.str s2) aA/\I.sound (.fn f [] aG)=true/\I.sound x=true/\I.sound (.fn f [] aG)=true/\aB (h.room 8) a 0=some (.fn f [] aG)/\I.sound y=true/\R (.ret (.bool (dv s1 s2)) aA)):
  R (Y (m+1) (.fn 57) [x,y,.ptr a 0] h):=
 dq (intr:=b5) [(6,.a9 (.io (.fn f [] aG))),(9,.a9 (.io (.fn f [] aG)))] [(0,.o x),(1,.o y),(2,.v (.ptr a 0))] Tryd.func57 (by kernel_rfl) (by kernel_rfl) (by kernel_rfl) rfl (Eq.mp (by kernel_rfl) H)
theorem Jb(m:Nat)(v:I)(f:Nat)(aG:List I)(h:ab){R:a7->Prop}(H:∃aM:Nat,cr Tryd.prog h 40 v=some (.int .i64 (.ofNat aM))/\(aM<2->R (.ret v h))/\(¬aM<2->a4 Tryd.prog Tryd.f56 (Y m) [1,1,0,1,0] (au.mk [(0,v),(1,.fn f [] aG),(5,.int .i64 (.ofNat 1))] [] .none h) (λca ck=>((∃v1:I,∃al:ab,∃bW:Env,ca=.exit 0/\ck=au.mk bW [] .none al/\cd [(0,v1)] bW/\R (.ret v1 al))\/(∃v2:I,∃aA:ab,∃cM:Env,ca=.ret/\ck=au.mk cM [] .none aA/\cd [(4,v2)] cM/\R (.ret v2 aA)))))):
  R (Y (m+1) (.fn 56) [v,.fn f [] aG] h):=
 dq (intr:=b5) [(4000,.hH [0,1,5] [(.exit 0,[(0,.o)]),(.ret,[(4,.o)])])] [(0,.o v),(1,.o (.fn f [] aG))] Tryd.func56 (by kernel_rfl) (by kernel_rfl) (by kernel_rfl) rfl (Eq.mp (by kernel_rfl) H)
theorem SH(call:bt)(b N k f:Nat)(aG:List I)(h:ab){Q:bk->au->Prop}(H:(k<N->k<N/\∃v1:I,aB (h.room 11) b (0+k*1)=some v1/\(1<=k/\k<9223372036854775808)/\k-1<N/\∃v2:I,aB (h.room 11) b (0+(k-1)*1)=some v2/\∃bn:Bool,∃al:ab,call (.fn f) (v1::v2::aG) (h.room 11)=.ret (.bool bn) al/\I.sound (.fn f [] aG)=true/\I.sound v1=true/\I.sound v2=true/\(bn=true->∃aM:Nat,∃bo:Nat,∃bF:Nat,∃aT:c7,ec Tryd.prog al 40 (.slice b 0 N (.aS 1)) (some (.int .i64 (.ofNat k))) none none=some (.slice aM bo bF aT)/\a4 Tryd.prog Tryd.f56 call [1,1,0,1,0,0,1,0,0,1,0,1,0,1,0] (au.mk [(0,.slice b 0 N (.aS 1)),(1,.fn f [] aG),(5,.int .i64 (.ofNat k)),(6,.slice aM bo bF aT),(7,.int .i64 (.ofNat 1))] [] .none al) (λca ck=>∃b4:Nat,∃cy:Nat,∃cO:Nat,∃bp:c7,∃di:Nat,∃aA:ab,∃bW:Env,ca=.exit 2/\ck=au.mk bW [] .none aA/\cd [(0,.slice b4 cy cO bp),(5,.int .i64 (.ofNat di))] bW/\∃fu:Nat,∃gJ:Nat,∃fT:Nat,∃ef:c7,ec Tryd.prog aA 40 (.slice b4 cy cO bp) (some (.int .i64 (.ofNat di))) none none=some (.slice fu gJ fT ef)/\∃aU:ab,nj Tryd.prog aA 40 (.slice fu gJ fT ef)=some (.aJ [],aU)/\∃eE:I,ec Tryd.prog aU 40 (.slice b4 cy cO bp) none (some (.int .i64 (.ofNat di))) none=some eE/\Q .ret (au.mk [(0,.slice b4 cy cO bp),(4,eE),(5,.int .i64 (.ofNat di))] [] .none aU)))/\(bn=false->k+1<9223372036854775808/\Q .nrm (au.mk [(0,.slice b 0 N (.aS 1)),(1,.fn f [] aG),(5,.int .i64 (.ofNat (k+1)))] [] .none al)))/\(¬k<N->Q (.exit 0) (au.mk [(0,.slice b 0 N (.aS 1)),(1,.fn f [] aG),(5,.int .i64 (.ofNat k))] [] .none h))):
  a4 Tryd.prog Tryd.f56 call [1,1,0,1,0,0] ⟨[(0,.slice b 0 N (.aS 1)),(1,.fn f [] aG),(5,.int .i64 (.ofNat k))],[],.none,h⟩ Q:=
 dZ [(22,.a9 .o),(27,.a9 .o),(31,.a9 .im),(4002,.hH [0,1,5,6,7] [(.exit 2,[(0,.im),(5,.n .i64)])]),(61,.a9 .im),(64,.a9 .o)] [0,1,4,5] [(0,.v (.slice b 0 N (.aS 1))),(1,.o (.fn f [] aG)),(5,.v (.int .i64 (.ofNat k)))] rfl (Eq.mp (by kernel_rfl) H)
theorem SI(call:bt)(b N k f c9 M j:Nat)(aG:List I)(h:ab){Q:bk->au->Prop}(H:(j<M->j<M/\∃v1:I,aB (h.room 12) b (c9+j*1)=some v1/\(1<=j/\j<9223372036854775808)/\j-1<M/\∃v2:I,aB (h.room 12) b (c9+(j-1)*1)=some v2/\∃bn:Bool,∃al:ab,call (.fn f) (v1::v2::aG) (h.room 12)=.ret (.bool bn) al/\I.sound (.fn f [] aG)=true/\I.sound v1=true/\I.sound v2=true/\(bn=true->j+1<9223372036854775808/\Q .nrm (au.mk [(0,.slice b 0 N (.aS 1)),(1,.fn f [] aG),(5,.int .i64 (.ofNat k)),(6,.slice b c9 M (.aS 1)),(7,.int .i64 (.ofNat (j+1)))] [] .none al))/\(bn=false->j<M/\∃s1:List UInt8,aB al b (c9+j*1)=some (.str s1)/\k<N/\∃aA:ab,a8.storeCells al b (0+k*1) [.str s1]=some aA/\k+1<9223372036854775808/\j+1<9223372036854775808/\Q .nrm (au.mk [(0,.slice b 0 N (.aS 1)),(1,.fn f [] aG),(5,.int .i64 (.ofNat (k+1))),(6,.slice b c9 M (.aS 1)),(7,.int .i64 (.ofNat (j+1)))] [] .none aA)))/\(¬j<M->Q (.exit 2) (au.mk [(0,.slice b 0 N (.aS 1)),(1,.fn f [] aG),(5,.int .i64 (.ofNat k)),(6,.slice b c9 M (.aS 1)),(7,.int .i64 (.ofNat j))] [] .none h))):
  a4 Tryd.prog Tryd.f56 call [1,1,0,1,0,0,1,0,0,1,0,1,0,1,0,0] ⟨[(0,.slice b 0 N (.aS 1)),(1,.fn f [] aG),(5,.int .i64 (.ofNat k)),(6,.slice b c9 M (.aS 1)),(7,.int .i64 (.ofNat j))],[],.none,h⟩ Q:=
 dZ [(42,.a9 .o),(47,.a9 .o)] [0,1,5,6,7] [(0,.v (.slice b 0 N (.aS 1))),(1,.o (.fn f [] aG)),(5,.v (.int .i64 (.ofNat k))),(6,.v (.slice b c9 M (.aS 1))),(7,.v (.int .i64 (.ofNat j)))] rfl (Eq.mp (by kernel_rfl) H)
theorem SJ(m b off N:Nat)(cp:c7)(h:ab){R:a7->Prop}(H:∃v1:I,∃al:ab,eh Tryd.prog (ab.push h (.cells [] 9 .own 0 0)) 40 (some 40) (.slice h.n 0 0 (.exact 0)) (.slice b off N cp)=some (v1,al)/\R (.ret v1 al)):
  R (Y (m+1) (.fn 17) [.slice b off N cp] h):=
 dq (intr:=b5) [(7,.a9 .o)] [(0,.v (.slice b off N cp))] Tryd.func17 (by kernel_rfl) (by kernel_rfl) (by kernel_rfl) rfl (Eq.mp (by kernel_rfl) H)
theorem SK(m:Nat)(h:ab){R:a7->Prop}(H:R (.ret .bd h)):
  R (Y (m+1) (.fn 17) [.bd] h):=
 dq (intr:=b5) [] [(0,.v .bd)] Tryd.func17 (by kernel_rfl) (by kernel_rfl) (by kernel_rfl) rfl (Eq.mp (by kernel_rfl) H)
theorem SL(m:Nat)(v:I)(f:Nat)(aG:List I)(h:ab){R:a7->Prop}(H:I.cw (.fn f [] aG)=true/\∃bn:Bool,∃al:ab,(Y m) (.fn 54) [v,.fn 55 [] [.ptr h.n 0]] (ab.push h (.cells [.fn f [] aG] 91 .own 0 0))=.ret (.bool bn) al/\(bn=true->∃v1:I,∃aA:ab,(Y m) (.fn 17) [v] al=.ret v1 aA/\∃v2:I,∃aU:ab,(Y m) (.fn 56) [v1,.fn 57 [] [.ptr h.n 0]] aA=.ret v2 aU/\∃aM:Nat,cr Tryd.prog aU 40 v2=some (.int .i64 (.ofNat aM))/\∃bo:Nat,cr Tryd.prog aU 40 v=some (.int .i64 (.ofNat bo))/\R (.ret (.bool (cW (.ofNat aM) (.ofNat bo))) aU))/\(bn=false->R (.ret (.bool false) al))):
  R (Y (m+1) (.fn 41) [v,.fn f [] aG] h):=
 dq (intr:=b5) [] [(0,.o v),(1,.o (.fn f [] aG))] Tryd.func41 (by kernel_rfl) (by kernel_rfl) (by kernel_rfl) rfl (Eq.mp (by kernel_rfl) H)
theorem SM(m:Nat)(v:I)(f:Nat)(aG:List I)(h:ab){R:a7->Prop}(H:∃dk:Int,∃al:ab,(Y m) (.fn 50) [v,.fn f [] aG] h=.ret (.int .i64 dk) al/\R (.ret (.bool (gN (.ofNat 0) dk)) al)):
  R (Y (m+1) (.fn 36) [v,.fn f [] aG] h):=
 dq (intr:=b5) [(7,.a9 (.z .i64))] [(0,.o v),(1,.o (.fn f [] aG))] Tryd.func36 (by kernel_rfl) (by kernel_rfl) (by kernel_rfl) rfl (Eq.mp (by kernel_rfl) H)
theorem SN(m:Nat)(v:I)(f:Nat)(aG:List I)(h:ab){R:a7->Prop}(H:∃aM:Nat,cr Tryd.prog h 41 v=some (.int .i64 (.ofNat aM))/\a4 Tryd.prog Tryd.f50 (Y m) [1,0,1,0] (au.mk [(0,v),(1,.fn f [] aG),(7,.int .i64 (.ofNat aM)),(8,.int .i64 (.ofNat 0))] [] .none h) (λca ck=>((∃al:ab,∃bW:Env,ca=.exit 0/\ck=au.mk bW [] .none al/\cd [] bW/\R (.ret (.int .i64 (.negSucc 0)) al))\/(∃bo:Nat,∃aA:ab,∃cM:Env,ca=.ret/\ck=au.mk cM [] .none aA/\cd [(4,.int .i64 (.ofNat bo))] cM/\R (.ret (.int .i64 (.ofNat bo)) aA))))):
  R (Y (m+1) (.fn 50) [v,.fn f [] aG] h):=
 dq (intr:=b5) [(4000,.hH [0,1,7,8] [(.exit 0,[]),(.ret,[(4,.n .i64)])])] [(0,.o v),(1,.o (.fn f [] aG))] Tryd.func50 (by kernel_rfl) (by kernel_rfl) (by kernel_rfl) rfl (Eq.mp (by kernel_rfl) H)
theorem SO(call:bt)(b off N i f:Nat)(aG:List I)(cp:c7)(h:ab){Q:bk->au->Prop}(H:(i<N->i<N/\∃v1:I,aB h b (off+i*1)=some v1/\∃bn:Bool,∃al:ab,call (.fn f) (v1::aG) h=.ret (.bool bn) al/\(bn=true->Q .ret (au.mk [(0,.slice b off N cp),(1,.fn f [] aG),(4,.int .i64 (.ofNat i)),(7,.int .i64 (.ofNat N)),(8,.int .i64 (.ofNat i))] [] .none al))/\(bn=false->i+1<9223372036854775808/\Q .nrm (au.mk [(0,.slice b off N cp),(1,.fn f [] aG),(7,.int .i64 (.ofNat N)),(8,.int .i64 (.ofNat (i+1)))] [] .none al)))/\(¬i<N->Q (.exit 0) (au.mk [(0,.slice b off N cp),(1,.fn f [] aG),(7,.int .i64 (.ofNat N)),(8,.int .i64 (.ofNat i))] [] .none h))):
  a4 Tryd.prog Tryd.f50 call [1,0,1,0,0] ⟨[(0,.slice b off N cp),(1,.fn f [] aG),(7,.int .i64 (.ofNat N)),(8,.int .i64 (.ofNat i))],[],.none,h⟩ Q:=
 dZ [(15,.a9 .o)] [0,1,4,7,8] [(0,.v (.slice b off N cp)),(1,.o (.fn f [] aG)),(7,.v (.int .i64 (.ofNat N))),(8,.v (.int .i64 (.ofNat i)))] rfl (Eq.mp (by kernel_rfl) H)
theorem SP(call:bt)(N i f:Nat)(aG:List I)(v:I)(h:ab){Q:bk->au->Prop}(H:¬i<N/\Q (.exit 0) (au.mk [] [] .none h)):
  a4 Tryd.prog Tryd.f50 call [1,0,1,0,0] ⟨[(0,v),(1,.fn f [] aG),(7,.int .i64 (.ofNat N)),(8,.int .i64 (.ofNat i))],[],.none,h⟩ Q:=
 dZ [(1009,.f)] [] [(0,.o v),(1,.o (.fn f [] aG)),(7,.v (.int .i64 (.ofNat N))),(8,.v (.int .i64 (.ofNat i)))] rfl (Eq.mp (by kernel_rfl) H)
theorem SQ(m:Nat)(v:I)(f:Nat)(aG:List I)(h:ab){R:a7->Prop}(H:∃aM:Nat,cr Tryd.prog h 41 v=some (.int .i64 (.ofNat aM))/\(1<=aM/\aM<9223372036854775808)/\a4 Tryd.prog Tryd.f58 (Y m) [1,0,1,0] (au.mk [(0,v),(1,.fn f [] aG),(5,.int .i64 (.ofNat (aM-1)))] [] .none h) (λca ck=>((∃al:ab,∃bW:Env,ca=.exit 0/\ck=au.mk bW [] .none al/\cd [] bW/\R (.ret (.bool true) al))\/(∃aA:ab,∃cM:Env,ca=.ret/\ck=au.mk cM [] .none aA/\cd [(4,.bool false)] cM/\R (.ret (.bool false) aA))))):
  R (Y (m+1) (.fn 58) [v,.fn f [] aG] h):=
 dq (intr:=b5) [(4000,.hH [0,1,5] [(.exit 0,[]),(.ret,[(4,.is (.bool false))])])] [(0,.o v),(1,.o (.fn f [] aG))] Tryd.func58 (by kernel_rfl) (by kernel_rfl) (by kernel_rfl) rfl (Eq.mp (by kernel_rfl) H)
theorem SR(m:Nat)(v:I)(f:Nat)(aG:List I)(h:ab){R:a7->Prop}(H:∃aM:Nat,cr Tryd.prog h 41 v=some (.int .i64 (.ofNat aM))/\∃dk:Int,arith .sub .i64 (.ofNat aM) (.ofNat 1)=some (.int .i64 dk)/\a4 Tryd.prog Tryd.f58 (Y m) [1,0,1,0] (au.mk [(0,v),(1,.fn f [] aG),(5,.int .i64 dk)] [] .none h) (λca ck=>∃al:ab,∃bW:Env,ca=.exit 0/\ck=au.mk bW [] .none al/\cd [] bW/\R (.ret (.bool true) al))):
  R (Y (m+1) (.fn 58) [v,.fn f [] aG] h):=
 dq (intr:=b5) [(8,.a9 (.z .i64)),(4000,.hH [0,1,5] [(.exit 0,[])])] [(0,.o v),(1,.o (.fn f [] aG))] Tryd.func58 (by kernel_rfl) (by kernel_rfl) (by kernel_rfl) rfl (Eq.mp (by kernel_rfl) H)
theorem SS(call:bt)(b off N i f:Nat)(aG:List I)(cp:c7)(h:ab){Q:bk->au->Prop}(H:(0<i->i<N/\∃v1:I,aB (h.room 12) b (off+i*1)=some v1/\(1<=i/\i<9223372036854775808)/\i-1<N/\∃v2:I,aB (h.room 12) b (off+(i-1)*1)=some v2/\∃dk:Int,∃al:ab,call (.fn f) (v1::v2::aG) (h.room 12)=.ret (.int .i64 dk) al/\I.sound (.fn f [] aG)=true/\I.sound v1=true/\I.sound v2=true/\(fx dk (.ofNat 0)=true->Q .ret (au.mk [(0,.slice b off N cp),(1,.fn f [] aG),(4,.bool false),(5,.int .i64 (.ofNat i))] [] .none al))/\(fx dk (.ofNat 0)=false->(1<=i/\i<9223372036854775808)/\Q .nrm (au.mk [(0,.slice b off N cp),(1,.fn f [] aG),(5,.int .i64 (.ofNat (i-1)))] [] .none al)))/\(¬0<i->Q (.exit 0) (au.mk [(0,.slice b off N cp),(1,.fn f [] aG),(5,.int .i64 (.ofNat i))] [] .none h))):
  a4 Tryd.prog Tryd.f58 call [1,0,1,0,0] ⟨[(0,.slice b off N cp),(1,.fn f [] aG),(5,.int .i64 (.ofNat i))],[],.none,h⟩ Q:=
 dZ [(17,.a9 .o),(22,.a9 .o),(23,.a9 (.z .i64))] [0,1,4,5] [(0,.v (.slice b off N cp)),(1,.o (.fn f [] aG)),(5,.v (.int .i64 (.ofNat i)))] rfl (Eq.mp (by kernel_rfl) H)
theorem SU(call:bt)(v:I)(f:Nat)(aG:List I)(h:ab){Q:bk->au->Prop}(H:fx (.ofNat 0) (.negSucc 0)=false/\Q (.exit 0) (au.mk [] [] .none h)):
  a4 Tryd.prog Tryd.f58 call [1,0,1,0,0] ⟨[(0,v),(1,.fn f [] aG),(5,.int .i64 (.negSucc 0))],[],.none,h⟩ Q:=
 dZ [(1010,.f)] [] [(0,.o v),(1,.o (.fn f [] aG)),(5,.v (.int .i64 (.negSucc 0)))] rfl (Eq.mp (by kernel_rfl) H)
theorem SV(m:Nat)(x y:I)(a f:Nat)(aG:List I)(h:ab){R:a7->Prop}(H:aB (h.room 7) a 0=some (.fn f [] aG)/\∃s1:List UInt8,∃al:ab,(Y m) (.fn f) (x::aG) (h.room 7)=.ret (.str s1) al/\aB al a 0=some (.fn f [] aG)/\∃s2:List UInt8,∃aA:ab,(Y m) (.fn f) (y::aG) al=.ret (.str s2) aA/\I.sound (.fn f [] aG)=true/\I.sound x=true/\I.sound (.fn f [] aG)=true/\aB (h.room 7) a 0=some (.fn f [] aG)/\I.sound y=true/\(eR s1 s2=true->R (.ret (.int .i64 (.negSucc 0)) aA))/\(eR s1 s2=false->R (.ret (.int .i64 (.ofNat 1)) aA))):
  R (Y (m+1) (.fn 59) [x,y,.ptr a 0] h):=
 dq (intr:=b5) [(6,.a9 (.io (.fn f [] aG))),(9,.a9 (.io (.fn f [] aG)))] [(0,.o x),(1,.o y),(2,.v (.ptr a 0))] Tryd.func59 (by kernel_rfl) (by kernel_rfl) (by kernel_rfl) rfl (Eq.mp (by kernel_rfl) H)
theorem SW(m:Nat)(x y:I)(a f:Nat)(aG:List I)(h:ab){R:a7->Prop}(H:aB (h.room 8) a 0=some (.fn f [] aG)/\∃s1:List UInt8,∃al:ab,(Y m) (.fn f) (x::aG) (h.room 8)=.ret (.str s1) al/\aB al a 0=some (.fn f [] aG)/\∃s2:List UInt8,∃aA:ab,(Y m) (.fn f) (y::aG) al=.ret (.str s2) aA/\I.sound (.fn f [] aG)=true/\I.sound x=true/\I.sound (.fn f [] aG)=true/\aB (h.room 8) a 0=some (.fn f [] aG)/\I.sound y=true/\R (.ret (.bool (dv s1 s2)) aA)):
  R (Y (m+1) (.fn 62) [x,y,.ptr a 0] h):=
 dq (intr:=b5) [(6,.a9 (.io (.fn f [] aG))),(9,.a9 (.io (.fn f [] aG)))] [(0,.o x),(1,.o y),(2,.v (.ptr a 0))] Tryd.func62 (by kernel_rfl) (by kernel_rfl) (by kernel_rfl) rfl (Eq.mp (by kernel_rfl) H)
theorem Jc(m:Nat)(v:I)(f:Nat)(aG:List I)(h:ab){R:a7->Prop}(H:∃aM:Nat,cr Tryd.prog h 41 v=some (.int .i64 (.ofNat aM))/\(aM<2->R (.ret v h))/\(¬aM<2->a4 Tryd.prog Tryd.f60 (Y m) [1,1,0,1,0] (au.mk [(0,v),(1,.fn f [] aG),(5,.int .i64 (.ofNat 1))] [] .none h) (λca ck=>((∃v1:I,∃al:ab,∃bW:Env,ca=.exit 0/\ck=au.mk bW [] .none al/\cd [(0,v1)] bW/\R (.ret v1 al))\/(∃v2:I,∃aA:ab,∃cM:Env,ca=.ret/\ck=au.mk cM [] .none aA/\cd [(4,v2)] cM/\R (.ret v2 aA)))))):
  R (Y (m+1) (.fn 60) [v,.fn f [] aG] h):=
 dq (intr:=b5) [(4000,.hH [0,1,5] [(.exit 0,[(0,.o)]),(.ret,[(4,.o)])])] [(0,.o v),(1,.o (.fn f [] aG))] Tryd.func60 (by kernel_rfl) (by kernel_rfl) (by kernel_rfl) rfl (Eq.mp (by kernel_rfl) H)
theorem SX(call:bt)(b N k f:Nat)(aG:List I)(h:ab){Q:bk->au->Prop}(H:(k<N->k<N/\∃v1:I,aB (h.room 11) b (0+k*1)=some v1/\(1<=k/\k<9223372036854775808)/\k-1<N/\∃v2:I,aB (h.room 11) b (0+(k-1)*1)=some v2/\∃bn:Bool,∃al:ab,call (.fn f) (v1::v2::aG) (h.room 11)=.ret (.bool bn) al/\I.sound (.fn f [] aG)=true/\I.sound v1=true/\I.sound v2=true/\(bn=true->∃aM:Nat,∃bo:Nat,∃bF:Nat,∃aT:c7,ec Tryd.prog al 41 (.slice b 0 N (.aS 1)) (some (.int .i64 (.ofNat k))) none none=some (.slice aM bo bF aT)/\a4 Tryd.prog Tryd.f60 call [1,1,0,1,0,0,1,0,0,1,0,1,0,1,0] (au.mk [(0,.slice b 0 N (.aS 1)),(1,.fn f [] aG),(5,.int .i64 (.ofNat k)),(6,.slice aM bo bF aT),(7,.int .i64 (.ofNat 1))] [] .none al) (λca ck=>∃b4:Nat,∃cy:Nat,∃cO:Nat,∃bp:c7,∃di:Nat,∃aA:ab,∃bW:Env,ca=.exit 2/\ck=au.mk bW [] .none aA/\cd [(0,.slice b4 cy cO bp),(5,.int .i64 (.ofNat di))] bW/\∃fu:Nat,∃gJ:Nat,∃fT:Nat,∃ef:c7,ec Tryd.prog aA 41 (.slice b4 cy cO bp) (some (.int .i64 (.ofNat di))) none none=some (.slice fu gJ fT ef)/\∃aU:ab,nj Tryd.prog aA 41 (.slice fu gJ fT ef)=some (.aJ [],aU)/\∃eE:I,ec Tryd.prog aU 41 (.slice b4 cy cO bp) none (some (.int .i64 (.ofNat di))) none=some eE/\Q .ret (au.mk [(0,.slice b4 cy cO bp),(4,eE),(5,.int .i64 (.ofNat di))] [] .none aU)))/\(bn=false->k+1<9223372036854775808/\Q .nrm (au.mk [(0,.slice b 0 N (.aS 1)),(1,.fn f [] aG),(5,.int .i64 (.ofNat (k+1)))] [] .none al)))/\(¬k<N->Q (.exit 0) (au.mk [(0,.slice b 0 N (.aS 1)),(1,.fn f [] aG),(5,.int .i64 (.ofNat k))] [] .none h))):
  a4 Tryd.prog Tryd.f60 call [1,1,0,1,0,0] ⟨[(0,.slice b 0 N (.aS 1)),(1,.fn f [] aG),(5,.int .i64 (.ofNat k))],[],.none,h⟩ Q:=
 dZ [(22,.a9 .o),(27,.a9 .o),(31,.a9 .im),(4002,.hH [0,1,5,6,7] [(.exit 2,[(0,.im),(5,.n .i64)])]),(61,.a9 .im),(64,.a9 .o)] [0,1,4,5] [(0,.v (.slice b 0 N (.aS 1))),(1,.o (.fn f [] aG)),(5,.v (.int .i64 (.ofNat k)))] rfl (Eq.mp (by kernel_rfl) H)
theorem SY(call:bt)(b N k f c9 M j:Nat)(aG:List I)(h:ab){Q:bk->au->Prop}(H:(j<M->j<M/\∃v1:I,aB (h.room 12) b (c9+j*1)=some v1/\(1<=j/\j<9223372036854775808)/\j-1<M/\∃v2:I,aB (h.room 12) b (c9+(j-1)*1)=some v2/\∃bn:Bool,∃al:ab,call (.fn f) (v1::v2::aG) (h.room 12)=.ret (.bool bn) al/\I.sound (.fn f [] aG)=true/\I.sound v1=true/\I.sound v2=true/\(bn=true->j+1<9223372036854775808/\Q .nrm (au.mk [(0,.slice b 0 N (.aS 1)),(1,.fn f [] aG),(5,.int .i64 (.ofNat k)),(6,.slice b c9 M (.aS 1)),(7,.int .i64 (.ofNat (j+1)))] [] .none al))/\(bn=false->j<M/\∃aM:Nat,aB al b (c9+j*1)=some (.ptr aM 0)/\k<N/\∃aA:ab,a8.storeCells al b (0+k*1) [.ptr aM 0]=some aA/\k+1<9223372036854775808/\j+1<9223372036854775808/\Q .nrm (au.mk [(0,.slice b 0 N (.aS 1)),(1,.fn f [] aG),(5,.int .i64 (.ofNat (k+1))),(6,.slice b c9 M (.aS 1)),(7,.int .i64 (.ofNat (j+1)))] [] .none aA)))/\(¬j<M->Q (.exit 2) (au.mk [(0,.slice b 0 N (.aS 1)),(1,.fn f [] aG),(5,.int .i64 (.ofNat k)),(6,.slice b c9 M (.aS 1)),(7,.int .i64 (.ofNat j))] [] .none h))):
  a4 Tryd.prog Tryd.f60 call [1,1,0,1,0,0,1,0,0,1,0,1,0,1,0,0] ⟨[(0,.slice b 0 N (.aS 1)),(1,.fn f [] aG),(5,.int .i64 (.ofNat k)),(6,.slice b c9 M (.aS 1)),(7,.int .i64 (.ofNat j))],[],.none,h⟩ Q:=
 dZ [(42,.a9 .o),(47,.a9 .o)] [0,1,5,6,7] [(0,.v (.slice b 0 N (.aS 1))),(1,.o (.fn f [] aG)),(5,.v (.int .i64 (.ofNat k))),(6,.v (.slice b c9 M (.aS 1))),(7,.v (.int .i64 (.ofNat j)))] rfl (Eq.mp (by kernel_rfl) H)
theorem SZ(m b off N:Nat)(cp:c7)(h:ab){R:a7->Prop}(H:∃v1:I,∃al:ab,eh Tryd.prog (ab.push h (.cells [] 33 .own 0 0)) 41 (some 41) (.slice h.n 0 0 (.exact 0)) (.slice b off N cp)=some (v1,al)/\R (.ret v1 al)):
  R (Y (m+1) (.fn 61) [.slice b off N cp] h):=
 dq (intr:=b5) [(7,.a9 .o)] [(0,.v (.slice b off N cp))] Tryd.func61 (by kernel_rfl) (by kernel_rfl) (by kernel_rfl) rfl (Eq.mp (by kernel_rfl) H)
theorem S0(m:Nat)(h:ab){R:a7->Prop}(H:R (.ret .bd h)):
  R (Y (m+1) (.fn 61) [.bd] h):=
 dq (intr:=b5) [] [(0,.v .bd)] Tryd.func61 (by kernel_rfl) (by kernel_rfl) (by kernel_rfl) rfl (Eq.mp (by kernel_rfl) H)
theorem S1(m:Nat)(v:I)(f:Nat)(aG:List I)(h:ab){R:a7->Prop}(H:I.cw (.fn f [] aG)=true/\∃bn:Bool,∃al:ab,(Y m) (.fn 58) [v,.fn 59 [] [.ptr h.n 0]] (ab.push h (.cells [.fn f [] aG] 93 .own 0 0))=.ret (.bool bn) al/\(bn=true->∃v1:I,∃aA:ab,(Y m) (.fn 61) [v] al=.ret v1 aA/\∃v2:I,∃aU:ab,(Y m) (.fn 60) [v1,.fn 62 [] [.ptr h.n 0]] aA=.ret v2 aU/\∃aM:Nat,cr Tryd.prog aU 41 v2=some (.int .i64 (.ofNat aM))/\∃bo:Nat,cr Tryd.prog aU 41 v=some (.int .i64 (.ofNat bo))/\R (.ret (.bool (cW (.ofNat aM) (.ofNat bo))) aU))/\(bn=false->R (.ret (.bool false) al))):
  R (Y (m+1) (.fn 44) [v,.fn f [] aG] h):=
 dq (intr:=b5) [] [(0,.o v),(1,.o (.fn f [] aG))] Tryd.func44 (by kernel_rfl) (by kernel_rfl) (by kernel_rfl) rfl (Eq.mp (by kernel_rfl) H)
theorem S2(m:Nat)(v:I)(h:ab){R:a7->Prop}(H:∃bn:Bool,∃al:ab,(Y m) (.fn 24) [v] h=.ret (.bool bn) al/\R (.ret (.bool !bn) al)):
  R (Y (m+1) (.fn 35) [v] h):=
 dq (intr:=b5) [] [(0,.o v)] Tryd.func35 (by kernel_rfl) (by kernel_rfl) (by kernel_rfl) rfl (Eq.mp (by kernel_rfl) H)
theorem S3(m:Nat)(s:List UInt8)(h:ab){R:a7->Prop}(H:∃bn:Bool,∃al:ab,(Y m) (.fn 40) [.str s] h=.ret (.bool bn) al/\R (.ret (.bool !bn) al)):
  R (Y (m+1) (.fn 39) [.str s] h):=
 dq (intr:=b5) [] [(0,.v (.str s))] Tryd.func39 (by kernel_rfl) (by kernel_rfl) (by kernel_rfl) rfl (Eq.mp (by kernel_rfl) H)
theorem S4(m:Nat)(s:List UInt8)(h:ab){R:a7->Prop}(H:R (.ret (.str s) h)):
  R (Y (m+1) (.fn 42) [.str s] h):=
 dq (intr:=b5) [] [(0,.v (.str s))] Tryd.func42 (by kernel_rfl) (by kernel_rfl) (by kernel_rfl) rfl (Eq.mp (by kernel_rfl) H)
theorem S5(m r:Nat)(h:ab){R:a7->Prop}(H:∃aM:Nat,aB h r (0+0)=some (.int .i64 (.ofNat aM))/\(aM=9->R (.ret (.bool true) h))/\(¬aM=9->∃bo:Nat,aB h r (0+0)=some (.int .i64 (.ofNat bo))/\R (.ret (.bool (cW (.ofNat bo) (.ofNat 1))) h))):
  R (Y (m+1) (.fn 43) [.ptr r 0] h):=
 dq (intr:=b5) [] [(0,.v (.ptr r 0))] Tryd.func43 (by kernel_rfl) (by kernel_rfl) (by kernel_rfl) rfl (Eq.mp (by kernel_rfl) H)
theorem S6(m r:Nat)(h:ab){R:a7->Prop}(H:∃aM:Nat,∃al:ab,(Y m) (.fn 22) [.ptr r 0] h=.ret (.int .i64 (.ofNat aM)) al/\(60<aM->R (.ret (.int .i64 (.ofNat 3)) al))/\(¬60<aM->∃bn:Bool,∃aA:ab,(Y m) (.fn 24) [.ptr r 0] al=.ret (.bool bn) aA/\(bn=true->R (.ret (.int .i64 (.ofNat 0)) aA))/\(bn=false->R (.ret (.int .i64 (.ofNat 2)) aA)))):
  R (Y (m+1) (.fn 18) [.ptr r 0] h):=
 dq (intr:=b5) [] [(0,.v (.ptr r 0))] Tryd.func18 (by kernel_rfl) (by kernel_rfl) (by kernel_rfl) rfl (Eq.mp (by kernel_rfl) H)
theorem S7(m:Nat)(h:ab){R:a7->Prop}(H:R (.ret (.int .i64 (.ofNat 1)) h)):
  R (Y (m+1) (.fn 18) [.br] h):=
 dq (intr:=b5) [] [(0,.v .br)] Tryd.func18 (by kernel_rfl) (by kernel_rfl) (by kernel_rfl) rfl (Eq.mp (by kernel_rfl) H)
theorem qz{n:Nat}{q:Nat->Bool}(h:∀j,j<n->q j=false):(List.range n).any q=false:=by
 rw[List.any_eq_false];intro j aF;rw[h j (by simpa using aF)];simp
theorem uh{n i:Nat}{q:Nat->Bool}(ag:i<n)(h:q i=true):(List.range n).any q=true:=List.any_eq_true.2 ⟨i,by simpa using ag,h⟩
theorem kX{f:Nat}{aG:List I}(h:iv aG=true):I.sound (.fn f [] aG)=true:=by simp[I.sound,iv,h]
theorem wS(z:I)(aP:z.cw=true)(L:List I)(k:Nat)(an:k<L.length):ff k [z] L=some (L.set k z):=by
 have h:=wc (L.take k) [z] (L.drop k) (by simp[aP]) (by simp;omega)
 rw[List.length_take,Nat.min_eq_left (by omega),List.take_append_drop] at h
 rw[h,List.drop_drop]
 congr 1
 rw[List.set_eq_take_append_cons_drop,if_pos an]
 rfl
theorem Jd(xs:List I)(J:xs.all I.cw=true)(L:List I)(k:Nat)(an:k+xs.length<=L.length):∃qA,ff k xs L=some qA/\qA.length=L.length:=by
 have h:=wc (L.take k) xs (L.drop k) J (by simp;omega)
 rw[List.length_take,Nat.min_eq_left (by omega),List.take_append_drop] at h
 exact⟨_,h,by simp;omega⟩
theorem S8:∀(l cs:List I) (o:Nat),(∀i (ag:i<l.length),nth (o+i) cs=some l[i])->takeN l.length (ih o cs)=some l:=by
 have base:∀(l cs:List I),(∀i (ag:i<l.length),nth i cs=some l[i])->takeN l.length cs=some l:=by
  intro l
  induction l with
  |nil=>intro cs _;rfl
  |cons a l a3=>
   intro cs h
   cases cs with
   |nil=>have:=h 0 (by simp);simp[nth] at this
   |cons c cs=>
    have h0:=h 0 (by simp)
    simp only[nth,List.getElem_cons_zero,Option.some.injEq] at h0
    subst h0
    have:=a3 cs (λi ag=>by have:=h (i+1) (by simpa using ag);simpa[nth] using this)
    simp only[List.length_cons,takeN,this]
 intro l cs o
 induction o generalizing cs with
 |zero=>intro h;exact base l cs (λi ag=>by have:=h i ag;rwa [Nat.zero_add] at this)
 |succ o a3=>
  intro h
  cases cs with
  |nil=>
   cases l with
   |nil=>rfl
   |cons a l=>have:=h 0 (by simp);simp[nth] at this
  |cons c cs=>
   refine a3 cs (λi ag=>?_)
   have:=h i ag
   rw[show o+1+i=(o+i)+1 by omega] at this
   simpa[nth] using this
theorem ep.src{B:Nat}{h:ab}{b off:Nat}{cp:c7}{vs:List I}(ar:∀i (ag:i<vs.length),aB h b (off+i*1)=some vs[i])(h0:0<vs.length)(af:cp≠ .dead):fF h 1 (.slice b off vs.length cp)=some (vs.length,vs):=by
 have ae:∃cs e k aY up,h.get b=some (.cells cs e k aY up):=by
  have:=ar 0 h0
  unfold aB at this
  split at this
  · rename_i cs e k aY up aj
    exact⟨cs,e,k,aY,up,aj⟩
  · cases this
 obtain⟨cs,e,k,aY,up,aj⟩:=ae
 have ga:a8.loadCells h b off (vs.length*1)=some vs:=by
  refine oW aj ?_
  rw[Nat.mul_one]
  refine S8 vs cs off (λi ag=>?_)
  have:=ar i ag
  simp only[aB,aj,Nat.mul_one] at this
  exact this
 cases cp with
 |dead=>exact absurd rfl af
 |exact c=>simp only[fF,ga]
 |aS c=>simp only[fF,ga]
def gZ(h:ab)(b:Nat)(el:Nat)(L:List I):Prop:=h.get b=some (.cells L el .aS 0 0)
theorem gZ.mm{h:ab}{b el:Nat}{L:List I}(aQ:gZ h b el L){i o:Nat}(ag:i<L.length)(e:o=i):aB h b o=some L[i]:=by
 subst e;exact mb aQ (List.getElem?_eq_getElem ag)
theorem S9(m:Nat){B:Nat}{h:ab}{v:I}{vs:List I}(f:Nat)(aG:List I)(q:Nat->Bool)(aD:ep B h v vs)(hlen:vs.length<=90000)(hf:∀i (ag:i<vs.length) x,Ext B h x->cx B x (.bool (q i)) (Y m (.fn f) (vs[i]::aG) x)):
  cx B h (.bool ((List.range vs.length).any q)) (Y (m+2) (.fn 38) [v,.fn f [] aG] h):=by
 refine Sx (m+1) v f aG h ?_
 have key:∃i g,Y (m+1) (.fn 52) [v,.fn f [] aG] h=.ret (.int .i64 i) g/\gN (Int.ofNat 0) i=(List.range vs.length).any q/\Ext B h g:=by
  refine Sy m v f aG h (R:=λx=>∃i g,x=.ret (.int .i64 i) g/\gN (Int.ofNat 0) i=(List.range vs.length).any q/\Ext B h g) ⟨vs.length,aD.len (t:=40) (e:=9) (by kernel_rfl),?_⟩
  refine a4.loop (by kernel_rfl) (λk st=>∃i x Γ,st=⟨Γ,[],.none,x⟩/\cd [(0,v),(1,.fn f [] aG),(7,.int .i64 (Int.ofNat vs.length)),(8,.int .i64 (Int.ofNat i))] Γ/\vs.length-i=k/\i<=vs.length/\Ext B h x/\∀j,j<i->q j=false) ?_ vs.length _ (by omega) ⟨0,h,_,rfl,⟨rfl,rfl,rfl,rfl,trivial⟩,by omega,by omega,Ext.refl _ _,λj aF=>by omega⟩
  rintro k st ⟨i,x,Γ,rfl,cR,an,ag,J,aE⟩
  rcases aD with⟨rfl,rfl⟩|⟨b,off,cp,rfl,ae,ar,aL,ak⟩
  · exact a4.pre (SA (Y m) _ i f aG _ x ⟨by simp,.inl ⟨x,_,rfl,rfl,trivial,_,x,rfl,rfl,J⟩⟩) cR rfl rfl rfl
  · refine a4.pre (Sz (Y m) b off _ i f aG cp x ⟨λaa=>⟨aa,_,lr J ae (ar i aa),?_⟩,λaa=>?_⟩) cR rfl rfl rfl
    · obtain⟨g,aT,bM⟩:=hf i aa x J
      have aj:=J.trans (Nat.le_refl _) bM
      refine⟨q i,g,aT,λaf=>?_,λaf=>?_⟩
      · exact .inr ⟨i,g,_,rfl,rfl,⟨rfl,trivial⟩,_,g,rfl,by rw[uh aa af];exact zb (by omega),aj⟩
      · refine⟨by omega,_,(by show _<k;omega),i+1,g,_,rfl,⟨rfl,rfl,rfl,rfl,trivial⟩,rfl,by omega,aj,λj aF=>?_⟩
        by_cases e:j=i
        · rw[e];exact af
        · exact aE j (by omega)
    · exact .inl ⟨x,_,rfl,rfl,trivial,_,x,rfl,by rw[qz (λj aF=>aE j (by omega))];rfl,J⟩
 obtain⟨i,g,aT,ax,bM⟩:=key
 exact⟨i,g,aT,cx.of (g9 ax.symm) bM⟩
theorem S_(m:Nat){B:Nat}{h:ab}{v:I}{vs:List I}(f:Nat)(aG:List I)(q:Nat->Nat->Bool)(aD:ep B h v vs)(hlen:vs.length<=90000)(gE:iv aG=true)(dY:∀i (ag:i<vs.length),I.sound vs[i]=true)(hf:∀i j (ag:i<vs.length) (aF:j<vs.length) x,Ext B h x->cx B x (.int .i64 (if q i j then Int.negSucc 0 else Int.ofNat 1)) (Y m (.fn f) (vs[i]::vs[j]::aG) x)):
  cx B h (.bool (!(List.range vs.length).any (λi=>decide (0<i)&&q i (i-1)))) (Y (m+1) (.fn 54) [v,.fn f [] aG] h):=by
 by_cases h0:vs.length=0
 · refine SC m v f aG h ⟨0,by rw[<-h0];exact aD.len (t:=40) (e:=9) (by kernel_rfl),Int.negSucc 0,by kernel_rfl,?_⟩
   refine a4.loop (by kernel_rfl) (λk st=>∃Γ,st=⟨Γ,[],.none,h⟩/\cd [(0,v),(1,.fn f [] aG),(5,.int .i64 (Int.negSucc 0))] Γ) ?_ 1 _ (by omega) ⟨_,rfl,rfl,rfl,rfl,trivial⟩
   rintro k st ⟨Γ,rfl,cR⟩
   exact a4.pre (SE (Y m) v f aG h ⟨rfl,h,_,rfl,rfl,trivial,cx.of (g9 (by rw[h0];rfl)) (Ext.refl _ _)⟩) cR rfl rfl rfl
 · refine SB m v f aG h ⟨vs.length,aD.len (t:=40) (e:=9) (by kernel_rfl),⟨by omega,by omega⟩,?_⟩
   refine a4.loop (by kernel_rfl) (λk st=>∃i x Γ,st=⟨Γ,[],.none,x⟩/\cd [(0,v),(1,.fn f [] aG),(5,.int .i64 (Int.ofNat i))] Γ/\i=k/\i<vs.length/\Ext B h x/\∀j,i<j->j<vs.length->q j (j-1)=false) ?_ (vs.length-1) _ (by omega) ⟨vs.length-1,h,_,rfl,⟨rfl,rfl,rfl,trivial⟩,by omega,by omega,Ext.refl _ _,λj aF nE=>by omega⟩
   rintro k st ⟨i,x,Γ,rfl,cR,an,ag,J,aE⟩
   rcases aD with⟨rfl,rfl⟩|⟨b,off,cp,rfl,ae,ar,aL,ak⟩
   · simp at h0
   · refine a4.pre (SD (Y m) b off _ i f aG cp x ⟨λaa=>?_,λaa=>?_⟩) cR rfl rfl rfl
     · have ai:=J.ma (k:=12)
       obtain⟨g,aT,bM⟩:=hf i (i-1) ag (by omega) _ ai
       have aj:=ai.trans (Nat.le_refl _) bM
       refine⟨ag,_,lr ai ae (ar i ag),⟨by omega,by omega⟩,by omega,_,lr ai ae (ar (i-1) (by omega)),_,g,aT,kX gE,dY i ag,dY (i-1) (by omega),λaf=>?_,λaf=>?_⟩
       · have lF:q i (i-1)=true:=by
           cases oJ:q i (i-1) with
           |true=>rfl
           |false=>rw[oJ] at af;exact absurd af (by decide)
         exact .inr ⟨g,_,rfl,rfl,⟨rfl,trivial⟩,cx.of (g9 (by rw[uh ag (by simp[aa,lF])];rfl)) aj⟩
       · have lF:q i (i-1)=false:=by
           cases oJ:q i (i-1) with
           |false=>rfl
           |true=>rw[oJ] at af;exact absurd af (by decide)
         refine⟨⟨by omega,by omega⟩,_,(by show _<k;omega),i-1,g,_,rfl,⟨rfl,rfl,rfl,trivial⟩,rfl,by omega,aj,λj aF nE=>?_⟩
         by_cases e:j=i
         · rw[e];exact lF
         · exact aE j (by omega) nE
     · refine .inl ⟨x,_,rfl,rfl,trivial,cx.of (g9 ?_) J⟩
       rw[qz (λj aF=>?_)];rfl
       by_cases e:0<j
       · rw[aE j (by omega) aF,Bool.and_false]
       · simp[e]
theorem Je(m:Nat){B:Nat}{h:ab}{v:I}{vs:List I}(f:Nat)(aG:List I)(q:Nat->Bool)(aD:ep B h v vs)(hlen:vs.length<=90000)(hf:∀i (ag:i<vs.length) x,Ext B h x->cx B x (.bool (q i)) (Y m (.fn f) (vs[i]::aG) x)):
  cx B h (.bool ((List.range vs.length).any q)) (Y (m+2) (.fn 36) [v,.fn f [] aG] h):=by
 refine SM (m+1) v f aG h ?_
 have key:∃i g,Y (m+1) (.fn 50) [v,.fn f [] aG] h=.ret (.int .i64 i) g/\gN (Int.ofNat 0) i=(List.range vs.length).any q/\Ext B h g:=by
  refine SN m v f aG h (R:=λx=>∃i g,x=.ret (.int .i64 i) g/\gN (Int.ofNat 0) i=(List.range vs.length).any q/\Ext B h g) ⟨vs.length,aD.len (t:=41) (e:=33) (by kernel_rfl),?_⟩
  refine a4.loop (by kernel_rfl) (λk st=>∃i x Γ,st=⟨Γ,[],.none,x⟩/\cd [(0,v),(1,.fn f [] aG),(7,.int .i64 (Int.ofNat vs.length)),(8,.int .i64 (Int.ofNat i))] Γ/\vs.length-i=k/\i<=vs.length/\Ext B h x/\∀j,j<i->q j=false) ?_ vs.length _ (by omega) ⟨0,h,_,rfl,⟨rfl,rfl,rfl,rfl,trivial⟩,by omega,by omega,Ext.refl _ _,λj aF=>by omega⟩
  rintro k st ⟨i,x,Γ,rfl,cR,an,ag,J,aE⟩
  rcases aD with⟨rfl,rfl⟩|⟨b,off,cp,rfl,ae,ar,aL,ak⟩
  · exact a4.pre (SP (Y m) _ i f aG _ x ⟨by simp,.inl ⟨x,_,rfl,rfl,trivial,_,x,rfl,rfl,J⟩⟩) cR rfl rfl rfl
  · refine a4.pre (SO (Y m) b off _ i f aG cp x ⟨λaa=>⟨aa,_,lr J ae (ar i aa),?_⟩,λaa=>?_⟩) cR rfl rfl rfl
    · obtain⟨g,aT,bM⟩:=hf i aa x J
      have aj:=J.trans (Nat.le_refl _) bM
      refine⟨q i,g,aT,λaf=>?_,λaf=>?_⟩
      · exact .inr ⟨i,g,_,rfl,rfl,⟨rfl,trivial⟩,_,g,rfl,by rw[uh aa af];exact zb (by omega),aj⟩
      · refine⟨by omega,_,(by show _<k;omega),i+1,g,_,rfl,⟨rfl,rfl,rfl,rfl,trivial⟩,rfl,by omega,aj,λj aF=>?_⟩
        by_cases e:j=i
        · rw[e];exact af
        · exact aE j (by omega)
    · exact .inl ⟨x,_,rfl,rfl,trivial,_,x,rfl,by rw[qz (λj aF=>aE j (by omega))];rfl,J⟩
 obtain⟨i,g,aT,ax,bM⟩:=key
 exact⟨i,g,aT,cx.of (g9 ax.symm) bM⟩
theorem Ta(m:Nat){B:Nat}{h:ab}{v:I}{vs:List I}(f:Nat)(aG:List I)(q:Nat->Nat->Bool)(aD:ep B h v vs)(hlen:vs.length<=90000)(gE:iv aG=true)(dY:∀i (ag:i<vs.length),I.sound vs[i]=true)(hf:∀i j (ag:i<vs.length) (aF:j<vs.length) x,Ext B h x->cx B x (.int .i64 (if q i j then Int.negSucc 0 else Int.ofNat 1)) (Y m (.fn f) (vs[i]::vs[j]::aG) x)):
  cx B h (.bool (!(List.range vs.length).any (λi=>decide (0<i)&&q i (i-1)))) (Y (m+1) (.fn 58) [v,.fn f [] aG] h):=by
 by_cases h0:vs.length=0
 · refine SR m v f aG h ⟨0,by rw[<-h0];exact aD.len (t:=41) (e:=33) (by kernel_rfl),Int.negSucc 0,by kernel_rfl,?_⟩
   refine a4.loop (by kernel_rfl) (λk st=>∃Γ,st=⟨Γ,[],.none,h⟩/\cd [(0,v),(1,.fn f [] aG),(5,.int .i64 (Int.negSucc 0))] Γ) ?_ 1 _ (by omega) ⟨_,rfl,rfl,rfl,rfl,trivial⟩
   rintro k st ⟨Γ,rfl,cR⟩
   exact a4.pre (SU (Y m) v f aG h ⟨rfl,h,_,rfl,rfl,trivial,cx.of (g9 (by rw[h0];rfl)) (Ext.refl _ _)⟩) cR rfl rfl rfl
 · refine SQ m v f aG h ⟨vs.length,aD.len (t:=41) (e:=33) (by kernel_rfl),⟨by omega,by omega⟩,?_⟩
   refine a4.loop (by kernel_rfl) (λk st=>∃i x Γ,st=⟨Γ,[],.none,x⟩/\cd [(0,v),(1,.fn f [] aG),(5,.int .i64 (Int.ofNat i))] Γ/\i=k/\i<vs.length/\Ext B h x/\∀j,i<j->j<vs.length->q j (j-1)=false) ?_ (vs.length-1) _ (by omega) ⟨vs.length-1,h,_,rfl,⟨rfl,rfl,rfl,trivial⟩,by omega,by omega,Ext.refl _ _,λj aF nE=>by omega⟩
   rintro k st ⟨i,x,Γ,rfl,cR,an,ag,J,aE⟩
   rcases aD with⟨rfl,rfl⟩|⟨b,off,cp,rfl,ae,ar,aL,ak⟩
   · simp at h0
   · refine a4.pre (SS (Y m) b off _ i f aG cp x ⟨λaa=>?_,λaa=>?_⟩) cR rfl rfl rfl
     · have ai:=J.ma (k:=12)
       obtain⟨g,aT,bM⟩:=hf i (i-1) ag (by omega) _ ai
       have aj:=ai.trans (Nat.le_refl _) bM
       refine⟨ag,_,lr ai ae (ar i ag),⟨by omega,by omega⟩,by omega,_,lr ai ae (ar (i-1) (by omega)),_,g,aT,kX gE,dY i ag,dY (i-1) (by omega),λaf=>?_,λaf=>?_⟩
       · have lF:q i (i-1)=true:=by
           cases oJ:q i (i-1) with
           |true=>rfl
           |false=>rw[oJ] at af;exact absurd af (by decide)
         exact .inr ⟨g,_,rfl,rfl,⟨rfl,trivial⟩,cx.of (g9 (by rw[uh ag (by simp[aa,lF])];rfl)) aj⟩
       · have lF:q i (i-1)=false:=by
           cases oJ:q i (i-1) with
           |false=>rfl
           |true=>rw[oJ] at af;exact absurd af (by decide)
         refine⟨⟨by omega,by omega⟩,_,(by show _<k;omega),i-1,g,_,rfl,⟨rfl,rfl,rfl,trivial⟩,rfl,by omega,aj,λj aF nE=>?_⟩
         by_cases e:j=i
         · rw[e];exact lF
         · exact aE j (by omega) nE
     · refine .inl ⟨x,_,rfl,rfl,trivial,cx.of (g9 ?_) J⟩
       rw[qz (λj aF=>?_)];rfl
       by_cases e:0<j
       · rw[aE j (by omega) aF,Bool.and_false]
       · simp[e]
theorem Jf{n:Nat}(h:¬n<2):2<=n:=by omega
theorem wT{P:Program}{h:ab}{T E b n k:Nat}(hu:P.underlying T=some (.slice E))(hs:cY P E=some 1)(h0:0<k)(an:k<n):ec P h T (.slice b 0 n (.aS 1)) (some (.int .i64 (Int.ofNat k))) none none=some (.slice b (0+k*1) (n-k) (.aS 1)):=by
 have bn:Nat.ble n n=true:=by rw[Nat.ble_eq];omega
 have cJ:Nat.ble k n=true:=by rw[Nat.ble_eq];omega
 have dr:Nat.blt k n=true:=by rw[Nat.blt_eq];exact an
 have da:¬k=0:=by omega
 simp only[ec,hu,hs,bounds,g3,eb,bn,cJ,dr,if_true,if_neg da]
theorem zG{P:Program}{h:ab}{T E b n k:Nat}(hu:P.underlying T=some (.slice E))(hs:cY P E=some 1)(an:k<=n):ec P h T (.slice b 0 n (.aS 1)) none (some (.int .i64 (Int.ofNat k))) none=some (.slice b 0 k (.aS 1)):=by
 have bn:Nat.ble n n=true:=by rw[Nat.ble_eq];omega
 have cJ:Nat.ble k n=true:=by rw[Nat.ble_eq];omega
 have dr:Nat.ble 0 k=true:=by rw[Nat.ble_eq];omega
 simp only[ec,hu,hs,bounds,g3,eb,bn,cJ,dr,if_true,Nat.sub_zero]
theorem Jg:∀a:a5,eR a a=false
 |[]=>rfl
 |x::a=>by rw[Dp,if_pos rfl];exact Jg a
theorem Jh:∀a b:a5,eR a b=true->eR b a=false
 |[],b,h=>by cases b<;>rfl
 |x::a,[],h=>by simp[eR] at h
 |x::a,y::b,h=>by
  rw[Dp] at h⊢
  by_cases e:x.toNat=y.toNat
  · rw[if_pos e] at h;rw[if_pos e.symm];exact Jh a b h
  · rw[if_neg e] at h;rw[if_neg (λh=>e h.symm)]
    have:x.toNat<y.toNat:=by simpa using h
    simp;omega
theorem Ji:∀a b:a5,eR a b=false->eR b a=false->a=b
 |[],[],_,_=>rfl
 |[],y::b,h,_=>by simp[eR] at h
 |x::a,[],_,h=>by simp[eR] at h
 |x::a,y::b,aa,ad=>by
  rw[Dp] at aa ad
  by_cases e:x.toNat=y.toNat
  · rw[if_pos e] at aa;rw[if_pos e.symm] at ad
    rw[Ji a b aa ad,show x=y from UInt8.toNat_inj.1 e]
  · rw[if_neg e] at aa;rw[if_neg (λh=>e h.symm)] at ad
    simp at aa ad;omega
theorem Jj(a b:a5):eR a b=(!eR b a&&!dv b a):=by
 by_cases e:b=a
 · subst e;rw[Jg,Qd];rfl
 · have ae:dv b a=false:=by
     cases J:dv b a with
     |false=>rfl
     |true=>exact absurd (by simpa[nF] using J) e
   rw[ae]
   cases aa:eR a b with
   |true=>rw[Jh a b aa];rfl
   |false=>
    cases ad:eR b a with
    |true=>rfl
    |false=>exact absurd (Ji a b aa ad).symm e
def n5(w:Nat->a5)(n:Nat):Bool:=!(List.range n).any (λi=>decide (0<i)&&!eR (w (i-1)) (w i))
theorem Jk(w:Nat->a5)(n:Nat)(hs:(!(List.range n).any (λi=>decide (0<i)&&eR (w i) (w (i-1))))=true):n5 w n=(!(List.range n).any (λi=>decide (0<i)&&dv (w i) (w (i-1)))):=by
 unfold n5
 congr 1
 rw[Bool.not_eq_true',List.any_eq_false] at hs
 rw[Bool.eq_iff_iff,List.any_eq_true,List.any_eq_true]
 refine exists_congr λi=>and_congr_right λag=>?_
 have:=hs i ag
 rw[Jj (w (i-1)) (w i)]
 by_cases e:0<i
 · have ar:eR (w i) (w (i-1))=false:=by simpa[e] using this
   rw[ar];simp[e]
 · simp[e]
theorem Jl(w:Nat->a5)(n:Nat)(hs:(!(List.range n).any (λi=>decide (0<i)&&eR (w i) (w (i-1))))=false):n5 w n=false:=by
 unfold n5
 rw[Bool.not_eq_false',List.any_eq_true] at hs⊢
 obtain⟨i,ag,aE⟩:=hs
 refine⟨i,ag,?_⟩
 rw[Jj (w (i-1)) (w i)]
 simp only[Bool.and_eq_true] at aE⊢
 rw[aE.2];exact⟨aE.1,rfl⟩
def wU(L vs:List I):Prop:=∀i (ag:i<L.length),∃s,∃hs:s<vs.length,L[i]=vs[s]
theorem wU.set{L vs:List I}(h:wU L vs)(k:Nat){s:Nat}(hs:s<vs.length):wU (L.set k vs[s]) vs:=by
 intro i ag
 rw[List.getElem_set]
 split
 · exact⟨s,hs,rfl⟩
 · exact h i (by simpa using ag)
theorem Jm{a:Bool}{n k:Nat}(h:a=decide (k=n)):cW (Int.ofNat k) (Int.ofNat n)=a:=by rw[Dz,h]
theorem Jn{E U:Nat}{h:ab}{v:I}{vs:List I}{a:Nat}(hu:Tryd.prog.underlying U=some (.slice E))(fb:ni Tryd.prog (some U)=true){i:TypeInfo}{z:I}(ag:Tryd.prog.info? E=some i)(bh:i.size=1)(l5:i.bytes<=1000)(aP:dt Tryd.prog E=some z)(hi:z.cells.length=1)(aD:fF h 1 v=some (vs.length,vs))(h0:0<vs.length)(ar:vs.length<=90000)(af:vs.all I.cw=true)(aw:h.get a=some (.cells [] E .own 0 0)):
  eh Tryd.prog h U (some U) (.slice a 0 0 (.exact 0)) v=some (.slice h.n 0 vs.length (.aS 1),h.push (.cells vs E .aS 0 0)):=by
 obtain⟨k,an⟩:∃k,vs.length=k+1:=⟨vs.length-1,by omega⟩
 have hmul:(4*(0+(k+1))+2048)*(i.bytes+1)<=(4*90000+2048)*1001:=Nat.mul_le_mul (by omega) (by omega)
 have ke:ji h E i.bytes 1 (0+(k+1)) z ([]++vs) 0=some (.slice h.n 0 (0+(k+1)) (.aS 1),h.push (.cells ([]++vs) E .aS 0 0)):=
  tG (by unfold jA;rw[Nat.ble_eq];omega) (by rw[hi];rfl) (by rw[List.nil_append];exact af)
 have mX:Nat.ble (0+(k+1)) 0=false:=by
  cases J:Nat.ble (0+(k+1)) 0 with
  |false=>rfl
  |true=>have:=Nat.le_of_ble_eq_true J;omega
 have ga:a8.loadCells h a 0 (0*1)=some []:=by simp only[a8.loadCells,aw];rfl
 rw[an] at aD
 simp only[eh,hu,fb,ag,aP,bh,aD,an,mX,ga,ke]
 rw[List.nil_append,Nat.zero_add]
theorem DB(m:Nat){B:Nat}{h:ab}{v:I}{vs:List I}(c3:B<=h.n)(aD:ep B h v vs)(hlen:vs.length<=90000)(af:vs.all I.cw=true):(v=.bd/\vs=[]/\Y (m+1) (.fn 17) [v] h=.ret .bd h)\/(0<vs.length/\∃b ao,Y (m+1) (.fn 17) [v] h=.ret (.slice b 0 vs.length (.aS 1)) ao/\B<=b/\b<ao.n/\gZ ao b 9 vs/\Ext B h ao):=by
 rcases aD with⟨rfl,rfl⟩|⟨b,off,cp,rfl,ae,ar,aL,ak⟩
 · exact .inl ⟨rfl,rfl,SK m h (R:=λx=>x=.ret .bd h) rfl⟩
 · right
   refine⟨aL,?_⟩
   obtain⟨H,cQ⟩:∃H,H=h.push (.cells [] 9 .own 0 0):=⟨_,rfl⟩
   have dU:Ext B h H:=by rw[cQ];exact Ext.push c3 _
   have n6:H.n=h.n+1:=by rw[cQ];rfl
   have fb:=ep.src (B:=B) (h:=H) (λi ag=>lr dU ae (ar i ag)) aL ak
   obtain⟨i,ag⟩:=Option.isSome_iff_exists.1 (show(Tryd.prog.info? 9).isSome=true by kernel_rfl)
   have bh:i.size=1:=by
    have:(Tryd.prog.info? 9).map (·.size)=some 1:=by kernel_rfl
    rw[ag] at this;simpa using this
   have l5:i.bytes<=1000:=by
    have:(Tryd.prog.info? 9).map (λi=>Nat.ble i.bytes 1000)=some true:=by kernel_rfl
    rw[ag] at this;exact Nat.le_of_ble_eq_true (by simpa using this)
   obtain⟨z,aP⟩:=Option.isSome_iff_exists.1 (show(dt Tryd.prog 9).isSome=true by kernel_rfl)
   have hi:z.cells.length=1:=by
    have:(dt Tryd.prog 9).map (λz=>z.cells.length)=some 1:=by kernel_rfl
    rw[aP] at this;simpa using this
   have ap:=Jn (U:=40) (E:=9) (a:=h.n) (by kernel_rfl) (by kernel_rfl) ag bh l5 aP hi fb aL hlen af (by rw[cQ];exact fI rfl)
   refine SJ m b off vs.length cp h (R:=λx=>∃b ao,x=.ret (.slice b 0 vs.length (.aS 1)) ao/\B<=b/\b<ao.n/\gZ ao b 9 vs/\Ext B h ao) ?_
   rw[<-cQ]
   exact⟨_,_,ap,_,_,rfl,by omega,by simp,fI rfl,dU.trans (Nat.le_refl _) (Ext.push (Nat.le_trans c3 dU.n) _)⟩
theorem Tb(m:Nat){B b K f:Nat}{h:ab}{vs:List I}(aG:List I)(q:Nat->Nat->Bool)(hlen:vs.length<=90000)(jy:B<=b)(cZ:1<=K)(Tc:K<vs.length)(gE:iv aG=true)(dY:∀i (ag:i<vs.length),I.sound vs[i]=true)(j_:∀i (ag:i<vs.length),∃z:List UInt8,vs[i]=(.str z))(hf:∀i j (ag:i<vs.length) (aF:j<vs.length) x,Ext B h x->cx x.n x (.bool (q i j)) (Y m (.fn f) (vs[i]::vs[j]::aG) x))
  {g:ab}(ae:b<g.n)(aQ:gZ g b 9 vs)(J:Ext B h g){Γ:Env}(cR:cd [(0,.slice b 0 vs.length (.aS 1)),(1,.fn f [] aG),(5,.int .i64 (Int.ofNat K)),(6,.slice b (0+K*1) (vs.length-K) (.aS 1)),(7,.int .i64 (Int.ofNat 1))] Γ):
  a4 Tryd.prog Tryd.f56 (Y m) [1,1,0,1,0,0,1,0,0,1,0,1,0,1,0] ⟨Γ,[],.none,g⟩ (λca ck=>∃(bR:Nat) (aA:ab) (b3:Env),ca=.exit 2/\ck=⟨b3,[],.none,aA⟩/\cd [(0,.slice b 0 vs.length (.aS 1)),(5,.int .i64 (Int.ofNat bR))] b3/\K<=bR/\bR<vs.length/\b<aA.n/\Ext B h aA/\∃L,gZ aA b 9 L/\L.length=vs.length):=by
 refine a4.loop (by kernel_rfl) (λt st=>∃j k L x Γ,st=⟨Γ,[],.none,x⟩/\cd [(0,.slice b 0 vs.length (.aS 1)),(1,.fn f [] aG),(5,.int .i64 (Int.ofNat k)),(6,.slice b (0+K*1) (vs.length-K) (.aS 1)),(7,.int .i64 (Int.ofNat j))] Γ/\(vs.length-K)-j=t/\1<=j/\j<=vs.length-K/\K<=k/\k+1<=K+j/\b<x.n/\gZ x b 9 L/\L.length=vs.length/\wU L vs/\Ext B h x) ?_ (vs.length-K-1) _ (by omega) ⟨1,K,vs,g,Γ,rfl,cR,by omega,by omega,by omega,by omega,by omega,ae,aQ,rfl,λi ag=>⟨i,ag,rfl⟩,J⟩
 rintro t st ⟨j,k,L,x,Γ,rfl,cR,bm,aF,A6,an,B0,qB,o6,fS,lG,jw⟩
 refine a4.pre (SI (Y m) b _ k f (0+K*1) _ j aG x ⟨λaa=>?_,λaa=>?_⟩) cR rfl rfl rfl
 · have ai:=jw.ma (k:=12)
   have ko:gZ (x.room 12) b 9 L:=o6
   have i1:K+j<L.length:=by omega
   have i2:K+j-1<L.length:=by omega
   obtain⟨s,hs,es⟩:=lG (K+j) i1
   obtain⟨a6,c_,pR⟩:=lG (K+j-1) i2
   obtain⟨al,aT,bM⟩:=hf s a6 hs c_ _ ai
   have dP:=ai.trans (Nat.le_refl _) (bM.le (show B<=(x.room 12).n by simp;omega))
   have m6:b<(x.room 12).n:=by simp;omega
   have lH:gZ al b 9 L:=(bM.get b m6).trans ko
   have o7:b<al.n:=Nat.lt_of_lt_of_le m6 bM.n
   obtain⟨z,aP⟩:=j_ s hs
   refine⟨aa,_,(ko.mm i1 (by omega)).trans (by rw[es]),⟨by omega,by omega⟩,by omega,_,(ko.mm i2 (by omega)).trans (by rw[pR]),_,al,aT,kX gE,dY s hs,dY a6 c_,λaf=>?_,λaf=>?_⟩
   · exact⟨by omega,_,(by show _<t;omega),j+1,k,L,al,_,rfl,⟨rfl,rfl,rfl,rfl,rfl,trivial⟩,rfl,by omega,by omega,by omega,by omega,o7,lH,fS,lG,dP⟩
   · have bY:a8.storeCells al b (0+k*1) [(.str z)]=some (al.set b (some (.cells (L.set k (.str z)) 9 .aS 0 0))):=
       gn lH (zd _ _) (by rw[show 0+k*1=k by omega];exact wS _ rfl L k (by omega))
     refine⟨aa,z,(lH.mm i1 (by omega)).trans (by rw[es,aP]),by omega,_,bY,by omega,by omega,_,(by show _<t;omega),j+1,k+1,L.set k (.str z),_,_,rfl,⟨rfl,rfl,rfl,rfl,rfl,trivial⟩,rfl,by omega,by omega,by omega,by omega,by simp;omega,ft rfl,by simpa using fS,?_,Ext.hG jy dP⟩
     rw[<-aP]
     exact lG.set k hs
 · exact⟨k,x,_,rfl,rfl,⟨rfl,rfl,trivial⟩,an,by omega,qB,jw,L,o6,fS⟩
theorem Td(m:Nat){B b f:Nat}{h:ab}{vs:List I}(aG:List I)(q:Nat->Nat->Bool)(hlen:vs.length<=90000)(jy:B<=b)(gE:iv aG=true)(dY:∀i (ag:i<vs.length),I.sound vs[i]=true)(j_:∀i (ag:i<vs.length),∃z:List UInt8,vs[i]=(.str z))(hf:∀i j (ag:i<vs.length) (aF:j<vs.length) x,Ext B h x->cx x.n x (.bool (q i j)) (Y m (.fn f) (vs[i]::vs[j]::aG) x))
  (ae:b<h.n)(aQ:gZ h b 9 vs):
  ∃w g k,Y (m+1) (.fn 56) [.slice b 0 vs.length (.aS 1),.fn f [] aG] h=.ret w g/\cr Tryd.prog g 40 w=some (.int .i64 (Int.ofNat k))/\(!(List.range vs.length).any (λi=>decide (0<i)&&q i (i-1)))=decide (k=vs.length)/\Ext B h g:=by
 refine Jb m (.slice b 0 vs.length (.aS 1)) f aG h (R:=λx=>∃w g k,x=.ret w g/\cr Tryd.prog g 40 w=some (.int .i64 (Int.ofNat k))/\(!(List.range vs.length).any (λi=>decide (0<i)&&q i (i-1)))=decide (k=vs.length)/\Ext B h g) ⟨vs.length,by rfl,λad=>?_,λad=>?_⟩
 · refine⟨_,h,vs.length,rfl,by rfl,?_,Ext.refl _ _⟩
   rw[qz (λj aF=>by simp[show¬0<j by omega])];simp
 · replace ad:=Jf ad
   refine a4.loop (by kernel_rfl) (λt st=>∃k x Γ,st=⟨Γ,[],.none,x⟩/\cd [(0,.slice b 0 vs.length (.aS 1)),(1,.fn f [] aG),(5,.int .i64 (Int.ofNat k))] Γ/\vs.length-k=t/\1<=k/\k<=vs.length/\b<x.n/\gZ x b 9 vs/\Ext B h x/\∀j,0<j->j<k->q j (j-1)=false) ?_ (vs.length-1) _ (by omega) ⟨1,h,_,rfl,⟨rfl,rfl,rfl,trivial⟩,by omega,by omega,by omega,ae,aQ,Ext.refl _ _,λj aF nE=>by omega⟩
   rintro t st ⟨k,x,Γ,rfl,cR,bm,an,r8,qB,o6,jw,aE⟩
   refine a4.pre (SH (Y m) b _ k f aG x ⟨λaa=>?_,λaa=>?_⟩) cR rfl rfl rfl
   · have ai:=jw.ma (k:=11)
     have ko:gZ (x.room 11) b 9 vs:=o6
     obtain⟨al,aT,bM⟩:=hf k (k-1) aa (by omega) _ ai
     have dP:=ai.trans (Nat.le_refl _) (bM.le (show B<=(x.room 11).n by simp;omega))
     have m6:b<(x.room 11).n:=by simp;omega
     have lH:gZ al b 9 vs:=(bM.get b m6).trans ko
     have o7:b<al.n:=Nat.lt_of_lt_of_le m6 bM.n
     refine⟨aa,_,ko.mm aa (by omega),⟨by omega,by omega⟩,by omega,_,ko.mm (by omega) (by omega),_,al,aT,kX gE,dY k aa,dY (k-1) (by omega),λaf=>?_,λaf=>?_⟩
     · have s2:ec Tryd.prog al 40 (.slice b 0 vs.length (.aS 1)) (some (.int .i64 (Int.ofNat k))) none none=some (.slice b (0+k*1) (vs.length-k) (.aS 1)):=wT (E:=9) (by kernel_rfl) (by kernel_rfl) (by omega) aa
       refine⟨_,_,_,_,s2,?_⟩
       refine a4.mono (Tb m aG q hlen jy an aa gE dY j_ hf o7 lH dP ⟨rfl,rfl,rfl,rfl,rfl,trivial⟩) ?_
       rintro ca ck ⟨bR,aA,b3,rfl,rfl,wV,vE,DC,e9,o0,L,fS,DD⟩
       refine⟨_,_,_,_,bR,aA,b3,rfl,rfl,wV,_,_,_,_,wT (E:=9) (by kernel_rfl) (by kernel_rfl) (by omega) DC,?_⟩
       obtain⟨z,aP⟩:=Option.isSome_iff_exists.1 (show(dt Tryd.prog 9).isSome=true by kernel_rfl)
       have hi:z.cells.length=1/\z.cells.all I.cw=true:=by
        have aa:(dt Tryd.prog 9).map (λz=>z.cells.length)=some 1:=by kernel_rfl
        have ad:(dt Tryd.prog 9).map (λz=>z.cells.all I.cw)=some true:=by kernel_rfl
        rw[aP] at aa ad;exact⟨by simpa using aa,by simpa using ad⟩
       have si:∀n,(ew n z.cells).length=n/\(ew n z.cells).all I.cw=true:=by
        intro n
        induction n with
        |zero=>exact⟨rfl,rfl⟩
        |succ n a3=>simp only[ew,List.length_append,List.all_append,a3.1,a3.2,hi.1,hi.2];exact⟨by omega,rfl⟩
       obtain⟨qA,eH,fB⟩:=Jd (ew (vs.length-bR) z.cells) (si _).2 L (0+bR*1) (by rw[(si _).1,DD];omega)
       have bY:a8.storeCells aA b (0+bR*1) (ew (vs.length-bR) z.cells)=some (aA.set b (some (.cells qA 9 .aS 0 0))):=gn fS (zd _ _) eH
       have gR:nj Tryd.prog aA 40 (.slice b (0+bR*1) (vs.length-bR) (.aS 1))=some (.aJ [],aA.set b (some (.cells qA 9 .aS 0 0))):=by
        have hu:Tryd.prog.underlying 40=some (.slice 9):=by kernel_rfl
        simp only[nj,hu,aP,bY]
        rw[if_neg (by omega)]
       refine⟨_,gR,_,zG (E:=9) (by kernel_rfl) (by kernel_rfl) (by omega),.inr ⟨_,_,_,rfl,rfl,⟨rfl,trivial⟩,_,_,bR,rfl,by rfl,?_,Ext.hG jy o0⟩⟩
       rw[uh aa (by rw[af];simp;omega)]
       simp;omega
     · exact⟨by omega,_,(by show _<t;omega),k+1,al,_,rfl,⟨rfl,rfl,rfl,trivial⟩,rfl,by omega,by omega,o7,lH,dP,λj aF nE=>by
        by_cases e:j=k
        · rw[e];exact af
        · exact aE j aF (by omega)⟩
   · refine .inl ⟨_,x,_,rfl,rfl,⟨rfl,trivial⟩,_,_,vs.length,rfl,by rfl,?_,jw⟩
     rw[qz (λj aF=>?_)]
     · simp
     · by_cases e:0<j
       · rw[aE j e (by omega),Bool.and_false]
       · simp[e]
theorem Te(m:Nat){B:Nat}{h:ab}{v:I}{vs:List I}(f:Nat)(aG:List I)(w:Nat->a5)(c3:B<=h.n)(aD:ep B h v vs)(hlen:vs.length<=90000)(gE:iv aG=true)(dY:∀i (ag:i<vs.length),I.sound vs[i]=true)(j_:∀i (ag:i<vs.length),∃z:List UInt8,vs[i]=(.str z))(lG:∀i (ag:i<vs.length) x,Ext B h x->cx x.n x (.str (w i)) (Y m (.fn f) (vs[i]::aG) x)):
  cx B h (.bool (n5 w vs.length)) (Y (m+3) (.fn 41) [v,.fn f [] aG] h):=by
 refine SL (m+2) v f aG h ?_
 obtain⟨H,cQ⟩:∃H,H=h.push (.cells [.fn f [] aG] 91 .own 0 0):=⟨_,rfl⟩
 rw[<-cQ]
 have dU:Ext B h H:=by rw[cQ];exact Ext.push c3 _
 have n6:H.n=h.n+1:=by rw[cQ];rfl
 have sj:B<=H.n:=Nat.le_trans c3 dU.n
 have oB:H.get h.n=some (.cells [.fn f [] aG] 91 .own 0 0):=by rw[cQ];exact fI rfl
 have jU:∀i (ag:i<vs.length) x,Ext H.n H x->∃g,Y m (.fn f) (vs[i]::aG) x=.ret (.str (w i)) g/\Ext x.n x g:=λi ag x J=>lG i ag x (dU.trans sj J)
 have o8:ep H.n H v vs:=(aD.cL (hX.ext dU (Nat.le_refl _))).le (Nat.le_trans c3 dU.n)
 have eK:∀x,Ext H.n H x->aB x h.n 0=some (.fn f [] aG):=λx J=>a_ ((J.get h.n (by omega)).trans oB) rfl
 obtain⟨g,aT,bM⟩:=S_ (m+1) (B:=H.n) (h:=H) (v:=v) (vs:=vs) 55 [.ptr h.n 0] (λi j=>eR (w i) (w j)) o8 hlen rfl dY (λi j ag aF x J=>by
  have ai:Ext H.n H (x.room 7):=J.ma
  obtain⟨al,aT,bM⟩:=jU i ag _ ai
  have gK:Ext H.n H al:=ai.trans ai.n bM
  obtain⟨aA,bp,cU⟩:=jU j aF _ gK
  refine SF m vs[i] vs[j] h.n f aG x ⟨eK _ ai,_,al,aT,eK _ gK,_,aA,bp,kX gE,dY i ag,kX gE,eK _ ai,dY j aF,λaf=>?_,λaf=>?_⟩
  · exact cx.of (by rw[af];rfl) ((gK.trans gK.n cU).le (Nat.le_refl _)|> λe=>by have da:Ext H.n x aA:=⟨by have a:=bM.n;have b:=cU.n;simp at a;omega,λb ae=>by rw[(gK.trans gK.n cU).get b ae,J.get b ae]⟩;exact da)
  · exact cx.of (by rw[af];rfl) ((gK.trans gK.n cU).le (Nat.le_refl _)|> λe=>by have da:Ext H.n x aA:=⟨by have a:=bM.n;have b:=cU.n;simp at a;omega,λb ae=>by rw[(gK.trans gK.n cU).get b ae,J.get b ae]⟩;exact da))
 have m5:Ext B h g:=dU.trans sj bM
 refine⟨rfl,_,g,aT,λhs=>?_,λhs=>?_⟩
 · have jj:vs.all I.cw=true:=by
     rw[List.all_eq_true]
     intro x J
     obtain⟨i,ag,rfl⟩:=List.getElem_of_mem J
     obtain⟨z,aP⟩:=j_ i ag
     rw[aP];rfl
   have DE:ep H.n g v vs:=o8.cL (hX.ext bM (Nat.le_refl _))
   have fin:∀v2 aA b,Y (m+2) (.fn 17) [v] g=.ret v2 aA->v2=.slice b 0 vs.length (.aS 1)->H.n<=b->b<aA.n->gZ aA b 9 vs->Ext H.n g aA->∃(v2:I) (aA:ab),Y (m+2) (.fn 17) [v] g=.ret v2 aA/\∃(w':I) (aU:ab),Y (m+2) (.fn 56) [v2,.fn 57 [] [.ptr h.n 0]] aA=.ret w' aU/\∃(k:Nat),cr Tryd.prog aU 40 w'=some (.int .i64 (Int.ofNat k))/\∃(n:Nat),cr Tryd.prog aU 40 v=some (.int .i64 (Int.ofNat n))/\cx B h (.bool (n5 w vs.length)) (.ret (.bool (cW (Int.ofNat k) (Int.ofNat n))) aU):=by
    intro v2 aA b bp av ae e9 aQ cU
    subst av
    have qC:Ext H.n H aA:=bM.trans (Nat.le_refl _) cU
    obtain⟨w',aU,k,ef,eW,bq,gY⟩:=Td (m+1) (B:=H.n) (h:=aA) (vs:=vs) (f:=57) [.ptr h.n 0] (λi j=>dv (w i) (w j)) hlen ae rfl dY j_ (λi j ag aF x J=>by
     have jw:Ext H.n H x:=qC.trans (Nat.le_refl _) J
     have ai:Ext H.n H (x.room 8):=jw.ma
     obtain⟨al,aT,hV⟩:=jU i ag _ ai
     have gK:Ext H.n H al:=ai.trans ai.n hV
     obtain⟨aA,bp,iX⟩:=jU j aF _ gK
     refine SG m vs[i] vs[j] h.n f aG x ⟨eK _ ai,_,al,aT,eK _ gK,_,aA,bp,kX gE,dY i ag,kX gE,eK _ ai,dY j aF,cx.of rfl ?_⟩
     refine⟨by have a:=hV.n;have b:=iX.n;simp at a;omega,λb ae=>?_⟩
     have a:=hV.n
     simp at a
     rw[iX.get b (by omega),hV.get b (by simp;omega)];rfl) e9 aQ
    have wW:Ext H.n H aU:=qC.trans (Nat.le_refl _) gY
    have DF:ep H.n aU v vs:=o8.cL (hX.ext wW (Nat.le_refl _))
    refine⟨_,aA,bp,w',aU,ef,k,eW,vs.length,DF.len (t:=40) (e:=9) (by kernel_rfl),cx.of (g9 ?_) (dU.trans sj wW)⟩
    rw[Jm bq]
    exact Jk w vs.length hs
   rcases DB (m+1) (B:=H.n) (h:=g) bM.n DE hlen jj with⟨rfl,rfl,bp⟩|⟨aL,b,aA,bp,ae,e9,aQ,cU⟩
   · refine⟨.bd,g,bp,.bd,g,?_,0,by rfl,0,by rfl,cx.of (g9 rfl) m5⟩
     exact Jb (m+1) .bd _ _ g (R:=λx=>x=.ret .bd g) ⟨0,by rfl,λ_=>rfl,λaH=>absurd (by omega) aH⟩
   · exact fin _ aA b bp rfl ae e9 aQ cU
 · refine cx.of (g9 ?_) m5
   exact Jl w vs.length hs
theorem Tf(m:Nat){B:Nat}{h:ab}{v:I}{vs:List I}(c3:B<=h.n)(aD:ep B h v vs)(hlen:vs.length<=90000)(af:vs.all I.cw=true):(v=.bd/\vs=[]/\Y (m+1) (.fn 61) [v] h=.ret .bd h)\/(0<vs.length/\∃b ao,Y (m+1) (.fn 61) [v] h=.ret (.slice b 0 vs.length (.aS 1)) ao/\B<=b/\b<ao.n/\gZ ao b 33 vs/\Ext B h ao):=by
 rcases aD with⟨rfl,rfl⟩|⟨b,off,cp,rfl,ae,ar,aL,ak⟩
 · exact .inl ⟨rfl,rfl,S0 m h (R:=λx=>x=.ret .bd h) rfl⟩
 · right
   refine⟨aL,?_⟩
   obtain⟨H,cQ⟩:∃H,H=h.push (.cells [] 33 .own 0 0):=⟨_,rfl⟩
   have dU:Ext B h H:=by rw[cQ];exact Ext.push c3 _
   have n6:H.n=h.n+1:=by rw[cQ];rfl
   have fb:=ep.src (B:=B) (h:=H) (λi ag=>lr dU ae (ar i ag)) aL ak
   obtain⟨i,ag⟩:=Option.isSome_iff_exists.1 (show(Tryd.prog.info? 33).isSome=true by kernel_rfl)
   have bh:i.size=1:=by
    have:(Tryd.prog.info? 33).map (·.size)=some 1:=by kernel_rfl
    rw[ag] at this;simpa using this
   have l5:i.bytes<=1000:=by
    have:(Tryd.prog.info? 33).map (λi=>Nat.ble i.bytes 1000)=some true:=by kernel_rfl
    rw[ag] at this;exact Nat.le_of_ble_eq_true (by simpa using this)
   obtain⟨z,aP⟩:=Option.isSome_iff_exists.1 (show(dt Tryd.prog 33).isSome=true by kernel_rfl)
   have hi:z.cells.length=1:=by
    have:(dt Tryd.prog 33).map (λz=>z.cells.length)=some 1:=by kernel_rfl
    rw[aP] at this;simpa using this
   have ap:=Jn (U:=41) (E:=33) (a:=h.n) (by kernel_rfl) (by kernel_rfl) ag bh l5 aP hi fb aL hlen af (by rw[cQ];exact fI rfl)
   refine SZ m b off vs.length cp h (R:=λx=>∃b ao,x=.ret (.slice b 0 vs.length (.aS 1)) ao/\B<=b/\b<ao.n/\gZ ao b 33 vs/\Ext B h ao) ?_
   rw[<-cQ]
   exact⟨_,_,ap,_,_,rfl,by omega,by simp,fI rfl,dU.trans (Nat.le_refl _) (Ext.push (Nat.le_trans c3 dU.n) _)⟩
theorem Tg(m:Nat){B b K f:Nat}{h:ab}{vs:List I}(aG:List I)(q:Nat->Nat->Bool)(hlen:vs.length<=90000)(jy:B<=b)(cZ:1<=K)(Tc:K<vs.length)(gE:iv aG=true)(dY:∀i (ag:i<vs.length),I.sound vs[i]=true)(j_:∀i (ag:i<vs.length),∃z:Nat,vs[i]=(.ptr z 0))(hf:∀i j (ag:i<vs.length) (aF:j<vs.length) x,Ext B h x->cx x.n x (.bool (q i j)) (Y m (.fn f) (vs[i]::vs[j]::aG) x))
  {g:ab}(ae:b<g.n)(aQ:gZ g b 33 vs)(J:Ext B h g){Γ:Env}(cR:cd [(0,.slice b 0 vs.length (.aS 1)),(1,.fn f [] aG),(5,.int .i64 (Int.ofNat K)),(6,.slice b (0+K*1) (vs.length-K) (.aS 1)),(7,.int .i64 (Int.ofNat 1))] Γ):
  a4 Tryd.prog Tryd.f60 (Y m) [1,1,0,1,0,0,1,0,0,1,0,1,0,1,0] ⟨Γ,[],.none,g⟩ (λca ck=>∃(bR:Nat) (aA:ab) (b3:Env),ca=.exit 2/\ck=⟨b3,[],.none,aA⟩/\cd [(0,.slice b 0 vs.length (.aS 1)),(5,.int .i64 (Int.ofNat bR))] b3/\K<=bR/\bR<vs.length/\b<aA.n/\Ext B h aA/\∃L,gZ aA b 33 L/\L.length=vs.length):=by
 refine a4.loop (by kernel_rfl) (λt st=>∃j k L x Γ,st=⟨Γ,[],.none,x⟩/\cd [(0,.slice b 0 vs.length (.aS 1)),(1,.fn f [] aG),(5,.int .i64 (Int.ofNat k)),(6,.slice b (0+K*1) (vs.length-K) (.aS 1)),(7,.int .i64 (Int.ofNat j))] Γ/\(vs.length-K)-j=t/\1<=j/\j<=vs.length-K/\K<=k/\k+1<=K+j/\b<x.n/\gZ x b 33 L/\L.length=vs.length/\wU L vs/\Ext B h x) ?_ (vs.length-K-1) _ (by omega) ⟨1,K,vs,g,Γ,rfl,cR,by omega,by omega,by omega,by omega,by omega,ae,aQ,rfl,λi ag=>⟨i,ag,rfl⟩,J⟩
 rintro t st ⟨j,k,L,x,Γ,rfl,cR,bm,aF,A6,an,B0,qB,o6,fS,lG,jw⟩
 refine a4.pre (SY (Y m) b _ k f (0+K*1) _ j aG x ⟨λaa=>?_,λaa=>?_⟩) cR rfl rfl rfl
 · have ai:=jw.ma (k:=12)
   have ko:gZ (x.room 12) b 33 L:=o6
   have i1:K+j<L.length:=by omega
   have i2:K+j-1<L.length:=by omega
   obtain⟨s,hs,es⟩:=lG (K+j) i1
   obtain⟨a6,c_,pR⟩:=lG (K+j-1) i2
   obtain⟨al,aT,bM⟩:=hf s a6 hs c_ _ ai
   have dP:=ai.trans (Nat.le_refl _) (bM.le (show B<=(x.room 12).n by simp;omega))
   have m6:b<(x.room 12).n:=by simp;omega
   have lH:gZ al b 33 L:=(bM.get b m6).trans ko
   have o7:b<al.n:=Nat.lt_of_lt_of_le m6 bM.n
   obtain⟨z,aP⟩:=j_ s hs
   refine⟨aa,_,(ko.mm i1 (by omega)).trans (by rw[es]),⟨by omega,by omega⟩,by omega,_,(ko.mm i2 (by omega)).trans (by rw[pR]),_,al,aT,kX gE,dY s hs,dY a6 c_,λaf=>?_,λaf=>?_⟩
   · exact⟨by omega,_,(by show _<t;omega),j+1,k,L,al,_,rfl,⟨rfl,rfl,rfl,rfl,rfl,trivial⟩,rfl,by omega,by omega,by omega,by omega,o7,lH,fS,lG,dP⟩
   · have bY:a8.storeCells al b (0+k*1) [(.ptr z 0)]=some (al.set b (some (.cells (L.set k (.ptr z 0)) 33 .aS 0 0))):=
       gn lH (zd _ _) (by rw[show 0+k*1=k by omega];exact wS _ rfl L k (by omega))
     refine⟨aa,z,(lH.mm i1 (by omega)).trans (by rw[es,aP]),by omega,_,bY,by omega,by omega,_,(by show _<t;omega),j+1,k+1,L.set k (.ptr z 0),_,_,rfl,⟨rfl,rfl,rfl,rfl,rfl,trivial⟩,rfl,by omega,by omega,by omega,by omega,by simp;omega,ft rfl,by simpa using fS,?_,Ext.hG jy dP⟩
     rw[<-aP]
     exact lG.set k hs
 · exact⟨k,x,_,rfl,rfl,⟨rfl,rfl,trivial⟩,an,by omega,qB,jw,L,o6,fS⟩
theorem Th(m:Nat){B b f:Nat}{h:ab}{vs:List I}(aG:List I)(q:Nat->Nat->Bool)(hlen:vs.length<=90000)(jy:B<=b)(gE:iv aG=true)(dY:∀i (ag:i<vs.length),I.sound vs[i]=true)(j_:∀i (ag:i<vs.length),∃z:Nat,vs[i]=(.ptr z 0))(hf:∀i j (ag:i<vs.length) (aF:j<vs.length) x,Ext B h x->cx x.n x (.bool (q i j)) (Y m (.fn f) (vs[i]::vs[j]::aG) x))
  (ae:b<h.n)(aQ:gZ h b 33 vs):
  ∃w g k,Y (m+1) (.fn 60) [.slice b 0 vs.length (.aS 1),.fn f [] aG] h=.ret w g/\cr Tryd.prog g 41 w=some (.int .i64 (Int.ofNat k))/\(!(List.range vs.length).any (λi=>decide (0<i)&&q i (i-1)))=decide (k=vs.length)/\Ext B h g:=by
 refine Jc m (.slice b 0 vs.length (.aS 1)) f aG h (R:=λx=>∃w g k,x=.ret w g/\cr Tryd.prog g 41 w=some (.int .i64 (Int.ofNat k))/\(!(List.range vs.length).any (λi=>decide (0<i)&&q i (i-1)))=decide (k=vs.length)/\Ext B h g) ⟨vs.length,by rfl,λad=>?_,λad=>?_⟩
 · refine⟨_,h,vs.length,rfl,by rfl,?_,Ext.refl _ _⟩
   rw[qz (λj aF=>by simp[show¬0<j by omega])];simp
 · replace ad:=Jf ad
   refine a4.loop (by kernel_rfl) (λt st=>∃k x Γ,st=⟨Γ,[],.none,x⟩/\cd [(0,.slice b 0 vs.length (.aS 1)),(1,.fn f [] aG),(5,.int .i64 (Int.ofNat k))] Γ/\vs.length-k=t/\1<=k/\k<=vs.length/\b<x.n/\gZ x b 33 vs/\Ext B h x/\∀j,0<j->j<k->q j (j-1)=false) ?_ (vs.length-1) _ (by omega) ⟨1,h,_,rfl,⟨rfl,rfl,rfl,trivial⟩,by omega,by omega,by omega,ae,aQ,Ext.refl _ _,λj aF nE=>by omega⟩
   rintro t st ⟨k,x,Γ,rfl,cR,bm,an,r8,qB,o6,jw,aE⟩
   refine a4.pre (SX (Y m) b _ k f aG x ⟨λaa=>?_,λaa=>?_⟩) cR rfl rfl rfl
   · have ai:=jw.ma (k:=11)
     have ko:gZ (x.room 11) b 33 vs:=o6
     obtain⟨al,aT,bM⟩:=hf k (k-1) aa (by omega) _ ai
     have dP:=ai.trans (Nat.le_refl _) (bM.le (show B<=(x.room 11).n by simp;omega))
     have m6:b<(x.room 11).n:=by simp;omega
     have lH:gZ al b 33 vs:=(bM.get b m6).trans ko
     have o7:b<al.n:=Nat.lt_of_lt_of_le m6 bM.n
     refine⟨aa,_,ko.mm aa (by omega),⟨by omega,by omega⟩,by omega,_,ko.mm (by omega) (by omega),_,al,aT,kX gE,dY k aa,dY (k-1) (by omega),λaf=>?_,λaf=>?_⟩
     · have s2:ec Tryd.prog al 41 (.slice b 0 vs.length (.aS 1)) (some (.int .i64 (Int.ofNat k))) none none=some (.slice b (0+k*1) (vs.length-k) (.aS 1)):=wT (E:=33) (by kernel_rfl) (by kernel_rfl) (by omega) aa
       refine⟨_,_,_,_,s2,?_⟩
       refine a4.mono (Tg m aG q hlen jy an aa gE dY j_ hf o7 lH dP ⟨rfl,rfl,rfl,rfl,rfl,trivial⟩) ?_
       rintro ca ck ⟨bR,aA,b3,rfl,rfl,wV,vE,DC,e9,o0,L,fS,DD⟩
       refine⟨_,_,_,_,bR,aA,b3,rfl,rfl,wV,_,_,_,_,wT (E:=33) (by kernel_rfl) (by kernel_rfl) (by omega) DC,?_⟩
       obtain⟨z,aP⟩:=Option.isSome_iff_exists.1 (show(dt Tryd.prog 33).isSome=true by kernel_rfl)
       have hi:z.cells.length=1/\z.cells.all I.cw=true:=by
        have aa:(dt Tryd.prog 33).map (λz=>z.cells.length)=some 1:=by kernel_rfl
        have ad:(dt Tryd.prog 33).map (λz=>z.cells.all I.cw)=some true:=by kernel_rfl
        rw[aP] at aa ad;exact⟨by simpa using aa,by simpa using ad⟩
       have si:∀n,(ew n z.cells).length=n/\(ew n z.cells).all I.cw=true:=by
        intro n
        induction n with
        |zero=>exact⟨rfl,rfl⟩
        |succ n a3=>simp only[ew,List.length_append,List.all_append,a3.1,a3.2,hi.1,hi.2];exact⟨by omega,rfl⟩
       obtain⟨qA,eH,fB⟩:=Jd (ew (vs.length-bR) z.cells) (si _).2 L (0+bR*1) (by rw[(si _).1,DD];omega)
       have bY:a8.storeCells aA b (0+bR*1) (ew (vs.length-bR) z.cells)=some (aA.set b (some (.cells qA 33 .aS 0 0))):=gn fS (zd _ _) eH
       have gR:nj Tryd.prog aA 41 (.slice b (0+bR*1) (vs.length-bR) (.aS 1))=some (.aJ [],aA.set b (some (.cells qA 33 .aS 0 0))):=by
        have hu:Tryd.prog.underlying 41=some (.slice 33):=by kernel_rfl
        simp only[nj,hu,aP,bY]
        rw[if_neg (by omega)]
       refine⟨_,gR,_,zG (E:=33) (by kernel_rfl) (by kernel_rfl) (by omega),.inr ⟨_,_,_,rfl,rfl,⟨rfl,trivial⟩,_,_,bR,rfl,by rfl,?_,Ext.hG jy o0⟩⟩
       rw[uh aa (by rw[af];simp;omega)]
       simp;omega
     · exact⟨by omega,_,(by show _<t;omega),k+1,al,_,rfl,⟨rfl,rfl,rfl,trivial⟩,rfl,by omega,by omega,o7,lH,dP,λj aF nE=>by
        by_cases e:j=k
        · rw[e];exact af
        · exact aE j aF (by omega)⟩
   · refine .inl ⟨_,x,_,rfl,rfl,⟨rfl,trivial⟩,_,_,vs.length,rfl,by rfl,?_,jw⟩
     rw[qz (λj aF=>?_)]
     · simp
     · by_cases e:0<j
       · rw[aE j e (by omega),Bool.and_false]
       · simp[e]
theorem Ti(m:Nat){B:Nat}{h:ab}{v:I}{vs:List I}(f:Nat)(aG:List I)(w:Nat->a5)(c3:B<=h.n)(aD:ep B h v vs)(hlen:vs.length<=90000)(gE:iv aG=true)(dY:∀i (ag:i<vs.length),I.sound vs[i]=true)(j_:∀i (ag:i<vs.length),∃z:Nat,vs[i]=(.ptr z 0))(lG:∀i (ag:i<vs.length) x,Ext B h x->cx x.n x (.str (w i)) (Y m (.fn f) (vs[i]::aG) x)):
  cx B h (.bool (n5 w vs.length)) (Y (m+3) (.fn 44) [v,.fn f [] aG] h):=by
 refine S1 (m+2) v f aG h ?_
 obtain⟨H,cQ⟩:∃H,H=h.push (.cells [.fn f [] aG] 93 .own 0 0):=⟨_,rfl⟩
 rw[<-cQ]
 have dU:Ext B h H:=by rw[cQ];exact Ext.push c3 _
 have n6:H.n=h.n+1:=by rw[cQ];rfl
 have sj:B<=H.n:=Nat.le_trans c3 dU.n
 have oB:H.get h.n=some (.cells [.fn f [] aG] 93 .own 0 0):=by rw[cQ];exact fI rfl
 have jU:∀i (ag:i<vs.length) x,Ext H.n H x->∃g,Y m (.fn f) (vs[i]::aG) x=.ret (.str (w i)) g/\Ext x.n x g:=λi ag x J=>lG i ag x (dU.trans sj J)
 have o8:ep H.n H v vs:=(aD.cL (hX.ext dU (Nat.le_refl _))).le (Nat.le_trans c3 dU.n)
 have eK:∀x,Ext H.n H x->aB x h.n 0=some (.fn f [] aG):=λx J=>a_ ((J.get h.n (by omega)).trans oB) rfl
 obtain⟨g,aT,bM⟩:=Ta (m+1) (B:=H.n) (h:=H) (v:=v) (vs:=vs) 59 [.ptr h.n 0] (λi j=>eR (w i) (w j)) o8 hlen rfl dY (λi j ag aF x J=>by
  have ai:Ext H.n H (x.room 7):=J.ma
  obtain⟨al,aT,bM⟩:=jU i ag _ ai
  have gK:Ext H.n H al:=ai.trans ai.n bM
  obtain⟨aA,bp,cU⟩:=jU j aF _ gK
  refine SV m vs[i] vs[j] h.n f aG x ⟨eK _ ai,_,al,aT,eK _ gK,_,aA,bp,kX gE,dY i ag,kX gE,eK _ ai,dY j aF,λaf=>?_,λaf=>?_⟩
  · exact cx.of (by rw[af];rfl) ((gK.trans gK.n cU).le (Nat.le_refl _)|> λe=>by have da:Ext H.n x aA:=⟨by have a:=bM.n;have b:=cU.n;simp at a;omega,λb ae=>by rw[(gK.trans gK.n cU).get b ae,J.get b ae]⟩;exact da)
  · exact cx.of (by rw[af];rfl) ((gK.trans gK.n cU).le (Nat.le_refl _)|> λe=>by have da:Ext H.n x aA:=⟨by have a:=bM.n;have b:=cU.n;simp at a;omega,λb ae=>by rw[(gK.trans gK.n cU).get b ae,J.get b ae]⟩;exact da))
 have m5:Ext B h g:=dU.trans sj bM
 refine⟨rfl,_,g,aT,λhs=>?_,λhs=>?_⟩
 · have jj:vs.all I.cw=true:=by
     rw[List.all_eq_true]
     intro x J
     obtain⟨i,ag,rfl⟩:=List.getElem_of_mem J
     obtain⟨z,aP⟩:=j_ i ag
     rw[aP];rfl
   have DE:ep H.n g v vs:=o8.cL (hX.ext bM (Nat.le_refl _))
   have fin:∀v2 aA b,Y (m+2) (.fn 61) [v] g=.ret v2 aA->v2=.slice b 0 vs.length (.aS 1)->H.n<=b->b<aA.n->gZ aA b 33 vs->Ext H.n g aA->∃(v2:I) (aA:ab),Y (m+2) (.fn 61) [v] g=.ret v2 aA/\∃(w':I) (aU:ab),Y (m+2) (.fn 60) [v2,.fn 62 [] [.ptr h.n 0]] aA=.ret w' aU/\∃(k:Nat),cr Tryd.prog aU 41 w'=some (.int .i64 (Int.ofNat k))/\∃(n:Nat),cr Tryd.prog aU 41 v=some (.int .i64 (Int.ofNat n))/\cx B h (.bool (n5 w vs.length)) (.ret (.bool (cW (Int.ofNat k) (Int.ofNat n))) aU):=by
    intro v2 aA b bp av ae e9 aQ cU
    subst av
    have qC:Ext H.n H aA:=bM.trans (Nat.le_refl _) cU
    obtain⟨w',aU,k,ef,eW,bq,gY⟩:=Th (m+1) (B:=H.n) (h:=aA) (vs:=vs) (f:=62) [.ptr h.n 0] (λi j=>dv (w i) (w j)) hlen ae rfl dY j_ (λi j ag aF x J=>by
     have jw:Ext H.n H x:=qC.trans (Nat.le_refl _) J
     have ai:Ext H.n H (x.room 8):=jw.ma
     obtain⟨al,aT,hV⟩:=jU i ag _ ai
     have gK:Ext H.n H al:=ai.trans ai.n hV
     obtain⟨aA,bp,iX⟩:=jU j aF _ gK
     refine SW m vs[i] vs[j] h.n f aG x ⟨eK _ ai,_,al,aT,eK _ gK,_,aA,bp,kX gE,dY i ag,kX gE,eK _ ai,dY j aF,cx.of rfl ?_⟩
     refine⟨by have a:=hV.n;have b:=iX.n;simp at a;omega,λb ae=>?_⟩
     have a:=hV.n
     simp at a
     rw[iX.get b (by omega),hV.get b (by simp;omega)];rfl) e9 aQ
    have wW:Ext H.n H aU:=qC.trans (Nat.le_refl _) gY
    have DF:ep H.n aU v vs:=o8.cL (hX.ext wW (Nat.le_refl _))
    refine⟨_,aA,bp,w',aU,ef,k,eW,vs.length,DF.len (t:=41) (e:=33) (by kernel_rfl),cx.of (g9 ?_) (dU.trans sj wW)⟩
    rw[Jm bq]
    exact Jk w vs.length hs
   rcases Tf (m+1) (B:=H.n) (h:=g) bM.n DE hlen jj with⟨rfl,rfl,bp⟩|⟨aL,b,aA,bp,ae,e9,aQ,cU⟩
   · refine⟨.bd,g,bp,.bd,g,?_,0,by rfl,0,by rfl,cx.of (g9 rfl) m5⟩
     exact Jc (m+1) .bd _ _ g (R:=λx=>x=.ret .bd g) ⟨0,by rfl,λ_=>rfl,λaH=>absurd (by omega) aH⟩
   · exact fin _ aA b bp rfl ae e9 aQ cU
 · refine cx.of (g9 ?_) m5
   exact Jl w vs.length hs
end Go.Proofs.hK
