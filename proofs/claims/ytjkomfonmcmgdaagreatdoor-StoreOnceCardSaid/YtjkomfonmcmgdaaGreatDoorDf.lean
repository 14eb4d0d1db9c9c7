/-
  PROVED HERE: contracts of functions (Df). No condition beside each statement's own.
-/
import Derived.Test.YtjkomfonmcmgdaaGreatDoorDe
import Derived.Test.YtjkomfonmcmgdaaGreatDoorTx
set_option linter.unusedVariables false
set_option linter.unusedSimpArgs false
set_option maxRecDepth 100000
set_option maxHeartbeats 1000000
namespace Go.Proofs.jk
open Go bt Go.Proofs hy
theorem Zo(m:Nat)(v:I)(f:Nat)(aV:List I)(h:J){R:a9->Prop}(H:∃eu:Int,∃ai:J,(Y m) (.fn 84) [v,.fn f [] aV] h=.ret (.int .i64 eu) ai/\R (.ret (.bool (eQ (.ofNat 0) eu)) ai)):
  R (Y (m+1) (.fn 65) [v,.fn f [] aV] h):=
 dQ (intr:=b3) [(7,.bq (.z .i64))] [(0,.o v),(1,.o (.fn f [] aV))] Tryz.func65 (by kernel_rfl) (by kernel_rfl) (by kernel_rfl) rfl (Eq.mp (by kernel_rfl) H)
theorem Zp(m:Nat)(v:I)(f:Nat)(aV:List I)(h:J){R:a9->Prop}(H:∃aE:Nat,cl Tryz.prog h 63 v=some (.int .i64 (.ofNat aE))/\a4 Tryz.prog Tryz.f84 (Y m) [1,0,1,0] (ah.mk [(0,v),(1,.fn f [] aV),(7,.int .i64 (.ofNat aE)),(8,.int .i64 (.ofNat 0))] [] .none h) (λb9 cf=>((∃ai:J,∃bw:Env,b9=.exit 0/\cf=ah.mk bw [] .none ai/\cd [] bw/\R (.ret (.int .i64 (.negSucc 0)) ai))\/(∃bf:Nat,∃au:J,∃bV:Env,b9=.ret/\cf=ah.mk bV [] .none au/\cd [(4,.int .i64 (.ofNat bf))] bV/\R (.ret (.int .i64 (.ofNat bf)) au))))):
  R (Y (m+1) (.fn 84) [v,.fn f [] aV] h):=
 dQ (intr:=b3) [(4000,.gO [0,1,7,8] [(.exit 0,[]),(.ret,[(4,.n .i64)])])] [(0,.o v),(1,.o (.fn f [] aV))] Tryz.func84 (by kernel_rfl) (by kernel_rfl) (by kernel_rfl) rfl (Eq.mp (by kernel_rfl) H)
theorem Zq(call:aP)(b off N i f:Nat)(aV:List I)(cp:bR)(h:J){Q:bu->ah->Prop}(H:(i<N->i<N/\∃v1:I,ar h b (off+i*1)=some v1/\∃br:Bool,∃ai:J,call (.fn f) (v1::aV) h=.ret (.bool br) ai/\(br=true->Q .ret (ah.mk [(0,.slice b off N cp),(1,.fn f [] aV),(4,.int .i64 (.ofNat i)),(7,.int .i64 (.ofNat N)),(8,.int .i64 (.ofNat i))] [] .none ai))/\(br=false->i+1<9223372036854775808/\Q .nrm (ah.mk [(0,.slice b off N cp),(1,.fn f [] aV),(7,.int .i64 (.ofNat N)),(8,.int .i64 (.ofNat (i+1)))] [] .none ai)))/\(¬i<N->Q (.exit 0) (ah.mk [(0,.slice b off N cp),(1,.fn f [] aV),(7,.int .i64 (.ofNat N)),(8,.int .i64 (.ofNat i))] [] .none h))):
  a4 Tryz.prog Tryz.f84 call [1,0,1,0,0] ⟨[(0,.slice b off N cp),(1,.fn f [] aV),(7,.int .i64 (.ofNat N)),(8,.int .i64 (.ofNat i))],[],.none,h⟩ Q:=
 dF [(15,.bq .o)] [0,1,4,7,8] [(0,.v (.slice b off N cp)),(1,.o (.fn f [] aV)),(7,.v (.int .i64 (.ofNat N))),(8,.v (.int .i64 (.ofNat i)))] rfl (Eq.mp (by kernel_rfl) H)
theorem Zr(call:aP)(N i f:Nat)(aV:List I)(v:I)(h:J){Q:bu->ah->Prop}(H:¬i<N/\Q (.exit 0) (ah.mk [] [] .none h)):
  a4 Tryz.prog Tryz.f84 call [1,0,1,0,0] ⟨[(0,v),(1,.fn f [] aV),(7,.int .i64 (.ofNat N)),(8,.int .i64 (.ofNat i))],[],.none,h⟩ Q:=
 dF [(1009,.f)] [] [(0,.o v),(1,.o (.fn f [] aV)),(7,.v (.int .i64 (.ofNat N))),(8,.v (.int .i64 (.ofNat i)))] rfl (Eq.mp (by kernel_rfl) H)
theorem Zs(m:Nat)(v:I)(f:Nat)(aV:List I)(h:J){R:a9->Prop}(H:∃aE:Nat,cl Tryz.prog h 63 v=some (.int .i64 (.ofNat aE))/\(1<=aE/\aE<9223372036854775808)/\a4 Tryz.prog Tryz.f86 (Y m) [1,0,1,0] (ah.mk [(0,v),(1,.fn f [] aV),(5,.int .i64 (.ofNat (aE-1)))] [] .none h) (λb9 cf=>((∃ai:J,∃bw:Env,b9=.exit 0/\cf=ah.mk bw [] .none ai/\cd [] bw/\R (.ret (.bool true) ai))\/(∃au:J,∃bV:Env,b9=.ret/\cf=ah.mk bV [] .none au/\cd [(4,.bool false)] bV/\R (.ret (.bool false) au))))):
  R (Y (m+1) (.fn 86) [v,.fn f [] aV] h):=
 dQ (intr:=b3) [(4000,.gO [0,1,5] [(.exit 0,[]),(.ret,[(4,.is (.bool false))])])] [(0,.o v),(1,.o (.fn f [] aV))] Tryz.func86 (by kernel_rfl) (by kernel_rfl) (by kernel_rfl) rfl (Eq.mp (by kernel_rfl) H)
theorem Zt(m:Nat)(v:I)(f:Nat)(aV:List I)(h:J){R:a9->Prop}(H:∃aE:Nat,cl Tryz.prog h 63 v=some (.int .i64 (.ofNat aE))/\∃eu:Int,arith .sub .i64 (.ofNat aE) (.ofNat 1)=some (.int .i64 eu)/\a4 Tryz.prog Tryz.f86 (Y m) [1,0,1,0] (ah.mk [(0,v),(1,.fn f [] aV),(5,.int .i64 eu)] [] .none h) (λb9 cf=>∃ai:J,∃bw:Env,b9=.exit 0/\cf=ah.mk bw [] .none ai/\cd [] bw/\R (.ret (.bool true) ai))):
  R (Y (m+1) (.fn 86) [v,.fn f [] aV] h):=
 dQ (intr:=b3) [(8,.bq (.z .i64)),(4000,.gO [0,1,5] [(.exit 0,[])])] [(0,.o v),(1,.o (.fn f [] aV))] Tryz.func86 (by kernel_rfl) (by kernel_rfl) (by kernel_rfl) rfl (Eq.mp (by kernel_rfl) H)
theorem Zu(call:aP)(b off N i f:Nat)(aV:List I)(cp:bR)(h:J){Q:bu->ah->Prop}(H:(0<i->i<N/\∃v1:I,ar (h.room 12) b (off+i*1)=some v1/\(1<=i/\i<9223372036854775808)/\i-1<N/\∃v2:I,ar (h.room 12) b (off+(i-1)*1)=some v2/\∃eu:Int,∃ai:J,call (.fn f) (v1::v2::aV) (h.room 12)=.ret (.int .i64 eu) ai/\I.sound (.fn f [] aV)=true/\I.sound v1=true/\I.sound v2=true/\(bP eu (.ofNat 0)=true->Q .ret (ah.mk [(0,.slice b off N cp),(1,.fn f [] aV),(4,.bool false),(5,.int .i64 (.ofNat i))] [] .none ai))/\(bP eu (.ofNat 0)=false->(1<=i/\i<9223372036854775808)/\Q .nrm (ah.mk [(0,.slice b off N cp),(1,.fn f [] aV),(5,.int .i64 (.ofNat (i-1)))] [] .none ai)))/\(¬0<i->Q (.exit 0) (ah.mk [(0,.slice b off N cp),(1,.fn f [] aV),(5,.int .i64 (.ofNat i))] [] .none h))):
  a4 Tryz.prog Tryz.f86 call [1,0,1,0,0] ⟨[(0,.slice b off N cp),(1,.fn f [] aV),(5,.int .i64 (.ofNat i))],[],.none,h⟩ Q:=
 dF [(17,.bq .o),(22,.bq .o),(23,.bq (.z .i64))] [0,1,4,5] [(0,.v (.slice b off N cp)),(1,.o (.fn f [] aV)),(5,.v (.int .i64 (.ofNat i)))] rfl (Eq.mp (by kernel_rfl) H)
theorem Zv(call:aP)(v:I)(f:Nat)(aV:List I)(h:J){Q:bu->ah->Prop}(H:bP (.ofNat 0) (.negSucc 0)=false/\Q (.exit 0) (ah.mk [] [] .none h)):
  a4 Tryz.prog Tryz.f86 call [1,0,1,0,0] ⟨[(0,v),(1,.fn f [] aV),(5,.int .i64 (.negSucc 0))],[],.none,h⟩ Q:=
 dF [(1010,.f)] [] [(0,.o v),(1,.o (.fn f [] aV)),(5,.v (.int .i64 (.negSucc 0)))] rfl (Eq.mp (by kernel_rfl) H)
theorem Zw(m:Nat)(x y:I)(a f:Nat)(aV:List I)(h:J){R:a9->Prop}(H:ar (h.room 7) a 0=some (.fn f [] aV)/\∃s1:List UInt8,∃ai:J,(Y m) (.fn f) (x::aV) (h.room 7)=.ret (.str s1) ai/\ar ai a 0=some (.fn f [] aV)/\∃s2:List UInt8,∃au:J,(Y m) (.fn f) (y::aV) ai=.ret (.str s2) au/\I.sound (.fn f [] aV)=true/\I.sound x=true/\I.sound (.fn f [] aV)=true/\ar (h.room 7) a 0=some (.fn f [] aV)/\I.sound y=true/\(dO s1 s2=true->R (.ret (.int .i64 (.negSucc 0)) au))/\(dO s1 s2=false->R (.ret (.int .i64 (.ofNat 1)) au))):
  R (Y (m+1) (.fn 87) [x,y,.ptr a 0] h):=
 dQ (intr:=b3) [(6,.bq (.io (.fn f [] aV))),(9,.bq (.io (.fn f [] aV)))] [(0,.o x),(1,.o y),(2,.v (.ptr a 0))] Tryz.func87 (by kernel_rfl) (by kernel_rfl) (by kernel_rfl) rfl (Eq.mp (by kernel_rfl) H)
theorem Zx(m:Nat)(x y:I)(a f:Nat)(aV:List I)(h:J){R:a9->Prop}(H:ar (h.room 8) a 0=some (.fn f [] aV)/\∃s1:List UInt8,∃ai:J,(Y m) (.fn f) (x::aV) (h.room 8)=.ret (.str s1) ai/\ar ai a 0=some (.fn f [] aV)/\∃s2:List UInt8,∃au:J,(Y m) (.fn f) (y::aV) ai=.ret (.str s2) au/\I.sound (.fn f [] aV)=true/\I.sound x=true/\I.sound (.fn f [] aV)=true/\ar (h.room 8) a 0=some (.fn f [] aV)/\I.sound y=true/\R (.ret (.bool (dd s1 s2)) au)):
  R (Y (m+1) (.fn 89) [x,y,.ptr a 0] h):=
 dQ (intr:=b3) [(6,.bq (.io (.fn f [] aV))),(9,.bq (.io (.fn f [] aV)))] [(0,.o x),(1,.o y),(2,.v (.ptr a 0))] Tryz.func89 (by kernel_rfl) (by kernel_rfl) (by kernel_rfl) rfl (Eq.mp (by kernel_rfl) H)
theorem Nq(m:Nat)(v:I)(f:Nat)(aV:List I)(h:J){R:a9->Prop}(H:∃aE:Nat,cl Tryz.prog h 63 v=some (.int .i64 (.ofNat aE))/\(aE<2->R (.ret v h))/\(¬aE<2->a4 Tryz.prog Tryz.f88 (Y m) [1,1,0,1,0] (ah.mk [(0,v),(1,.fn f [] aV),(5,.int .i64 (.ofNat 1))] [] .none h) (λb9 cf=>((∃v1:I,∃ai:J,∃bw:Env,b9=.exit 0/\cf=ah.mk bw [] .none ai/\cd [(0,v1)] bw/\R (.ret v1 ai))\/(∃v2:I,∃au:J,∃bV:Env,b9=.ret/\cf=ah.mk bV [] .none au/\cd [(4,v2)] bV/\R (.ret v2 au)))))):
  R (Y (m+1) (.fn 88) [v,.fn f [] aV] h):=
 dQ (intr:=b3) [(4000,.gO [0,1,5] [(.exit 0,[(0,.o)]),(.ret,[(4,.o)])])] [(0,.o v),(1,.o (.fn f [] aV))] Tryz.func88 (by kernel_rfl) (by kernel_rfl) (by kernel_rfl) rfl (Eq.mp (by kernel_rfl) H)
theorem Zy(call:aP)(b N k f:Nat)(aV:List I)(h:J){Q:bu->ah->Prop}(H:(k<N->k<N/\∃v1:I,ar (h.room 11) b (0+k*1)=some v1/\(1<=k/\k<9223372036854775808)/\k-1<N/\∃v2:I,ar (h.room 11) b (0+(k-1)*1)=some v2/\∃br:Bool,∃ai:J,call (.fn f) (v1::v2::aV) (h.room 11)=.ret (.bool br) ai/\I.sound (.fn f [] aV)=true/\I.sound v1=true/\I.sound v2=true/\(br=true->∃aE:Nat,∃bf:Nat,∃bH:Nat,∃aF:bR,c1 Tryz.prog ai 63 (.slice b 0 N (.aR 1)) (some (.int .i64 (.ofNat k))) none none=some (.slice aE bf bH aF)/\a4 Tryz.prog Tryz.f88 call [1,1,0,1,0,0,1,0,0,1,0,1,0,1,0] (ah.mk [(0,.slice b 0 N (.aR 1)),(1,.fn f [] aV),(5,.int .i64 (.ofNat k)),(6,.slice aE bf bH aF),(7,.int .i64 (.ofNat 1))] [] .none ai) (λb9 cf=>∃bU:Nat,∃b_:Nat,∃cv:Nat,∃a6:bR,∃c4:Nat,∃au:J,∃bw:Env,b9=.exit 2/\cf=ah.mk bw [] .none au/\cd [(0,.slice bU b_ cv a6),(5,.int .i64 (.ofNat c4))] bw/\∃eo:Nat,∃eG:Nat,∃fK:Nat,∃dy:bR,c1 Tryz.prog au 63 (.slice bU b_ cv a6) (some (.int .i64 (.ofNat c4))) none none=some (.slice eo eG fK dy)/\∃ay:J,pI Tryz.prog au 63 (.slice eo eG fK dy)=some (.aO [],ay)/\∃cz:I,c1 Tryz.prog ay 63 (.slice bU b_ cv a6) none (some (.int .i64 (.ofNat c4))) none=some cz/\Q .ret (ah.mk [(0,.slice bU b_ cv a6),(4,cz),(5,.int .i64 (.ofNat c4))] [] .none ay)))/\(br=false->k+1<9223372036854775808/\Q .nrm (ah.mk [(0,.slice b 0 N (.aR 1)),(1,.fn f [] aV),(5,.int .i64 (.ofNat (k+1)))] [] .none ai)))/\(¬k<N->Q (.exit 0) (ah.mk [(0,.slice b 0 N (.aR 1)),(1,.fn f [] aV),(5,.int .i64 (.ofNat k))] [] .none h))):
  a4 Tryz.prog Tryz.f88 call [1,1,0,1,0,0] ⟨[(0,.slice b 0 N (.aR 1)),(1,.fn f [] aV),(5,.int .i64 (.ofNat k))],[],.none,h⟩ Q:=
 dF [(22,.bq .o),(27,.bq .o),(31,.bq .fx),(4002,.gO [0,1,5,6,7] [(.exit 2,[(0,.fx),(5,.n .i64)])]),(61,.bq .fx),(64,.bq .o)] [0,1,4,5] [(0,.v (.slice b 0 N (.aR 1))),(1,.o (.fn f [] aV)),(5,.v (.int .i64 (.ofNat k)))] rfl (Eq.mp (by kernel_rfl) H)
theorem Zz(call:aP)(b N k f dK M j:Nat)(aV:List I)(h:J){Q:bu->ah->Prop}(H:(j<M->j<M/\∃v1:I,ar (h.room 12) b (dK+j*1)=some v1/\(1<=j/\j<9223372036854775808)/\j-1<M/\∃v2:I,ar (h.room 12) b (dK+(j-1)*1)=some v2/\∃br:Bool,∃ai:J,call (.fn f) (v1::v2::aV) (h.room 12)=.ret (.bool br) ai/\I.sound (.fn f [] aV)=true/\I.sound v1=true/\I.sound v2=true/\(br=true->j+1<9223372036854775808/\Q .nrm (ah.mk [(0,.slice b 0 N (.aR 1)),(1,.fn f [] aV),(5,.int .i64 (.ofNat k)),(6,.slice b dK M (.aR 1)),(7,.int .i64 (.ofNat (j+1)))] [] .none ai))/\(br=false->j<M/\∃s1:List UInt8,ar ai b (dK+j*1)=some (.str s1)/\k<N/\∃au:J,bt.storeCells ai b (0+k*1) [.str s1]=some au/\k+1<9223372036854775808/\j+1<9223372036854775808/\Q .nrm (ah.mk [(0,.slice b 0 N (.aR 1)),(1,.fn f [] aV),(5,.int .i64 (.ofNat (k+1))),(6,.slice b dK M (.aR 1)),(7,.int .i64 (.ofNat (j+1)))] [] .none au)))/\(¬j<M->Q (.exit 2) (ah.mk [(0,.slice b 0 N (.aR 1)),(1,.fn f [] aV),(5,.int .i64 (.ofNat k)),(6,.slice b dK M (.aR 1)),(7,.int .i64 (.ofNat j))] [] .none h))):
  a4 Tryz.prog Tryz.f88 call [1,1,0,1,0,0,1,0,0,1,0,1,0,1,0,0] ⟨[(0,.slice b 0 N (.aR 1)),(1,.fn f [] aV),(5,.int .i64 (.ofNat k)),(6,.slice b dK M (.aR 1)),(7,.int .i64 (.ofNat j))],[],.none,h⟩ Q:=
 dF [(42,.bq .o),(47,.bq .o)] [0,1,5,6,7] [(0,.v (.slice b 0 N (.aR 1))),(1,.o (.fn f [] aV)),(5,.v (.int .i64 (.ofNat k))),(6,.v (.slice b dK M (.aR 1))),(7,.v (.int .i64 (.ofNat j)))] rfl (Eq.mp (by kernel_rfl) H)
theorem ZA(m b off N:Nat)(cp:bR)(h:J){R:a9->Prop}(H:∃v1:I,∃ai:J,db Tryz.prog (J.push h (.cells [] 9 .own 0 0)) 63 (some 63) (.slice h.n 0 0 (.exact 0)) (.slice b off N cp)=some (v1,ai)/\R (.ret v1 ai)):
  R (Y (m+1) (.fn 38) [.slice b off N cp] h):=
 dQ (intr:=b3) [(7,.bq .o)] [(0,.v (.slice b off N cp))] Tryz.func38 (by kernel_rfl) (by kernel_rfl) (by kernel_rfl) rfl (Eq.mp (by kernel_rfl) H)
theorem ZB(m:Nat)(h:J){R:a9->Prop}(H:R (.ret .aS h)):
  R (Y (m+1) (.fn 38) [.aS] h):=
 dQ (intr:=b3) [] [(0,.v .aS)] Tryz.func38 (by kernel_rfl) (by kernel_rfl) (by kernel_rfl) rfl (Eq.mp (by kernel_rfl) H)
theorem ZC(m:Nat)(v:I)(f:Nat)(aV:List I)(h:J){R:a9->Prop}(H:I.cO (.fn f [] aV)=true/\∃br:Bool,∃ai:J,(Y m) (.fn 86) [v,.fn 87 [] [.ptr h.n 0]] (J.push h (.cells [.fn f [] aV] 114 .own 0 0))=.ret (.bool br) ai/\(br=true->∃v1:I,∃au:J,(Y m) (.fn 38) [v] ai=.ret v1 au/\∃v2:I,∃ay:J,(Y m) (.fn 88) [v1,.fn 89 [] [.ptr h.n 0]] au=.ret v2 ay/\∃aE:Nat,cl Tryz.prog ay 63 v2=some (.int .i64 (.ofNat aE))/\∃bf:Nat,cl Tryz.prog ay 63 v=some (.int .i64 (.ofNat bf))/\R (.ret (.bool (a8 (.ofNat aE) (.ofNat bf))) ay))/\(br=false->R (.ret (.bool false) ai))):
  R (Y (m+1) (.fn 68) [v,.fn f [] aV] h):=
 dQ (intr:=b3) [] [(0,.o v),(1,.o (.fn f [] aV))] Tryz.func68 (by kernel_rfl) (by kernel_rfl) (by kernel_rfl) rfl (Eq.mp (by kernel_rfl) H)
theorem ZD(m:Nat)(v:I)(f:Nat)(aV:List I)(h:J){R:a9->Prop}(H:∃eu:Int,∃ai:J,(Y m) (.fn 82) [v,.fn f [] aV] h=.ret (.int .i64 eu) ai/\R (.ret (.bool (eQ (.ofNat 0) eu)) ai)):
  R (Y (m+1) (.fn 63) [v,.fn f [] aV] h):=
 dQ (intr:=b3) [(7,.bq (.z .i64))] [(0,.o v),(1,.o (.fn f [] aV))] Tryz.func63 (by kernel_rfl) (by kernel_rfl) (by kernel_rfl) rfl (Eq.mp (by kernel_rfl) H)
theorem ZE(m:Nat)(v:I)(f:Nat)(aV:List I)(h:J){R:a9->Prop}(H:∃aE:Nat,cl Tryz.prog h 50 v=some (.int .i64 (.ofNat aE))/\a4 Tryz.prog Tryz.f82 (Y m) [1,0,1,0] (ah.mk [(0,v),(1,.fn f [] aV),(7,.int .i64 (.ofNat aE)),(8,.int .i64 (.ofNat 0))] [] .none h) (λb9 cf=>((∃ai:J,∃bw:Env,b9=.exit 0/\cf=ah.mk bw [] .none ai/\cd [] bw/\R (.ret (.int .i64 (.negSucc 0)) ai))\/(∃bf:Nat,∃au:J,∃bV:Env,b9=.ret/\cf=ah.mk bV [] .none au/\cd [(4,.int .i64 (.ofNat bf))] bV/\R (.ret (.int .i64 (.ofNat bf)) au))))):
  R (Y (m+1) (.fn 82) [v,.fn f [] aV] h):=
 dQ (intr:=b3) [(4000,.gO [0,1,7,8] [(.exit 0,[]),(.ret,[(4,.n .i64)])])] [(0,.o v),(1,.o (.fn f [] aV))] Tryz.func82 (by kernel_rfl) (by kernel_rfl) (by kernel_rfl) rfl (Eq.mp (by kernel_rfl) H)
theorem ZF(call:aP)(b off N i f:Nat)(aV:List I)(cp:bR)(h:J){Q:bu->ah->Prop}(H:(i<N->i<N/\∃v1:I,ar h b (off+i*1)=some v1/\∃br:Bool,∃ai:J,call (.fn f) (v1::aV) h=.ret (.bool br) ai/\(br=true->Q .ret (ah.mk [(0,.slice b off N cp),(1,.fn f [] aV),(4,.int .i64 (.ofNat i)),(7,.int .i64 (.ofNat N)),(8,.int .i64 (.ofNat i))] [] .none ai))/\(br=false->i+1<9223372036854775808/\Q .nrm (ah.mk [(0,.slice b off N cp),(1,.fn f [] aV),(7,.int .i64 (.ofNat N)),(8,.int .i64 (.ofNat (i+1)))] [] .none ai)))/\(¬i<N->Q (.exit 0) (ah.mk [(0,.slice b off N cp),(1,.fn f [] aV),(7,.int .i64 (.ofNat N)),(8,.int .i64 (.ofNat i))] [] .none h))):
  a4 Tryz.prog Tryz.f82 call [1,0,1,0,0] ⟨[(0,.slice b off N cp),(1,.fn f [] aV),(7,.int .i64 (.ofNat N)),(8,.int .i64 (.ofNat i))],[],.none,h⟩ Q:=
 dF [(15,.bq .o)] [0,1,4,7,8] [(0,.v (.slice b off N cp)),(1,.o (.fn f [] aV)),(7,.v (.int .i64 (.ofNat N))),(8,.v (.int .i64 (.ofNat i)))] rfl (Eq.mp (by kernel_rfl) H)
theorem ZG(call:aP)(N i f:Nat)(aV:List I)(v:I)(h:J){Q:bu->ah->Prop}(H:¬i<N/\Q (.exit 0) (ah.mk [] [] .none h)):
  a4 Tryz.prog Tryz.f82 call [1,0,1,0,0] ⟨[(0,v),(1,.fn f [] aV),(7,.int .i64 (.ofNat N)),(8,.int .i64 (.ofNat i))],[],.none,h⟩ Q:=
 dF [(1009,.f)] [] [(0,.o v),(1,.o (.fn f [] aV)),(7,.v (.int .i64 (.ofNat N))),(8,.v (.int .i64 (.ofNat i)))] rfl (Eq.mp (by kernel_rfl) H)
theorem ZH(m:Nat)(v:I)(f:Nat)(aV:List I)(h:J){R:a9->Prop}(H:∃aE:Nat,cl Tryz.prog h 50 v=some (.int .i64 (.ofNat aE))/\(1<=aE/\aE<9223372036854775808)/\a4 Tryz.prog Tryz.f90 (Y m) [1,0,1,0] (ah.mk [(0,v),(1,.fn f [] aV),(5,.int .i64 (.ofNat (aE-1)))] [] .none h) (λb9 cf=>((∃ai:J,∃bw:Env,b9=.exit 0/\cf=ah.mk bw [] .none ai/\cd [] bw/\R (.ret (.bool true) ai))\/(∃au:J,∃bV:Env,b9=.ret/\cf=ah.mk bV [] .none au/\cd [(4,.bool false)] bV/\R (.ret (.bool false) au))))):
  R (Y (m+1) (.fn 90) [v,.fn f [] aV] h):=
 dQ (intr:=b3) [(4000,.gO [0,1,5] [(.exit 0,[]),(.ret,[(4,.is (.bool false))])])] [(0,.o v),(1,.o (.fn f [] aV))] Tryz.func90 (by kernel_rfl) (by kernel_rfl) (by kernel_rfl) rfl (Eq.mp (by kernel_rfl) H)
theorem ZI(m:Nat)(v:I)(f:Nat)(aV:List I)(h:J){R:a9->Prop}(H:∃aE:Nat,cl Tryz.prog h 50 v=some (.int .i64 (.ofNat aE))/\∃eu:Int,arith .sub .i64 (.ofNat aE) (.ofNat 1)=some (.int .i64 eu)/\a4 Tryz.prog Tryz.f90 (Y m) [1,0,1,0] (ah.mk [(0,v),(1,.fn f [] aV),(5,.int .i64 eu)] [] .none h) (λb9 cf=>∃ai:J,∃bw:Env,b9=.exit 0/\cf=ah.mk bw [] .none ai/\cd [] bw/\R (.ret (.bool true) ai))):
  R (Y (m+1) (.fn 90) [v,.fn f [] aV] h):=
 dQ (intr:=b3) [(8,.bq (.z .i64)),(4000,.gO [0,1,5] [(.exit 0,[])])] [(0,.o v),(1,.o (.fn f [] aV))] Tryz.func90 (by kernel_rfl) (by kernel_rfl) (by kernel_rfl) rfl (Eq.mp (by kernel_rfl) H)
theorem ZJ(call:aP)(b off N i f:Nat)(aV:List I)(cp:bR)(h:J){Q:bu->ah->Prop}(H:(0<i->i<N/\∃v1:I,ar (h.room 12) b (off+i*1)=some v1/\(1<=i/\i<9223372036854775808)/\i-1<N/\∃v2:I,ar (h.room 12) b (off+(i-1)*1)=some v2/\∃eu:Int,∃ai:J,call (.fn f) (v1::v2::aV) (h.room 12)=.ret (.int .i64 eu) ai/\I.sound (.fn f [] aV)=true/\I.sound v1=true/\I.sound v2=true/\(bP eu (.ofNat 0)=true->Q .ret (ah.mk [(0,.slice b off N cp),(1,.fn f [] aV),(4,.bool false),(5,.int .i64 (.ofNat i))] [] .none ai))/\(bP eu (.ofNat 0)=false->(1<=i/\i<9223372036854775808)/\Q .nrm (ah.mk [(0,.slice b off N cp),(1,.fn f [] aV),(5,.int .i64 (.ofNat (i-1)))] [] .none ai)))/\(¬0<i->Q (.exit 0) (ah.mk [(0,.slice b off N cp),(1,.fn f [] aV),(5,.int .i64 (.ofNat i))] [] .none h))):
  a4 Tryz.prog Tryz.f90 call [1,0,1,0,0] ⟨[(0,.slice b off N cp),(1,.fn f [] aV),(5,.int .i64 (.ofNat i))],[],.none,h⟩ Q:=
 dF [(17,.bq .o),(22,.bq .o),(23,.bq (.z .i64))] [0,1,4,5] [(0,.v (.slice b off N cp)),(1,.o (.fn f [] aV)),(5,.v (.int .i64 (.ofNat i)))] rfl (Eq.mp (by kernel_rfl) H)
theorem ZK(call:aP)(v:I)(f:Nat)(aV:List I)(h:J){Q:bu->ah->Prop}(H:bP (.ofNat 0) (.negSucc 0)=false/\Q (.exit 0) (ah.mk [] [] .none h)):
  a4 Tryz.prog Tryz.f90 call [1,0,1,0,0] ⟨[(0,v),(1,.fn f [] aV),(5,.int .i64 (.negSucc 0))],[],.none,h⟩ Q:=
 dF [(1010,.f)] [] [(0,.o v),(1,.o (.fn f [] aV)),(5,.v (.int .i64 (.negSucc 0)))] rfl (Eq.mp (by kernel_rfl) H)
theorem ZL(m:Nat)(x y:I)(a f:Nat)(aV:List I)(h:J){R:a9->Prop}(H:ar (h.room 7) a 0=some (.fn f [] aV)/\∃s1:List UInt8,∃ai:J,(Y m) (.fn f) (x::aV) (h.room 7)=.ret (.str s1) ai/\ar ai a 0=some (.fn f [] aV)/\∃s2:List UInt8,∃au:J,(Y m) (.fn f) (y::aV) ai=.ret (.str s2) au/\I.sound (.fn f [] aV)=true/\I.sound x=true/\I.sound (.fn f [] aV)=true/\ar (h.room 7) a 0=some (.fn f [] aV)/\I.sound y=true/\(dO s1 s2=true->R (.ret (.int .i64 (.negSucc 0)) au))/\(dO s1 s2=false->R (.ret (.int .i64 (.ofNat 1)) au))):
  R (Y (m+1) (.fn 91) [x,y,.ptr a 0] h):=
 dQ (intr:=b3) [(6,.bq (.io (.fn f [] aV))),(9,.bq (.io (.fn f [] aV)))] [(0,.o x),(1,.o y),(2,.v (.ptr a 0))] Tryz.func91 (by kernel_rfl) (by kernel_rfl) (by kernel_rfl) rfl (Eq.mp (by kernel_rfl) H)
theorem ZM(m:Nat)(x y:I)(a f:Nat)(aV:List I)(h:J){R:a9->Prop}(H:ar (h.room 8) a 0=some (.fn f [] aV)/\∃s1:List UInt8,∃ai:J,(Y m) (.fn f) (x::aV) (h.room 8)=.ret (.str s1) ai/\ar ai a 0=some (.fn f [] aV)/\∃s2:List UInt8,∃au:J,(Y m) (.fn f) (y::aV) ai=.ret (.str s2) au/\I.sound (.fn f [] aV)=true/\I.sound x=true/\I.sound (.fn f [] aV)=true/\ar (h.room 8) a 0=some (.fn f [] aV)/\I.sound y=true/\R (.ret (.bool (dd s1 s2)) au)):
  R (Y (m+1) (.fn 94) [x,y,.ptr a 0] h):=
 dQ (intr:=b3) [(6,.bq (.io (.fn f [] aV))),(9,.bq (.io (.fn f [] aV)))] [(0,.o x),(1,.o y),(2,.v (.ptr a 0))] Tryz.func94 (by kernel_rfl) (by kernel_rfl) (by kernel_rfl) rfl (Eq.mp (by kernel_rfl) H)
theorem Nr(m:Nat)(v:I)(f:Nat)(aV:List I)(h:J){R:a9->Prop}(H:∃aE:Nat,cl Tryz.prog h 50 v=some (.int .i64 (.ofNat aE))/\(aE<2->R (.ret v h))/\(¬aE<2->a4 Tryz.prog Tryz.f92 (Y m) [1,1,0,1,0] (ah.mk [(0,v),(1,.fn f [] aV),(5,.int .i64 (.ofNat 1))] [] .none h) (λb9 cf=>((∃v1:I,∃ai:J,∃bw:Env,b9=.exit 0/\cf=ah.mk bw [] .none ai/\cd [(0,v1)] bw/\R (.ret v1 ai))\/(∃v2:I,∃au:J,∃bV:Env,b9=.ret/\cf=ah.mk bV [] .none au/\cd [(4,v2)] bV/\R (.ret v2 au)))))):
  R (Y (m+1) (.fn 92) [v,.fn f [] aV] h):=
 dQ (intr:=b3) [(4000,.gO [0,1,5] [(.exit 0,[(0,.o)]),(.ret,[(4,.o)])])] [(0,.o v),(1,.o (.fn f [] aV))] Tryz.func92 (by kernel_rfl) (by kernel_rfl) (by kernel_rfl) rfl (Eq.mp (by kernel_rfl) H)
theorem ZN(call:aP)(b N k f:Nat)(aV:List I)(h:J){Q:bu->ah->Prop}(H:(k<N->k<N/\∃v1:I,ar (h.room 11) b (0+k*1)=some v1/\(1<=k/\k<9223372036854775808)/\k-1<N/\∃v2:I,ar (h.room 11) b (0+(k-1)*1)=some v2/\∃br:Bool,∃ai:J,call (.fn f) (v1::v2::aV) (h.room 11)=.ret (.bool br) ai/\I.sound (.fn f [] aV)=true/\I.sound v1=true/\I.sound v2=true/\(br=true->∃aE:Nat,∃bf:Nat,∃bH:Nat,∃aF:bR,c1 Tryz.prog ai 50 (.slice b 0 N (.aR 1)) (some (.int .i64 (.ofNat k))) none none=some (.slice aE bf bH aF)/\a4 Tryz.prog Tryz.f92 call [1,1,0,1,0,0,1,0,0,1,0,1,0,1,0] (ah.mk [(0,.slice b 0 N (.aR 1)),(1,.fn f [] aV),(5,.int .i64 (.ofNat k)),(6,.slice aE bf bH aF),(7,.int .i64 (.ofNat 1))] [] .none ai) (λb9 cf=>∃bU:Nat,∃b_:Nat,∃cv:Nat,∃a6:bR,∃c4:Nat,∃au:J,∃bw:Env,b9=.exit 2/\cf=ah.mk bw [] .none au/\cd [(0,.slice bU b_ cv a6),(5,.int .i64 (.ofNat c4))] bw/\∃eo:Nat,∃eG:Nat,∃fK:Nat,∃dy:bR,c1 Tryz.prog au 50 (.slice bU b_ cv a6) (some (.int .i64 (.ofNat c4))) none none=some (.slice eo eG fK dy)/\∃ay:J,pI Tryz.prog au 50 (.slice eo eG fK dy)=some (.aO [],ay)/\∃cz:I,c1 Tryz.prog ay 50 (.slice bU b_ cv a6) none (some (.int .i64 (.ofNat c4))) none=some cz/\Q .ret (ah.mk [(0,.slice bU b_ cv a6),(4,cz),(5,.int .i64 (.ofNat c4))] [] .none ay)))/\(br=false->k+1<9223372036854775808/\Q .nrm (ah.mk [(0,.slice b 0 N (.aR 1)),(1,.fn f [] aV),(5,.int .i64 (.ofNat (k+1)))] [] .none ai)))/\(¬k<N->Q (.exit 0) (ah.mk [(0,.slice b 0 N (.aR 1)),(1,.fn f [] aV),(5,.int .i64 (.ofNat k))] [] .none h))):
  a4 Tryz.prog Tryz.f92 call [1,1,0,1,0,0] ⟨[(0,.slice b 0 N (.aR 1)),(1,.fn f [] aV),(5,.int .i64 (.ofNat k))],[],.none,h⟩ Q:=
 dF [(22,.bq .o),(27,.bq .o),(31,.bq .fx),(4002,.gO [0,1,5,6,7] [(.exit 2,[(0,.fx),(5,.n .i64)])]),(61,.bq .fx),(64,.bq .o)] [0,1,4,5] [(0,.v (.slice b 0 N (.aR 1))),(1,.o (.fn f [] aV)),(5,.v (.int .i64 (.ofNat k)))] rfl (Eq.mp (by kernel_rfl) H)
theorem ZO(call:aP)(b N k f dK M j:Nat)(aV:List I)(h:J){Q:bu->ah->Prop}(H:(j<M->j<M/\∃v1:I,ar (h.room 12) b (dK+j*1)=some v1/\(1<=j/\j<9223372036854775808)/\j-1<M/\∃v2:I,ar (h.room 12) b (dK+(j-1)*1)=some v2/\∃br:Bool,∃ai:J,call (.fn f) (v1::v2::aV) (h.room 12)=.ret (.bool br) ai/\I.sound (.fn f [] aV)=true/\I.sound v1=true/\I.sound v2=true/\(br=true->j+1<9223372036854775808/\Q .nrm (ah.mk [(0,.slice b 0 N (.aR 1)),(1,.fn f [] aV),(5,.int .i64 (.ofNat k)),(6,.slice b dK M (.aR 1)),(7,.int .i64 (.ofNat (j+1)))] [] .none ai))/\(br=false->j<M/\∃aE:Nat,ar ai b (dK+j*1)=some (.ptr aE 0)/\k<N/\∃au:J,bt.storeCells ai b (0+k*1) [.ptr aE 0]=some au/\k+1<9223372036854775808/\j+1<9223372036854775808/\Q .nrm (ah.mk [(0,.slice b 0 N (.aR 1)),(1,.fn f [] aV),(5,.int .i64 (.ofNat (k+1))),(6,.slice b dK M (.aR 1)),(7,.int .i64 (.ofNat (j+1)))] [] .none au)))/\(¬j<M->Q (.exit 2) (ah.mk [(0,.slice b 0 N (.aR 1)),(1,.fn f [] aV),(5,.int .i64 (.ofNat k)),(6,.slice b dK M (.aR 1)),(7,.int .i64 (.ofNat j))] [] .none h))):
  a4 Tryz.prog Tryz.f92 call [1,1,0,1,0,0,1,0,0,1,0,1,0,1,0,0] ⟨[(0,.slice b 0 N (.aR 1)),(1,.fn f [] aV),(5,.int .i64 (.ofNat k)),(6,.slice b dK M (.aR 1)),(7,.int .i64 (.ofNat j))],[],.none,h⟩ Q:=
 dF [(42,.bq .o),(47,.bq .o)] [0,1,5,6,7] [(0,.v (.slice b 0 N (.aR 1))),(1,.o (.fn f [] aV)),(5,.v (.int .i64 (.ofNat k))),(6,.v (.slice b dK M (.aR 1))),(7,.v (.int .i64 (.ofNat j)))] rfl (Eq.mp (by kernel_rfl) H)
theorem ZP(m b off N:Nat)(cp:bR)(h:J){R:a9->Prop}(H:∃v1:I,∃ai:J,db Tryz.prog (J.push h (.cells [] 35 .own 0 0)) 50 (some 50) (.slice h.n 0 0 (.exact 0)) (.slice b off N cp)=some (v1,ai)/\R (.ret v1 ai)):
  R (Y (m+1) (.fn 93) [.slice b off N cp] h):=
 dQ (intr:=b3) [(7,.bq .o)] [(0,.v (.slice b off N cp))] Tryz.func93 (by kernel_rfl) (by kernel_rfl) (by kernel_rfl) rfl (Eq.mp (by kernel_rfl) H)
theorem ZQ(m:Nat)(h:J){R:a9->Prop}(H:R (.ret .aS h)):
  R (Y (m+1) (.fn 93) [.aS] h):=
 dQ (intr:=b3) [] [(0,.v .aS)] Tryz.func93 (by kernel_rfl) (by kernel_rfl) (by kernel_rfl) rfl (Eq.mp (by kernel_rfl) H)
theorem ZR(m:Nat)(v:I)(f:Nat)(aV:List I)(h:J){R:a9->Prop}(H:I.cO (.fn f [] aV)=true/\∃br:Bool,∃ai:J,(Y m) (.fn 90) [v,.fn 91 [] [.ptr h.n 0]] (J.push h (.cells [.fn f [] aV] 116 .own 0 0))=.ret (.bool br) ai/\(br=true->∃v1:I,∃au:J,(Y m) (.fn 93) [v] ai=.ret v1 au/\∃v2:I,∃ay:J,(Y m) (.fn 92) [v1,.fn 94 [] [.ptr h.n 0]] au=.ret v2 ay/\∃aE:Nat,cl Tryz.prog ay 50 v2=some (.int .i64 (.ofNat aE))/\∃bf:Nat,cl Tryz.prog ay 50 v=some (.int .i64 (.ofNat bf))/\R (.ret (.bool (a8 (.ofNat aE) (.ofNat bf))) ay))/\(br=false->R (.ret (.bool false) ai))):
  R (Y (m+1) (.fn 71) [v,.fn f [] aV] h):=
 dQ (intr:=b3) [] [(0,.o v),(1,.o (.fn f [] aV))] Tryz.func71 (by kernel_rfl) (by kernel_rfl) (by kernel_rfl) rfl (Eq.mp (by kernel_rfl) H)
theorem ZS(m:Nat)(v:I)(h:J){R:a9->Prop}(H:∃br:Bool,∃ai:J,(Y m) (.fn 43) [v] h=.ret (.bool br) ai/\R (.ret (.bool !br) ai)):
  R (Y (m+1) (.fn 62) [v] h):=
 dQ (intr:=b3) [] [(0,.o v)] Tryz.func62 (by kernel_rfl) (by kernel_rfl) (by kernel_rfl) rfl (Eq.mp (by kernel_rfl) H)
theorem ZT(m:Nat)(s:List UInt8)(h:J){R:a9->Prop}(H:∃br:Bool,∃ai:J,(Y m) (.fn 67) [.str s] h=.ret (.bool br) ai/\R (.ret (.bool !br) ai)):
  R (Y (m+1) (.fn 66) [.str s] h):=
 dQ (intr:=b3) [] [(0,.v (.str s))] Tryz.func66 (by kernel_rfl) (by kernel_rfl) (by kernel_rfl) rfl (Eq.mp (by kernel_rfl) H)
theorem ZU(m:Nat)(s:List UInt8)(h:J){R:a9->Prop}(H:R (.ret (.str s) h)):
  R (Y (m+1) (.fn 69) [.str s] h):=
 dQ (intr:=b3) [] [(0,.v (.str s))] Tryz.func69 (by kernel_rfl) (by kernel_rfl) (by kernel_rfl) rfl (Eq.mp (by kernel_rfl) H)
theorem ZV(m r:Nat)(h:J){R:a9->Prop}(H:∃aE:Nat,ar h r (0+0)=some (.int .i64 (.ofNat aE))/\(aE=9->R (.ret (.bool true) h))/\(¬aE=9->∃bf:Nat,ar h r (0+0)=some (.int .i64 (.ofNat bf))/\R (.ret (.bool (a8 (.ofNat bf) (.ofNat 1))) h))):
  R (Y (m+1) (.fn 70) [.ptr r 0] h):=
 dQ (intr:=b3) [] [(0,.v (.ptr r 0))] Tryz.func70 (by kernel_rfl) (by kernel_rfl) (by kernel_rfl) rfl (Eq.mp (by kernel_rfl) H)
theorem ZW(m r:Nat)(h:J){R:a9->Prop}(H:∃aE:Nat,∃ai:J,(Y m) (.fn 16) [.ptr r 0] h=.ret (.int .i64 (.ofNat aE)) ai/\(60<aE->R (.ret (.int .i64 (.ofNat 3)) ai))/\(¬60<aE->∃br:Bool,∃au:J,(Y m) (.fn 43) [.ptr r 0] ai=.ret (.bool br) au/\(br=true->R (.ret (.int .i64 (.ofNat 0)) au))/\(br=false->R (.ret (.int .i64 (.ofNat 2)) au)))):
  R (Y (m+1) (.fn 25) [.ptr r 0] h):=
 dQ (intr:=b3) [] [(0,.v (.ptr r 0))] Tryz.func25 (by kernel_rfl) (by kernel_rfl) (by kernel_rfl) rfl (Eq.mp (by kernel_rfl) H)
theorem ZX(m:Nat)(h:J){R:a9->Prop}(H:R (.ret (.int .i64 (.ofNat 1)) h)):
  R (Y (m+1) (.fn 25) [.aZ] h):=
 dQ (intr:=b3) [] [(0,.v .aZ)] Tryz.func25 (by kernel_rfl) (by kernel_rfl) (by kernel_rfl) rfl (Eq.mp (by kernel_rfl) H)
theorem s9{n:Nat}{q:Nat->Bool}(h:∀j,j<n->q j=false):(List.range n).any q=false:=by
 rw[List.any_eq_false];intro j aK;rw[h j (by simpa using aK)];simp
theorem xg{n i:Nat}{q:Nat->Bool}(af:i<n)(h:q i=true):(List.range n).any q=true:=List.any_eq_true.2 ⟨i,by simpa using af,h⟩
theorem m2{f:Nat}{aV:List I}(h:j6 aV=true):I.sound (.fn f [] aV)=true:=by simp[I.sound,j6,h]
theorem G4(z:I)(aW:z.cO=true)(L:List I)(k:Nat)(aq:k<L.length):fS k [z] L=some (L.set k z):=by
 have h:=zi (L.take k) [z] (L.drop k) (by simp[aW]) (by simp;omega)
 rw[List.length_take,Nat.min_eq_left (by omega),List.take_append_drop] at h
 rw[h,List.drop_drop]
 congr 1
 rw[List.set_eq_take_append_cons_drop,if_pos aq]
 rfl
theorem Ns(xs:List I)(ab:xs.all I.cO=true)(L:List I)(k:Nat)(aq:k+xs.length<=L.length):∃lJ,fS k xs L=some lJ/\lJ.length=L.length:=by
 have h:=zi (L.take k) xs (L.drop k) ab (by simp;omega)
 rw[List.length_take,Nat.min_eq_left (by omega),List.take_append_drop] at h
 exact⟨_,h,by simp;omega⟩
theorem ZY:∀(l cs:List I) (o:Nat),(∀i (af:i<l.length),nth (o+i) cs=some l[i])->takeN l.length (jH o cs)=some l:=by
 have base:∀(l cs:List I),(∀i (af:i<l.length),nth i cs=some l[i])->takeN l.length cs=some l:=by
  intro l
  induction l with
  |nil=>intro cs _;rfl
  |cons a l bb=>
   intro cs h
   cases cs with
   |nil=>have:=h 0 (by simp);simp[nth] at this
   |cons c cs=>
    have h0:=h 0 (by simp)
    simp only[nth,List.getElem_cons_zero,Option.some.injEq] at h0
    subst h0
    have:=bb cs (λi af=>by have:=h (i+1) (by simpa using af);simpa[nth] using this)
    simp only[List.length_cons,takeN,this]
 intro l cs o
 induction o generalizing cs with
 |zero=>intro h;exact base l cs (λi af=>by have:=h i af;rwa [Nat.zero_add] at this)
 |succ o bb=>
  intro h
  cases cs with
  |nil=>
   cases l with
   |nil=>rfl
   |cons a l=>have:=h 0 (by simp);simp[nth] at this
  |cons c cs=>
   refine bb cs (λi af=>?_)
   have:=h i af
   rw[show o+1+i=(o+i)+1 by omega] at this
   simpa[nth] using this
theorem c6.src{B:Nat}{h:J}{b off:Nat}{cp:bR}{vs:List I}(aw:∀i (af:i<vs.length),ar h b (off+i*1)=some vs[i])(h0:0<vs.length)(ag:cp≠ .dead):fg h 1 (.slice b off vs.length cp)=some (vs.length,vs):=by
 have ae:∃cs e k aI up,h.get b=some (.cells cs e k aI up):=by
  have:=aw 0 h0
  unfold ar at this
  split at this
  · rename_i cs e k aI up al
    exact⟨cs,e,k,aI,up,al⟩
  · cases this
 obtain⟨cs,e,k,aI,up,al⟩:=ae
 have fB:bt.loadCells h b off (vs.length*1)=some vs:=by
  refine pa al ?_
  rw[Nat.mul_one]
  refine ZY vs cs off (λi af=>?_)
  have:=aw i af
  simp only[ar,al,Nat.mul_one] at this
  exact this
 cases cp with
 |dead=>exact absurd rfl ag
 |exact c=>simp only[fg,fB]
 |aR c=>simp only[fg,fB]
def iq(h:J)(b:Nat)(el:Nat)(L:List I):Prop:=h.get b=some (.cells L el .aR 0 0)
theorem iq.jC{h:J}{b el:Nat}{L:List I}(aY:iq h b el L){i o:Nat}(af:i<L.length)(e:o=i):ar h b o=some L[i]:=by
 subst e;exact lB aY (List.getElem?_eq_getElem af)
theorem ZZ(m:Nat){B:Nat}{h:J}{v:I}{vs:List I}(f:Nat)(aV:List I)(q:Nat->Bool)(aD:c6 B h v vs)(hlen:vs.length<=90000)(hf:∀i (af:i<vs.length) x,Ext B h x->cZ B x (.bool (q i)) (Y m (.fn f) (vs[i]::aV) x)):
  cZ B h (.bool ((List.range vs.length).any q)) (Y (m+2) (.fn 65) [v,.fn f [] aV] h):=by
 refine Zo (m+1) v f aV h ?_
 have key:∃i g,Y (m+1) (.fn 84) [v,.fn f [] aV] h=.ret (.int .i64 i) g/\eQ (Int.ofNat 0) i=(List.range vs.length).any q/\Ext B h g:=by
  refine Zp m v f aV h (R:=λx=>∃i g,x=.ret (.int .i64 i) g/\eQ (Int.ofNat 0) i=(List.range vs.length).any q/\Ext B h g) ⟨vs.length,aD.len (t:=63) (e:=9) (by kernel_rfl),?_⟩
  refine a4.loop (by kernel_rfl) (λk st=>∃i x Γ,st=⟨Γ,[],.none,x⟩/\cd [(0,v),(1,.fn f [] aV),(7,.int .i64 (Int.ofNat vs.length)),(8,.int .i64 (Int.ofNat i))] Γ/\vs.length-i=k/\i<=vs.length/\Ext B h x/\∀j,j<i->q j=false) ?_ vs.length _ (by omega) ⟨0,h,_,rfl,⟨rfl,rfl,rfl,rfl,trivial⟩,by omega,by omega,Ext.refl _ _,λj aK=>by omega⟩
  rintro k st ⟨i,x,Γ,rfl,cL,aq,af,ab,aJ⟩
  rcases aD with⟨rfl,rfl⟩|⟨b,off,cp,rfl,ae,aw,aQ,ao⟩
  · exact a4.pre (Zr (Y m) _ i f aV _ x ⟨by simp,.inl ⟨x,_,rfl,rfl,trivial,_,x,rfl,rfl,ab⟩⟩) cL rfl rfl rfl
  · refine a4.pre (Zq (Y m) b off _ i f aV cp x ⟨λaa=>⟨aa,_,jh ab ae (aw i aa),?_⟩,λaa=>?_⟩) cL rfl rfl rfl
    · obtain⟨g,aF,bC⟩:=hf i aa x ab
      have al:=ab.trans (Nat.le_refl _) bC
      refine⟨q i,g,aF,λag=>?_,λag=>?_⟩
      · exact .inr ⟨i,g,_,rfl,rfl,⟨rfl,trivial⟩,_,g,rfl,by rw[xg aa ag];exact mO (by omega),al⟩
      · refine⟨by omega,_,(by show _<k;omega),i+1,g,_,rfl,⟨rfl,rfl,rfl,rfl,trivial⟩,rfl,by omega,al,λj aK=>?_⟩
        by_cases e:j=i
        · rw[e];exact ag
        · exact aJ j (by omega)
    · exact .inl ⟨x,_,rfl,rfl,trivial,_,x,rfl,by rw[s9 (λj aK=>aJ j (by omega))];rfl,ab⟩
 obtain⟨i,g,aF,aA,bC⟩:=key
 exact⟨i,g,aF,cZ.of (iC aA.symm) bC⟩
theorem Z0(m:Nat){B:Nat}{h:J}{v:I}{vs:List I}(f:Nat)(aV:List I)(q:Nat->Nat->Bool)(aD:c6 B h v vs)(hlen:vs.length<=90000)(hI:j6 aV=true)(eT:∀i (af:i<vs.length),I.sound vs[i]=true)(hf:∀i j (af:i<vs.length) (aK:j<vs.length) x,Ext B h x->cZ B x (.int .i64 (if q i j then Int.negSucc 0 else Int.ofNat 1)) (Y m (.fn f) (vs[i]::vs[j]::aV) x)):
  cZ B h (.bool (!(List.range vs.length).any (λi=>decide (0<i)&&q i (i-1)))) (Y (m+1) (.fn 86) [v,.fn f [] aV] h):=by
 by_cases h0:vs.length=0
 · refine Zt m v f aV h ⟨0,by rw[<-h0];exact aD.len (t:=63) (e:=9) (by kernel_rfl),Int.negSucc 0,by kernel_rfl,?_⟩
   refine a4.loop (by kernel_rfl) (λk st=>∃Γ,st=⟨Γ,[],.none,h⟩/\cd [(0,v),(1,.fn f [] aV),(5,.int .i64 (Int.negSucc 0))] Γ) ?_ 1 _ (by omega) ⟨_,rfl,rfl,rfl,rfl,trivial⟩
   rintro k st ⟨Γ,rfl,cL⟩
   exact a4.pre (Zv (Y m) v f aV h ⟨rfl,h,_,rfl,rfl,trivial,cZ.of (iC (by rw[h0];rfl)) (Ext.refl _ _)⟩) cL rfl rfl rfl
 · refine Zs m v f aV h ⟨vs.length,aD.len (t:=63) (e:=9) (by kernel_rfl),⟨by omega,by omega⟩,?_⟩
   refine a4.loop (by kernel_rfl) (λk st=>∃i x Γ,st=⟨Γ,[],.none,x⟩/\cd [(0,v),(1,.fn f [] aV),(5,.int .i64 (Int.ofNat i))] Γ/\i=k/\i<vs.length/\Ext B h x/\∀j,i<j->j<vs.length->q j (j-1)=false) ?_ (vs.length-1) _ (by omega) ⟨vs.length-1,h,_,rfl,⟨rfl,rfl,rfl,trivial⟩,by omega,by omega,Ext.refl _ _,λj aK p0=>by omega⟩
   rintro k st ⟨i,x,Γ,rfl,cL,aq,af,ab,aJ⟩
   rcases aD with⟨rfl,rfl⟩|⟨b,off,cp,rfl,ae,aw,aQ,ao⟩
   · simp at h0
   · refine a4.pre (Zu (Y m) b off _ i f aV cp x ⟨λaa=>?_,λaa=>?_⟩) cL rfl rfl rfl
     · have aj:=ab.ht (k:=12)
       obtain⟨g,aF,bC⟩:=hf i (i-1) af (by omega) _ aj
       have al:=aj.trans (Nat.le_refl _) bC
       refine⟨af,_,jh aj ae (aw i af),⟨by omega,by omega⟩,by omega,_,jh aj ae (aw (i-1) (by omega)),_,g,aF,m2 hI,eT i af,eT (i-1) (by omega),λag=>?_,λag=>?_⟩
       · have pv:q i (i-1)=true:=by
           cases rf:q i (i-1) with
           |true=>rfl
           |false=>rw[rf] at ag;exact absurd ag (by decide)
         exact .inr ⟨g,_,rfl,rfl,⟨rfl,trivial⟩,cZ.of (iC (by rw[xg af (by simp[aa,pv])];rfl)) al⟩
       · have pv:q i (i-1)=false:=by
           cases rf:q i (i-1) with
           |false=>rfl
           |true=>rw[rf] at ag;exact absurd ag (by decide)
         refine⟨⟨by omega,by omega⟩,_,(by show _<k;omega),i-1,g,_,rfl,⟨rfl,rfl,rfl,trivial⟩,rfl,by omega,al,λj aK p0=>?_⟩
         by_cases e:j=i
         · rw[e];exact pv
         · exact aJ j (by omega) p0
     · refine .inl ⟨x,_,rfl,rfl,trivial,cZ.of (iC ?_) ab⟩
       rw[s9 (λj aK=>?_)];rfl
       by_cases e:0<j
       · rw[aJ j (by omega) aK,Bool.and_false]
       · simp[e]
theorem Nt(m:Nat){B:Nat}{h:J}{v:I}{vs:List I}(f:Nat)(aV:List I)(q:Nat->Bool)(aD:c6 B h v vs)(hlen:vs.length<=90000)(hf:∀i (af:i<vs.length) x,Ext B h x->cZ B x (.bool (q i)) (Y m (.fn f) (vs[i]::aV) x)):
  cZ B h (.bool ((List.range vs.length).any q)) (Y (m+2) (.fn 63) [v,.fn f [] aV] h):=by
 refine ZD (m+1) v f aV h ?_
 have key:∃i g,Y (m+1) (.fn 82) [v,.fn f [] aV] h=.ret (.int .i64 i) g/\eQ (Int.ofNat 0) i=(List.range vs.length).any q/\Ext B h g:=by
  refine ZE m v f aV h (R:=λx=>∃i g,x=.ret (.int .i64 i) g/\eQ (Int.ofNat 0) i=(List.range vs.length).any q/\Ext B h g) ⟨vs.length,aD.len (t:=50) (e:=35) (by kernel_rfl),?_⟩
  refine a4.loop (by kernel_rfl) (λk st=>∃i x Γ,st=⟨Γ,[],.none,x⟩/\cd [(0,v),(1,.fn f [] aV),(7,.int .i64 (Int.ofNat vs.length)),(8,.int .i64 (Int.ofNat i))] Γ/\vs.length-i=k/\i<=vs.length/\Ext B h x/\∀j,j<i->q j=false) ?_ vs.length _ (by omega) ⟨0,h,_,rfl,⟨rfl,rfl,rfl,rfl,trivial⟩,by omega,by omega,Ext.refl _ _,λj aK=>by omega⟩
  rintro k st ⟨i,x,Γ,rfl,cL,aq,af,ab,aJ⟩
  rcases aD with⟨rfl,rfl⟩|⟨b,off,cp,rfl,ae,aw,aQ,ao⟩
  · exact a4.pre (ZG (Y m) _ i f aV _ x ⟨by simp,.inl ⟨x,_,rfl,rfl,trivial,_,x,rfl,rfl,ab⟩⟩) cL rfl rfl rfl
  · refine a4.pre (ZF (Y m) b off _ i f aV cp x ⟨λaa=>⟨aa,_,jh ab ae (aw i aa),?_⟩,λaa=>?_⟩) cL rfl rfl rfl
    · obtain⟨g,aF,bC⟩:=hf i aa x ab
      have al:=ab.trans (Nat.le_refl _) bC
      refine⟨q i,g,aF,λag=>?_,λag=>?_⟩
      · exact .inr ⟨i,g,_,rfl,rfl,⟨rfl,trivial⟩,_,g,rfl,by rw[xg aa ag];exact mO (by omega),al⟩
      · refine⟨by omega,_,(by show _<k;omega),i+1,g,_,rfl,⟨rfl,rfl,rfl,rfl,trivial⟩,rfl,by omega,al,λj aK=>?_⟩
        by_cases e:j=i
        · rw[e];exact ag
        · exact aJ j (by omega)
    · exact .inl ⟨x,_,rfl,rfl,trivial,_,x,rfl,by rw[s9 (λj aK=>aJ j (by omega))];rfl,ab⟩
 obtain⟨i,g,aF,aA,bC⟩:=key
 exact⟨i,g,aF,cZ.of (iC aA.symm) bC⟩
theorem Z1(m:Nat){B:Nat}{h:J}{v:I}{vs:List I}(f:Nat)(aV:List I)(q:Nat->Nat->Bool)(aD:c6 B h v vs)(hlen:vs.length<=90000)(hI:j6 aV=true)(eT:∀i (af:i<vs.length),I.sound vs[i]=true)(hf:∀i j (af:i<vs.length) (aK:j<vs.length) x,Ext B h x->cZ B x (.int .i64 (if q i j then Int.negSucc 0 else Int.ofNat 1)) (Y m (.fn f) (vs[i]::vs[j]::aV) x)):
  cZ B h (.bool (!(List.range vs.length).any (λi=>decide (0<i)&&q i (i-1)))) (Y (m+1) (.fn 90) [v,.fn f [] aV] h):=by
 by_cases h0:vs.length=0
 · refine ZI m v f aV h ⟨0,by rw[<-h0];exact aD.len (t:=50) (e:=35) (by kernel_rfl),Int.negSucc 0,by kernel_rfl,?_⟩
   refine a4.loop (by kernel_rfl) (λk st=>∃Γ,st=⟨Γ,[],.none,h⟩/\cd [(0,v),(1,.fn f [] aV),(5,.int .i64 (Int.negSucc 0))] Γ) ?_ 1 _ (by omega) ⟨_,rfl,rfl,rfl,rfl,trivial⟩
   rintro k st ⟨Γ,rfl,cL⟩
   exact a4.pre (ZK (Y m) v f aV h ⟨rfl,h,_,rfl,rfl,trivial,cZ.of (iC (by rw[h0];rfl)) (Ext.refl _ _)⟩) cL rfl rfl rfl
 · refine ZH m v f aV h ⟨vs.length,aD.len (t:=50) (e:=35) (by kernel_rfl),⟨by omega,by omega⟩,?_⟩
   refine a4.loop (by kernel_rfl) (λk st=>∃i x Γ,st=⟨Γ,[],.none,x⟩/\cd [(0,v),(1,.fn f [] aV),(5,.int .i64 (Int.ofNat i))] Γ/\i=k/\i<vs.length/\Ext B h x/\∀j,i<j->j<vs.length->q j (j-1)=false) ?_ (vs.length-1) _ (by omega) ⟨vs.length-1,h,_,rfl,⟨rfl,rfl,rfl,trivial⟩,by omega,by omega,Ext.refl _ _,λj aK p0=>by omega⟩
   rintro k st ⟨i,x,Γ,rfl,cL,aq,af,ab,aJ⟩
   rcases aD with⟨rfl,rfl⟩|⟨b,off,cp,rfl,ae,aw,aQ,ao⟩
   · simp at h0
   · refine a4.pre (ZJ (Y m) b off _ i f aV cp x ⟨λaa=>?_,λaa=>?_⟩) cL rfl rfl rfl
     · have aj:=ab.ht (k:=12)
       obtain⟨g,aF,bC⟩:=hf i (i-1) af (by omega) _ aj
       have al:=aj.trans (Nat.le_refl _) bC
       refine⟨af,_,jh aj ae (aw i af),⟨by omega,by omega⟩,by omega,_,jh aj ae (aw (i-1) (by omega)),_,g,aF,m2 hI,eT i af,eT (i-1) (by omega),λag=>?_,λag=>?_⟩
       · have pv:q i (i-1)=true:=by
           cases rf:q i (i-1) with
           |true=>rfl
           |false=>rw[rf] at ag;exact absurd ag (by decide)
         exact .inr ⟨g,_,rfl,rfl,⟨rfl,trivial⟩,cZ.of (iC (by rw[xg af (by simp[aa,pv])];rfl)) al⟩
       · have pv:q i (i-1)=false:=by
           cases rf:q i (i-1) with
           |false=>rfl
           |true=>rw[rf] at ag;exact absurd ag (by decide)
         refine⟨⟨by omega,by omega⟩,_,(by show _<k;omega),i-1,g,_,rfl,⟨rfl,rfl,rfl,trivial⟩,rfl,by omega,al,λj aK p0=>?_⟩
         by_cases e:j=i
         · rw[e];exact pv
         · exact aJ j (by omega) p0
     · refine .inl ⟨x,_,rfl,rfl,trivial,cZ.of (iC ?_) ab⟩
       rw[s9 (λj aK=>?_)];rfl
       by_cases e:0<j
       · rw[aJ j (by omega) aK,Bool.and_false]
       · simp[e]
theorem Nu{n:Nat}(h:¬n<2):2<=n:=by omega
theorem zY{P:Program}{h:J}{T E b n k:Nat}(hu:P.underlying T=some (.slice E))(hs:dx P E=some 1)(h0:0<k)(aq:k<n):c1 P h T (.slice b 0 n (.aR 1)) (some (.int .i64 (Int.ofNat k))) none none=some (.slice b (0+k*1) (n-k) (.aR 1)):=by
 have br:Nat.ble n n=true:=by rw[Nat.ble_eq];omega
 have a3:Nat.ble k n=true:=by rw[Nat.ble_eq];omega
 have dm:Nat.blt k n=true:=by rw[Nat.blt_eq];exact aq
 have dc:¬k=0:=by omega
 simp only[c1,hu,hs,bounds,g4,eI,br,a3,dm,if_true,if_neg dc]
theorem CX{P:Program}{h:J}{T E b n k:Nat}(hu:P.underlying T=some (.slice E))(hs:dx P E=some 1)(aq:k<=n):c1 P h T (.slice b 0 n (.aR 1)) none (some (.int .i64 (Int.ofNat k))) none=some (.slice b 0 k (.aR 1)):=by
 have br:Nat.ble n n=true:=by rw[Nat.ble_eq];omega
 have a3:Nat.ble k n=true:=by rw[Nat.ble_eq];omega
 have dm:Nat.ble 0 k=true:=by rw[Nat.ble_eq];omega
 simp only[c1,hu,hs,bounds,g4,eI,br,a3,dm,if_true,Nat.sub_zero]
theorem Nv:∀a:a7,dO a a=false
 |[]=>rfl
 |x::a=>by rw[zI,if_pos rfl];exact Nv a
theorem Nw:∀a b:a7,dO a b=true->dO b a=false
 |[],b,h=>by cases b<;>rfl
 |x::a,[],h=>by simp[dO] at h
 |x::a,y::b,h=>by
  rw[zI] at h⊢
  by_cases e:x.toNat=y.toNat
  · rw[if_pos e] at h;rw[if_pos e.symm];exact Nw a b h
  · rw[if_neg e] at h;rw[if_neg (λh=>e h.symm)]
    have:x.toNat<y.toNat:=by simpa using h
    simp;omega
theorem G5:∀a b:a7,dO a b=false->dO b a=false->a=b
 |[],[],_,_=>rfl
 |[],y::b,h,_=>by simp[dO] at h
 |x::a,[],_,h=>by simp[dO] at h
 |x::a,y::b,aa,ad=>by
  rw[zI] at aa ad
  by_cases e:x.toNat=y.toNat
  · rw[if_pos e] at aa;rw[if_pos e.symm] at ad
    rw[G5 a b aa ad,show x=y from UInt8.toNat_inj.1 e]
  · rw[if_neg e] at aa;rw[if_neg (λh=>e h.symm)] at ad
    simp at aa ad;omega
theorem Nx(a b:a7):dO a b=(!dO b a&&!dd b a):=by
 by_cases e:b=a
 · subst e;rw[Nv,Lx];rfl
 · have ae:dd b a=false:=by
     cases ab:dd b a with
     |false=>rfl
     |true=>exact absurd (by simpa[n_] using ab) e
   rw[ae]
   cases aa:dO a b with
   |true=>rw[Nw a b aa];rfl
   |false=>
    cases ad:dO b a with
    |true=>rfl
    |false=>exact absurd (G5 a b aa ad).symm e
def qv(w:Nat->a7)(n:Nat):Bool:=!(List.range n).any (λi=>decide (0<i)&&!dO (w (i-1)) (w i))
theorem Ny(w:Nat->a7)(n:Nat)(hs:(!(List.range n).any (λi=>decide (0<i)&&dO (w i) (w (i-1))))=true):qv w n=(!(List.range n).any (λi=>decide (0<i)&&dd (w i) (w (i-1)))):=by
 unfold qv
 congr 1
 rw[Bool.not_eq_true',List.any_eq_false] at hs
 rw[Bool.eq_iff_iff,List.any_eq_true,List.any_eq_true]
 refine exists_congr λi=>and_congr_right λaf=>?_
 have:=hs i af
 rw[Nx (w (i-1)) (w i)]
 by_cases e:0<i
 · have aw:dO (w i) (w (i-1))=false:=by simpa[e] using this
   rw[aw];simp[e]
 · simp[e]
theorem Nz(w:Nat->a7)(n:Nat)(hs:(!(List.range n).any (λi=>decide (0<i)&&dO (w i) (w (i-1))))=false):qv w n=false:=by
 unfold qv
 rw[Bool.not_eq_false',List.any_eq_true] at hs⊢
 obtain⟨i,af,aJ⟩:=hs
 refine⟨i,af,?_⟩
 rw[Nx (w (i-1)) (w i)]
 simp only[Bool.and_eq_true] at aJ⊢
 rw[aJ.2];exact⟨aJ.1,rfl⟩
def zZ(L vs:List I):Prop:=∀i (af:i<L.length),∃s,∃hs:s<vs.length,L[i]=vs[s]
theorem zZ.set{L vs:List I}(h:zZ L vs)(k:Nat){s:Nat}(hs:s<vs.length):zZ (L.set k vs[s]) vs:=by
 intro i af
 rw[List.getElem_set]
 split
 · exact⟨s,hs,rfl⟩
 · exact h i (by simpa using af)
theorem NA{a:Bool}{n k:Nat}(h:a=decide (k=n)):a8 (Int.ofNat k) (Int.ofNat n)=a:=by rw[u7,h]
theorem NB{E U:Nat}{h:J}{v:I}{vs:List I}{a:Nat}(hu:Tryz.prog.underlying U=some (.slice E))(fj:pH Tryz.prog (some U)=true){i:TypeInfo}{z:I}(af:Tryz.prog.info? E=some i)(bA:i.size=1)(mI:i.bytes<=1000)(aW:ev Tryz.prog E=some z)(hS:z.cells.length=1)(aD:fg h 1 v=some (vs.length,vs))(h0:0<vs.length)(aw:vs.length<=90000)(ag:vs.all I.cO=true)(aL:h.get a=some (.cells [] E .own 0 0)):
  db Tryz.prog h U (some U) (.slice a 0 0 (.exact 0)) v=some (.slice h.n 0 vs.length (.aR 1),h.push (.cells vs E .aR 0 0)):=by
 obtain⟨k,aq⟩:∃k,vs.length=k+1:=⟨vs.length-1,by omega⟩
 have hmul:(4*(0+(k+1))+2048)*(i.bytes+1)<=(4*90000+2048)*1001:=Nat.mul_le_mul (by omega) (by omega)
 have iL:kB h E i.bytes 1 (0+(k+1)) z ([]++vs) 0=some (.slice h.n 0 (0+(k+1)) (.aR 1),h.push (.cells ([]++vs) E .aR 0 0)):=
  uz (by unfold kA;rw[Nat.ble_eq];omega) (by rw[hS];rfl) (by rw[List.nil_append];exact ag)
 have l6:Nat.ble (0+(k+1)) 0=false:=by
  cases ab:Nat.ble (0+(k+1)) 0 with
  |false=>rfl
  |true=>have:=Nat.le_of_ble_eq_true ab;omega
 have fB:bt.loadCells h a 0 (0*1)=some []:=by simp only[bt.loadCells,aL];rfl
 rw[aq] at aD
 simp only[db,hu,fj,af,aW,bA,aD,aq,l6,fB,iL]
 rw[List.nil_append,Nat.zero_add]
theorem G6(m:Nat){B:Nat}{h:J}{v:I}{vs:List I}(cC:B<=h.n)(aD:c6 B h v vs)(hlen:vs.length<=90000)(ag:vs.all I.cO=true):(v=.aS/\vs=[]/\Y (m+1) (.fn 38) [v] h=.ret .aS h)\/(0<vs.length/\∃b an,Y (m+1) (.fn 38) [v] h=.ret (.slice b 0 vs.length (.aR 1)) an/\B<=b/\b<an.n/\iq an b 9 vs/\Ext B h an):=by
 rcases aD with⟨rfl,rfl⟩|⟨b,off,cp,rfl,ae,aw,aQ,ao⟩
 · exact .inl ⟨rfl,rfl,ZB m h (R:=λx=>x=.ret .aS h) rfl⟩
 · right
   refine⟨aQ,?_⟩
   obtain⟨H,cw⟩:∃H,H=h.push (.cells [] 9 .own 0 0):=⟨_,rfl⟩
   have dz:Ext B h H:=by rw[cw];exact Ext.push cC _
   have lK:H.n=h.n+1:=by rw[cw];rfl
   have fj:=c6.src (B:=B) (h:=H) (λi af=>jh dz ae (aw i af)) aQ ao
   obtain⟨i,af⟩:=Option.isSome_iff_exists.1 (show(Tryz.prog.info? 9).isSome=true by kernel_rfl)
   have bA:i.size=1:=by
    have:(Tryz.prog.info? 9).map (·.size)=some 1:=by kernel_rfl
    rw[af] at this;simpa using this
   have mI:i.bytes<=1000:=by
    have:(Tryz.prog.info? 9).map (λi=>Nat.ble i.bytes 1000)=some true:=by kernel_rfl
    rw[af] at this;exact Nat.le_of_ble_eq_true (by simpa using this)
   obtain⟨z,aW⟩:=Option.isSome_iff_exists.1 (show(ev Tryz.prog 9).isSome=true by kernel_rfl)
   have hS:z.cells.length=1:=by
    have:(ev Tryz.prog 9).map (λz=>z.cells.length)=some 1:=by kernel_rfl
    rw[aW] at this;simpa using this
   have ap:=NB (U:=63) (E:=9) (a:=h.n) (by kernel_rfl) (by kernel_rfl) af bA mI aW hS fj aQ hlen ag (by rw[cw];exact fl rfl)
   refine ZA m b off vs.length cp h (R:=λx=>∃b an,x=.ret (.slice b 0 vs.length (.aR 1)) an/\B<=b/\b<an.n/\iq an b 9 vs/\Ext B h an) ?_
   rw[<-cw]
   exact⟨_,_,ap,_,_,rfl,by omega,by simp,fl rfl,dz.trans (Nat.le_refl _) (Ext.push (Nat.le_trans cC dz.n) _)⟩
theorem Z2(m:Nat){B b K f:Nat}{h:J}{vs:List I}(aV:List I)(q:Nat->Nat->Bool)(hlen:vs.length<=90000)(k_:B<=b)(de:1<=K)(Z3:K<vs.length)(hI:j6 aV=true)(eT:∀i (af:i<vs.length),I.sound vs[i]=true)(k1:∀i (af:i<vs.length),∃z:List UInt8,vs[i]=(.str z))(hf:∀i j (af:i<vs.length) (aK:j<vs.length) x,Ext B h x->cZ x.n x (.bool (q i j)) (Y m (.fn f) (vs[i]::vs[j]::aV) x))
  {g:J}(ae:b<g.n)(aY:iq g b 9 vs)(ab:Ext B h g){Γ:Env}(cL:cd [(0,.slice b 0 vs.length (.aR 1)),(1,.fn f [] aV),(5,.int .i64 (Int.ofNat K)),(6,.slice b (0+K*1) (vs.length-K) (.aR 1)),(7,.int .i64 (Int.ofNat 1))] Γ):
  a4 Tryz.prog Tryz.f88 (Y m) [1,1,0,1,0,0,1,0,0,1,0,1,0,1,0] ⟨Γ,[],.none,g⟩ (λb9 cf=>∃(bQ:Nat) (au:J) (cx:Env),b9=.exit 2/\cf=⟨cx,[],.none,au⟩/\cd [(0,.slice b 0 vs.length (.aR 1)),(5,.int .i64 (Int.ofNat bQ))] cx/\K<=bQ/\bQ<vs.length/\b<au.n/\Ext B h au/\∃L,iq au b 9 L/\L.length=vs.length):=by
 refine a4.loop (by kernel_rfl) (λt st=>∃j k L x Γ,st=⟨Γ,[],.none,x⟩/\cd [(0,.slice b 0 vs.length (.aR 1)),(1,.fn f [] aV),(5,.int .i64 (Int.ofNat k)),(6,.slice b (0+K*1) (vs.length-K) (.aR 1)),(7,.int .i64 (Int.ofNat j))] Γ/\(vs.length-K)-j=t/\1<=j/\j<=vs.length-K/\K<=k/\k+1<=K+j/\b<x.n/\iq x b 9 L/\L.length=vs.length/\zZ L vs/\Ext B h x) ?_ (vs.length-K-1) _ (by omega) ⟨1,K,vs,g,Γ,rfl,cL,by omega,by omega,by omega,by omega,by omega,ae,aY,rfl,λi af=>⟨i,af,rfl⟩,ab⟩
 rintro t st ⟨j,k,L,x,Γ,rfl,cL,bc,aK,Eh,aq,E9,s_,rJ,hx,nQ,kx⟩
 refine a4.pre (Zz (Y m) b _ k f (0+K*1) _ j aV x ⟨λaa=>?_,λaa=>?_⟩) cL rfl rfl rfl
 · have aj:=kx.ht (k:=12)
   have mh:iq (x.room 12) b 9 L:=rJ
   have i1:K+j<L.length:=by omega
   have i2:K+j-1<L.length:=by omega
   obtain⟨s,hs,es⟩:=nQ (K+j) i1
   obtain⟨bd,dw,sq⟩:=nQ (K+j-1) i2
   obtain⟨ai,aF,bC⟩:=hf s bd hs dw _ aj
   have ee:=aj.trans (Nat.le_refl _) (bC.le (show B<=(x.room 12).n by simp;omega))
   have pw:b<(x.room 12).n:=by simp;omega
   have nR:iq ai b 9 L:=(bC.get b pw).trans mh
   have rK:b<ai.n:=Nat.lt_of_lt_of_le pw bC.n
   obtain⟨z,aW⟩:=k1 s hs
   refine⟨aa,_,(mh.jC i1 (by omega)).trans (by rw[es]),⟨by omega,by omega⟩,by omega,_,(mh.jC i2 (by omega)).trans (by rw[sq]),_,ai,aF,m2 hI,eT s hs,eT bd dw,λag=>?_,λag=>?_⟩
   · exact⟨by omega,_,(by show _<t;omega),j+1,k,L,ai,_,rfl,⟨rfl,rfl,rfl,rfl,rfl,trivial⟩,rfl,by omega,by omega,by omega,by omega,rK,nR,hx,nQ,ee⟩
   · have cA:bt.storeCells ai b (0+k*1) [(.str z)]=some (ai.set b (some (.cells (L.set k (.str z)) 9 .aR 0 0))):=
       gN nR (Cl _ _) (by rw[show 0+k*1=k by omega];exact G4 _ rfl L k (by omega))
     refine⟨aa,z,(nR.jC i1 (by omega)).trans (by rw[es,aW]),by omega,_,cA,by omega,by omega,_,(by show _<t;omega),j+1,k+1,L.set k (.str z),_,_,rfl,⟨rfl,rfl,rfl,rfl,rfl,trivial⟩,rfl,by omega,by omega,by omega,by omega,by simp;omega,gk rfl,by simpa using hx,?_,Ext.iB k_ ee⟩
     rw[<-aW]
     exact nQ.set k hs
 · exact⟨k,x,_,rfl,rfl,⟨rfl,rfl,trivial⟩,aq,by omega,s_,kx,L,rJ,hx⟩
theorem Z4(m:Nat){B b f:Nat}{h:J}{vs:List I}(aV:List I)(q:Nat->Nat->Bool)(hlen:vs.length<=90000)(k_:B<=b)(hI:j6 aV=true)(eT:∀i (af:i<vs.length),I.sound vs[i]=true)(k1:∀i (af:i<vs.length),∃z:List UInt8,vs[i]=(.str z))(hf:∀i j (af:i<vs.length) (aK:j<vs.length) x,Ext B h x->cZ x.n x (.bool (q i j)) (Y m (.fn f) (vs[i]::vs[j]::aV) x))
  (ae:b<h.n)(aY:iq h b 9 vs):
  ∃w g k,Y (m+1) (.fn 88) [.slice b 0 vs.length (.aR 1),.fn f [] aV] h=.ret w g/\cl Tryz.prog g 63 w=some (.int .i64 (Int.ofNat k))/\(!(List.range vs.length).any (λi=>decide (0<i)&&q i (i-1)))=decide (k=vs.length)/\Ext B h g:=by
 refine Nq m (.slice b 0 vs.length (.aR 1)) f aV h (R:=λx=>∃w g k,x=.ret w g/\cl Tryz.prog g 63 w=some (.int .i64 (Int.ofNat k))/\(!(List.range vs.length).any (λi=>decide (0<i)&&q i (i-1)))=decide (k=vs.length)/\Ext B h g) ⟨vs.length,by rfl,λad=>?_,λad=>?_⟩
 · refine⟨_,h,vs.length,rfl,by rfl,?_,Ext.refl _ _⟩
   rw[s9 (λj aK=>by simp[show¬0<j by omega])];simp
 · replace ad:=Nu ad
   refine a4.loop (by kernel_rfl) (λt st=>∃k x Γ,st=⟨Γ,[],.none,x⟩/\cd [(0,.slice b 0 vs.length (.aR 1)),(1,.fn f [] aV),(5,.int .i64 (Int.ofNat k))] Γ/\vs.length-k=t/\1<=k/\k<=vs.length/\b<x.n/\iq x b 9 vs/\Ext B h x/\∀j,0<j->j<k->q j (j-1)=false) ?_ (vs.length-1) _ (by omega) ⟨1,h,_,rfl,⟨rfl,rfl,rfl,trivial⟩,by omega,by omega,by omega,ae,aY,Ext.refl _ _,λj aK p0=>by omega⟩
   rintro t st ⟨k,x,Γ,rfl,cL,bc,aq,uV,s_,rJ,kx,aJ⟩
   refine a4.pre (Zy (Y m) b _ k f aV x ⟨λaa=>?_,λaa=>?_⟩) cL rfl rfl rfl
   · have aj:=kx.ht (k:=11)
     have mh:iq (x.room 11) b 9 vs:=rJ
     obtain⟨ai,aF,bC⟩:=hf k (k-1) aa (by omega) _ aj
     have ee:=aj.trans (Nat.le_refl _) (bC.le (show B<=(x.room 11).n by simp;omega))
     have pw:b<(x.room 11).n:=by simp;omega
     have nR:iq ai b 9 vs:=(bC.get b pw).trans mh
     have rK:b<ai.n:=Nat.lt_of_lt_of_le pw bC.n
     refine⟨aa,_,mh.jC aa (by omega),⟨by omega,by omega⟩,by omega,_,mh.jC (by omega) (by omega),_,ai,aF,m2 hI,eT k aa,eT (k-1) (by omega),λag=>?_,λag=>?_⟩
     · have s2:c1 Tryz.prog ai 63 (.slice b 0 vs.length (.aR 1)) (some (.int .i64 (Int.ofNat k))) none none=some (.slice b (0+k*1) (vs.length-k) (.aR 1)):=zY (E:=9) (by kernel_rfl) (by kernel_rfl) (by omega) aa
       refine⟨_,_,_,_,s2,?_⟩
       refine a4.mono (Z2 m aV q hlen k_ aq aa hI eT k1 hf rK nR ee ⟨rfl,rfl,rfl,rfl,rfl,trivial⟩) ?_
       rintro b9 cf ⟨bQ,au,cx,rfl,rfl,nS,yL,G7,ec,rC,L,hx,CY⟩
       refine⟨_,_,_,_,bQ,au,cx,rfl,rfl,nS,_,_,_,_,zY (E:=9) (by kernel_rfl) (by kernel_rfl) (by omega) G7,?_⟩
       obtain⟨z,aW⟩:=Option.isSome_iff_exists.1 (show(ev Tryz.prog 9).isSome=true by kernel_rfl)
       have hS:z.cells.length=1/\z.cells.all I.cO=true:=by
        have aa:(ev Tryz.prog 9).map (λz=>z.cells.length)=some 1:=by kernel_rfl
        have ad:(ev Tryz.prog 9).map (λz=>z.cells.all I.cO)=some true:=by kernel_rfl
        rw[aW] at aa ad;exact⟨by simpa using aa,by simpa using ad⟩
       have qw:∀n,(fs n z.cells).length=n/\(fs n z.cells).all I.cO=true:=by
        intro n
        induction n with
        |zero=>exact⟨rfl,rfl⟩
        |succ n bb=>simp only[fs,List.length_append,List.all_append,bb.1,bb.2,hS.1,hS.2];exact⟨by omega,rfl⟩
       obtain⟨lJ,ey,e9⟩:=Ns (fs (vs.length-bQ) z.cells) (qw _).2 L (0+bQ*1) (by rw[(qw _).1,CY];omega)
       have cA:bt.storeCells au b (0+bQ*1) (fs (vs.length-bQ) z.cells)=some (au.set b (some (.cells lJ 9 .aR 0 0))):=gN hx (Cl _ _) ey
       have h9:pI Tryz.prog au 63 (.slice b (0+bQ*1) (vs.length-bQ) (.aR 1))=some (.aO [],au.set b (some (.cells lJ 9 .aR 0 0))):=by
        have hu:Tryz.prog.underlying 63=some (.slice 9):=by kernel_rfl
        simp only[pI,hu,aW,cA]
        rw[if_neg (by omega)]
       refine⟨_,h9,_,CX (E:=9) (by kernel_rfl) (by kernel_rfl) (by omega),.inr ⟨_,_,_,rfl,rfl,⟨rfl,trivial⟩,_,_,bQ,rfl,by rfl,?_,Ext.iB k_ rC⟩⟩
       rw[xg aa (by rw[ag];simp;omega)]
       simp;omega
     · exact⟨by omega,_,(by show _<t;omega),k+1,ai,_,rfl,⟨rfl,rfl,rfl,trivial⟩,rfl,by omega,by omega,rK,nR,ee,λj aK p0=>by
        by_cases e:j=k
        · rw[e];exact ag
        · exact aJ j aK (by omega)⟩
   · refine .inl ⟨_,x,_,rfl,rfl,⟨rfl,trivial⟩,_,_,vs.length,rfl,by rfl,?_,kx⟩
     rw[s9 (λj aK=>?_)]
     · simp
     · by_cases e:0<j
       · rw[aJ j e (by omega),Bool.and_false]
       · simp[e]
theorem Z5(m:Nat){B:Nat}{h:J}{v:I}{vs:List I}(f:Nat)(aV:List I)(w:Nat->a7)(cC:B<=h.n)(aD:c6 B h v vs)(hlen:vs.length<=90000)(hI:j6 aV=true)(eT:∀i (af:i<vs.length),I.sound vs[i]=true)(k1:∀i (af:i<vs.length),∃z:List UInt8,vs[i]=(.str z))(nQ:∀i (af:i<vs.length) x,Ext B h x->cZ x.n x (.str (w i)) (Y m (.fn f) (vs[i]::aV) x)):
  cZ B h (.bool (qv w vs.length)) (Y (m+3) (.fn 68) [v,.fn f [] aV] h):=by
 refine ZC (m+2) v f aV h ?_
 obtain⟨H,cw⟩:∃H,H=h.push (.cells [.fn f [] aV] 114 .own 0 0):=⟨_,rfl⟩
 rw[<-cw]
 have dz:Ext B h H:=by rw[cw];exact Ext.push cC _
 have lK:H.n=h.n+1:=by rw[cw];rfl
 have u_:B<=H.n:=Nat.le_trans cC dz.n
 have q6:H.get h.n=some (.cells [.fn f [] aV] 114 .own 0 0):=by rw[cw];exact fl rfl
 have ky:∀i (af:i<vs.length) x,Ext H.n H x->∃g,Y m (.fn f) (vs[i]::aV) x=.ret (.str (w i)) g/\Ext x.n x g:=λi af x ab=>nQ i af x (dz.trans u_ ab)
 have rL:c6 H.n H v vs:=(aD.bO (fa.ext dz (Nat.le_refl _))).le (Nat.le_trans cC dz.n)
 have fL:∀x,Ext H.n H x->ar x h.n 0=some (.fn f [] aV):=λx ab=>aT ((ab.get h.n (by omega)).trans q6) rfl
 obtain⟨g,aF,bC⟩:=Z0 (m+1) (B:=H.n) (h:=H) (v:=v) (vs:=vs) 87 [.ptr h.n 0] (λi j=>dO (w i) (w j)) rL hlen rfl eT (λi j af aK x ab=>by
  have aj:Ext H.n H (x.room 7):=ab.ht
  obtain⟨ai,aF,bC⟩:=ky i af _ aj
  have hz:Ext H.n H ai:=aj.trans aj.n bC
  obtain⟨au,a6,cS⟩:=ky j aK _ hz
  refine Zw m vs[i] vs[j] h.n f aV x ⟨fL _ aj,_,ai,aF,fL _ hz,_,au,a6,m2 hI,eT i af,m2 hI,fL _ aj,eT j aK,λag=>?_,λag=>?_⟩
  · exact cZ.of (by rw[ag];rfl) ((hz.trans hz.n cS).le (Nat.le_refl _)|> λe=>by have dc:Ext H.n x au:=⟨by have a:=bC.n;have b:=cS.n;simp at a;omega,λb ae=>by rw[(hz.trans hz.n cS).get b ae,ab.get b ae]⟩;exact dc)
  · exact cZ.of (by rw[ag];rfl) ((hz.trans hz.n cS).le (Nat.le_refl _)|> λe=>by have dc:Ext H.n x au:=⟨by have a:=bC.n;have b:=cS.n;simp at a;omega,λb ae=>by rw[(hz.trans hz.n cS).get b ae,ab.get b ae]⟩;exact dc))
 have pt:Ext B h g:=dz.trans u_ bC
 refine⟨rfl,_,g,aF,λhs=>?_,λhs=>?_⟩
 · have kS:vs.all I.cO=true:=by
     rw[List.all_eq_true]
     intro x ab
     obtain⟨i,af,rfl⟩:=List.getElem_of_mem ab
     obtain⟨z,aW⟩:=k1 i af
     rw[aW];rfl
   have G8:c6 H.n g v vs:=rL.bO (fa.ext bC (Nat.le_refl _))
   have fin:∀v2 au b,Y (m+2) (.fn 38) [v] g=.ret v2 au->v2=.slice b 0 vs.length (.aR 1)->H.n<=b->b<au.n->iq au b 9 vs->Ext H.n g au->∃(v2:I) (au:J),Y (m+2) (.fn 38) [v] g=.ret v2 au/\∃(w':I) (ay:J),Y (m+2) (.fn 88) [v2,.fn 89 [] [.ptr h.n 0]] au=.ret w' ay/\∃(k:Nat),cl Tryz.prog ay 63 w'=some (.int .i64 (Int.ofNat k))/\∃(n:Nat),cl Tryz.prog ay 63 v=some (.int .i64 (Int.ofNat n))/\cZ B h (.bool (qv w vs.length)) (.ret (.bool (a8 (Int.ofNat k) (Int.ofNat n))) ay):=by
    intro v2 au b a6 ax ae ec aY cS
    subst ax
    have qx:Ext H.n H au:=bC.trans (Nat.le_refl _) cS
    obtain⟨w',ay,k,dy,c5,bD,dC⟩:=Z4 (m+1) (B:=H.n) (h:=au) (vs:=vs) (f:=89) [.ptr h.n 0] (λi j=>dd (w i) (w j)) hlen ae rfl eT k1 (λi j af aK x ab=>by
     have kx:Ext H.n H x:=qx.trans (Nat.le_refl _) ab
     have aj:Ext H.n H (x.room 8):=kx.ht
     obtain⟨ai,aF,jQ⟩:=ky i af _ aj
     have hz:Ext H.n H ai:=aj.trans aj.n jQ
     obtain⟨au,a6,kp⟩:=ky j aK _ hz
     refine Zx m vs[i] vs[j] h.n f aV x ⟨fL _ aj,_,ai,aF,fL _ hz,_,au,a6,m2 hI,eT i af,m2 hI,fL _ aj,eT j aK,cZ.of rfl ?_⟩
     refine⟨by have a:=jQ.n;have b:=kp.n;simp at a;omega,λb ae=>?_⟩
     have a:=jQ.n
     simp at a
     rw[kp.get b (by omega),jQ.get b (by simp;omega)];rfl) ec aY
    have z0:Ext H.n H ay:=qx.trans (Nat.le_refl _) dC
    have G9:c6 H.n ay v vs:=rL.bO (fa.ext z0 (Nat.le_refl _))
    refine⟨_,au,a6,w',ay,dy,k,c5,vs.length,G9.len (t:=63) (e:=9) (by kernel_rfl),cZ.of (iC ?_) (dz.trans u_ z0)⟩
    rw[NA bD]
    exact Ny w vs.length hs
   rcases G6 (m+1) (B:=H.n) (h:=g) bC.n G8 hlen kS with⟨rfl,rfl,a6⟩|⟨aQ,b,au,a6,ae,ec,aY,cS⟩
   · refine⟨.aS,g,a6,.aS,g,?_,0,by rfl,0,by rfl,cZ.of (iC rfl) pt⟩
     exact Nq (m+1) .aS _ _ g (R:=λx=>x=.ret .aS g) ⟨0,by rfl,λ_=>rfl,λaN=>absurd (by omega) aN⟩
   · exact fin _ au b a6 rfl ae ec aY cS
 · refine cZ.of (iC ?_) pt
   exact Nz w vs.length hs
theorem Z6(m:Nat){B:Nat}{h:J}{v:I}{vs:List I}(cC:B<=h.n)(aD:c6 B h v vs)(hlen:vs.length<=90000)(ag:vs.all I.cO=true):(v=.aS/\vs=[]/\Y (m+1) (.fn 93) [v] h=.ret .aS h)\/(0<vs.length/\∃b an,Y (m+1) (.fn 93) [v] h=.ret (.slice b 0 vs.length (.aR 1)) an/\B<=b/\b<an.n/\iq an b 35 vs/\Ext B h an):=by
 rcases aD with⟨rfl,rfl⟩|⟨b,off,cp,rfl,ae,aw,aQ,ao⟩
 · exact .inl ⟨rfl,rfl,ZQ m h (R:=λx=>x=.ret .aS h) rfl⟩
 · right
   refine⟨aQ,?_⟩
   obtain⟨H,cw⟩:∃H,H=h.push (.cells [] 35 .own 0 0):=⟨_,rfl⟩
   have dz:Ext B h H:=by rw[cw];exact Ext.push cC _
   have lK:H.n=h.n+1:=by rw[cw];rfl
   have fj:=c6.src (B:=B) (h:=H) (λi af=>jh dz ae (aw i af)) aQ ao
   obtain⟨i,af⟩:=Option.isSome_iff_exists.1 (show(Tryz.prog.info? 35).isSome=true by kernel_rfl)
   have bA:i.size=1:=by
    have:(Tryz.prog.info? 35).map (·.size)=some 1:=by kernel_rfl
    rw[af] at this;simpa using this
   have mI:i.bytes<=1000:=by
    have:(Tryz.prog.info? 35).map (λi=>Nat.ble i.bytes 1000)=some true:=by kernel_rfl
    rw[af] at this;exact Nat.le_of_ble_eq_true (by simpa using this)
   obtain⟨z,aW⟩:=Option.isSome_iff_exists.1 (show(ev Tryz.prog 35).isSome=true by kernel_rfl)
   have hS:z.cells.length=1:=by
    have:(ev Tryz.prog 35).map (λz=>z.cells.length)=some 1:=by kernel_rfl
    rw[aW] at this;simpa using this
   have ap:=NB (U:=50) (E:=35) (a:=h.n) (by kernel_rfl) (by kernel_rfl) af bA mI aW hS fj aQ hlen ag (by rw[cw];exact fl rfl)
   refine ZP m b off vs.length cp h (R:=λx=>∃b an,x=.ret (.slice b 0 vs.length (.aR 1)) an/\B<=b/\b<an.n/\iq an b 35 vs/\Ext B h an) ?_
   rw[<-cw]
   exact⟨_,_,ap,_,_,rfl,by omega,by simp,fl rfl,dz.trans (Nat.le_refl _) (Ext.push (Nat.le_trans cC dz.n) _)⟩
theorem Z7(m:Nat){B b K f:Nat}{h:J}{vs:List I}(aV:List I)(q:Nat->Nat->Bool)(hlen:vs.length<=90000)(k_:B<=b)(de:1<=K)(Z3:K<vs.length)(hI:j6 aV=true)(eT:∀i (af:i<vs.length),I.sound vs[i]=true)(k1:∀i (af:i<vs.length),∃z:Nat,vs[i]=(.ptr z 0))(hf:∀i j (af:i<vs.length) (aK:j<vs.length) x,Ext B h x->cZ x.n x (.bool (q i j)) (Y m (.fn f) (vs[i]::vs[j]::aV) x))
  {g:J}(ae:b<g.n)(aY:iq g b 35 vs)(ab:Ext B h g){Γ:Env}(cL:cd [(0,.slice b 0 vs.length (.aR 1)),(1,.fn f [] aV),(5,.int .i64 (Int.ofNat K)),(6,.slice b (0+K*1) (vs.length-K) (.aR 1)),(7,.int .i64 (Int.ofNat 1))] Γ):
  a4 Tryz.prog Tryz.f92 (Y m) [1,1,0,1,0,0,1,0,0,1,0,1,0,1,0] ⟨Γ,[],.none,g⟩ (λb9 cf=>∃(bQ:Nat) (au:J) (cx:Env),b9=.exit 2/\cf=⟨cx,[],.none,au⟩/\cd [(0,.slice b 0 vs.length (.aR 1)),(5,.int .i64 (Int.ofNat bQ))] cx/\K<=bQ/\bQ<vs.length/\b<au.n/\Ext B h au/\∃L,iq au b 35 L/\L.length=vs.length):=by
 refine a4.loop (by kernel_rfl) (λt st=>∃j k L x Γ,st=⟨Γ,[],.none,x⟩/\cd [(0,.slice b 0 vs.length (.aR 1)),(1,.fn f [] aV),(5,.int .i64 (Int.ofNat k)),(6,.slice b (0+K*1) (vs.length-K) (.aR 1)),(7,.int .i64 (Int.ofNat j))] Γ/\(vs.length-K)-j=t/\1<=j/\j<=vs.length-K/\K<=k/\k+1<=K+j/\b<x.n/\iq x b 35 L/\L.length=vs.length/\zZ L vs/\Ext B h x) ?_ (vs.length-K-1) _ (by omega) ⟨1,K,vs,g,Γ,rfl,cL,by omega,by omega,by omega,by omega,by omega,ae,aY,rfl,λi af=>⟨i,af,rfl⟩,ab⟩
 rintro t st ⟨j,k,L,x,Γ,rfl,cL,bc,aK,Eh,aq,E9,s_,rJ,hx,nQ,kx⟩
 refine a4.pre (ZO (Y m) b _ k f (0+K*1) _ j aV x ⟨λaa=>?_,λaa=>?_⟩) cL rfl rfl rfl
 · have aj:=kx.ht (k:=12)
   have mh:iq (x.room 12) b 35 L:=rJ
   have i1:K+j<L.length:=by omega
   have i2:K+j-1<L.length:=by omega
   obtain⟨s,hs,es⟩:=nQ (K+j) i1
   obtain⟨bd,dw,sq⟩:=nQ (K+j-1) i2
   obtain⟨ai,aF,bC⟩:=hf s bd hs dw _ aj
   have ee:=aj.trans (Nat.le_refl _) (bC.le (show B<=(x.room 12).n by simp;omega))
   have pw:b<(x.room 12).n:=by simp;omega
   have nR:iq ai b 35 L:=(bC.get b pw).trans mh
   have rK:b<ai.n:=Nat.lt_of_lt_of_le pw bC.n
   obtain⟨z,aW⟩:=k1 s hs
   refine⟨aa,_,(mh.jC i1 (by omega)).trans (by rw[es]),⟨by omega,by omega⟩,by omega,_,(mh.jC i2 (by omega)).trans (by rw[sq]),_,ai,aF,m2 hI,eT s hs,eT bd dw,λag=>?_,λag=>?_⟩
   · exact⟨by omega,_,(by show _<t;omega),j+1,k,L,ai,_,rfl,⟨rfl,rfl,rfl,rfl,rfl,trivial⟩,rfl,by omega,by omega,by omega,by omega,rK,nR,hx,nQ,ee⟩
   · have cA:bt.storeCells ai b (0+k*1) [(.ptr z 0)]=some (ai.set b (some (.cells (L.set k (.ptr z 0)) 35 .aR 0 0))):=
       gN nR (Cl _ _) (by rw[show 0+k*1=k by omega];exact G4 _ rfl L k (by omega))
     refine⟨aa,z,(nR.jC i1 (by omega)).trans (by rw[es,aW]),by omega,_,cA,by omega,by omega,_,(by show _<t;omega),j+1,k+1,L.set k (.ptr z 0),_,_,rfl,⟨rfl,rfl,rfl,rfl,rfl,trivial⟩,rfl,by omega,by omega,by omega,by omega,by simp;omega,gk rfl,by simpa using hx,?_,Ext.iB k_ ee⟩
     rw[<-aW]
     exact nQ.set k hs
 · exact⟨k,x,_,rfl,rfl,⟨rfl,rfl,trivial⟩,aq,by omega,s_,kx,L,rJ,hx⟩
theorem Z8(m:Nat){B b f:Nat}{h:J}{vs:List I}(aV:List I)(q:Nat->Nat->Bool)(hlen:vs.length<=90000)(k_:B<=b)(hI:j6 aV=true)(eT:∀i (af:i<vs.length),I.sound vs[i]=true)(k1:∀i (af:i<vs.length),∃z:Nat,vs[i]=(.ptr z 0))(hf:∀i j (af:i<vs.length) (aK:j<vs.length) x,Ext B h x->cZ x.n x (.bool (q i j)) (Y m (.fn f) (vs[i]::vs[j]::aV) x))
  (ae:b<h.n)(aY:iq h b 35 vs):
  ∃w g k,Y (m+1) (.fn 92) [.slice b 0 vs.length (.aR 1),.fn f [] aV] h=.ret w g/\cl Tryz.prog g 50 w=some (.int .i64 (Int.ofNat k))/\(!(List.range vs.length).any (λi=>decide (0<i)&&q i (i-1)))=decide (k=vs.length)/\Ext B h g:=by
 refine Nr m (.slice b 0 vs.length (.aR 1)) f aV h (R:=λx=>∃w g k,x=.ret w g/\cl Tryz.prog g 50 w=some (.int .i64 (Int.ofNat k))/\(!(List.range vs.length).any (λi=>decide (0<i)&&q i (i-1)))=decide (k=vs.length)/\Ext B h g) ⟨vs.length,by rfl,λad=>?_,λad=>?_⟩
 · refine⟨_,h,vs.length,rfl,by rfl,?_,Ext.refl _ _⟩
   rw[s9 (λj aK=>by simp[show¬0<j by omega])];simp
 · replace ad:=Nu ad
   refine a4.loop (by kernel_rfl) (λt st=>∃k x Γ,st=⟨Γ,[],.none,x⟩/\cd [(0,.slice b 0 vs.length (.aR 1)),(1,.fn f [] aV),(5,.int .i64 (Int.ofNat k))] Γ/\vs.length-k=t/\1<=k/\k<=vs.length/\b<x.n/\iq x b 35 vs/\Ext B h x/\∀j,0<j->j<k->q j (j-1)=false) ?_ (vs.length-1) _ (by omega) ⟨1,h,_,rfl,⟨rfl,rfl,rfl,trivial⟩,by omega,by omega,by omega,ae,aY,Ext.refl _ _,λj aK p0=>by omega⟩
   rintro t st ⟨k,x,Γ,rfl,cL,bc,aq,uV,s_,rJ,kx,aJ⟩
   refine a4.pre (ZN (Y m) b _ k f aV x ⟨λaa=>?_,λaa=>?_⟩) cL rfl rfl rfl
   · have aj:=kx.ht (k:=11)
     have mh:iq (x.room 11) b 35 vs:=rJ
     obtain⟨ai,aF,bC⟩:=hf k (k-1) aa (by omega) _ aj
     have ee:=aj.trans (Nat.le_refl _) (bC.le (show B<=(x.room 11).n by simp;omega))
     have pw:b<(x.room 11).n:=by simp;omega
     have nR:iq ai b 35 vs:=(bC.get b pw).trans mh
     have rK:b<ai.n:=Nat.lt_of_lt_of_le pw bC.n
     refine⟨aa,_,mh.jC aa (by omega),⟨by omega,by omega⟩,by omega,_,mh.jC (by omega) (by omega),_,ai,aF,m2 hI,eT k aa,eT (k-1) (by omega),λag=>?_,λag=>?_⟩
     · have s2:c1 Tryz.prog ai 50 (.slice b 0 vs.length (.aR 1)) (some (.int .i64 (Int.ofNat k))) none none=some (.slice b (0+k*1) (vs.length-k) (.aR 1)):=zY (E:=35) (by kernel_rfl) (by kernel_rfl) (by omega) aa
       refine⟨_,_,_,_,s2,?_⟩
       refine a4.mono (Z7 m aV q hlen k_ aq aa hI eT k1 hf rK nR ee ⟨rfl,rfl,rfl,rfl,rfl,trivial⟩) ?_
       rintro b9 cf ⟨bQ,au,cx,rfl,rfl,nS,yL,G7,ec,rC,L,hx,CY⟩
       refine⟨_,_,_,_,bQ,au,cx,rfl,rfl,nS,_,_,_,_,zY (E:=35) (by kernel_rfl) (by kernel_rfl) (by omega) G7,?_⟩
       obtain⟨z,aW⟩:=Option.isSome_iff_exists.1 (show(ev Tryz.prog 35).isSome=true by kernel_rfl)
       have hS:z.cells.length=1/\z.cells.all I.cO=true:=by
        have aa:(ev Tryz.prog 35).map (λz=>z.cells.length)=some 1:=by kernel_rfl
        have ad:(ev Tryz.prog 35).map (λz=>z.cells.all I.cO)=some true:=by kernel_rfl
        rw[aW] at aa ad;exact⟨by simpa using aa,by simpa using ad⟩
       have qw:∀n,(fs n z.cells).length=n/\(fs n z.cells).all I.cO=true:=by
        intro n
        induction n with
        |zero=>exact⟨rfl,rfl⟩
        |succ n bb=>simp only[fs,List.length_append,List.all_append,bb.1,bb.2,hS.1,hS.2];exact⟨by omega,rfl⟩
       obtain⟨lJ,ey,e9⟩:=Ns (fs (vs.length-bQ) z.cells) (qw _).2 L (0+bQ*1) (by rw[(qw _).1,CY];omega)
       have cA:bt.storeCells au b (0+bQ*1) (fs (vs.length-bQ) z.cells)=some (au.set b (some (.cells lJ 35 .aR 0 0))):=gN hx (Cl _ _) ey
       have h9:pI Tryz.prog au 50 (.slice b (0+bQ*1) (vs.length-bQ) (.aR 1))=some (.aO [],au.set b (some (.cells lJ 35 .aR 0 0))):=by
        have hu:Tryz.prog.underlying 50=some (.slice 35):=by kernel_rfl
        simp only[pI,hu,aW,cA]
        rw[if_neg (by omega)]
       refine⟨_,h9,_,CX (E:=35) (by kernel_rfl) (by kernel_rfl) (by omega),.inr ⟨_,_,_,rfl,rfl,⟨rfl,trivial⟩,_,_,bQ,rfl,by rfl,?_,Ext.iB k_ rC⟩⟩
       rw[xg aa (by rw[ag];simp;omega)]
       simp;omega
     · exact⟨by omega,_,(by show _<t;omega),k+1,ai,_,rfl,⟨rfl,rfl,rfl,trivial⟩,rfl,by omega,by omega,rK,nR,ee,λj aK p0=>by
        by_cases e:j=k
        · rw[e];exact ag
        · exact aJ j aK (by omega)⟩
   · refine .inl ⟨_,x,_,rfl,rfl,⟨rfl,trivial⟩,_,_,vs.length,rfl,by rfl,?_,kx⟩
     rw[s9 (λj aK=>?_)]
     · simp
     · by_cases e:0<j
       · rw[aJ j e (by omega),Bool.and_false]
       · simp[e]
theorem Z9(m:Nat){B:Nat}{h:J}{v:I}{vs:List I}(f:Nat)(aV:List I)(w:Nat->a7)(cC:B<=h.n)(aD:c6 B h v vs)(hlen:vs.length<=90000)(hI:j6 aV=true)(eT:∀i (af:i<vs.length),I.sound vs[i]=true)(k1:∀i (af:i<vs.length),∃z:Nat,vs[i]=(.ptr z 0))(nQ:∀i (af:i<vs.length) x,Ext B h x->cZ x.n x (.str (w i)) (Y m (.fn f) (vs[i]::aV) x)):
  cZ B h (.bool (qv w vs.length)) (Y (m+3) (.fn 71) [v,.fn f [] aV] h):=by
 refine ZR (m+2) v f aV h ?_
 obtain⟨H,cw⟩:∃H,H=h.push (.cells [.fn f [] aV] 116 .own 0 0):=⟨_,rfl⟩
 rw[<-cw]
 have dz:Ext B h H:=by rw[cw];exact Ext.push cC _
 have lK:H.n=h.n+1:=by rw[cw];rfl
 have u_:B<=H.n:=Nat.le_trans cC dz.n
 have q6:H.get h.n=some (.cells [.fn f [] aV] 116 .own 0 0):=by rw[cw];exact fl rfl
 have ky:∀i (af:i<vs.length) x,Ext H.n H x->∃g,Y m (.fn f) (vs[i]::aV) x=.ret (.str (w i)) g/\Ext x.n x g:=λi af x ab=>nQ i af x (dz.trans u_ ab)
 have rL:c6 H.n H v vs:=(aD.bO (fa.ext dz (Nat.le_refl _))).le (Nat.le_trans cC dz.n)
 have fL:∀x,Ext H.n H x->ar x h.n 0=some (.fn f [] aV):=λx ab=>aT ((ab.get h.n (by omega)).trans q6) rfl
 obtain⟨g,aF,bC⟩:=Z1 (m+1) (B:=H.n) (h:=H) (v:=v) (vs:=vs) 91 [.ptr h.n 0] (λi j=>dO (w i) (w j)) rL hlen rfl eT (λi j af aK x ab=>by
  have aj:Ext H.n H (x.room 7):=ab.ht
  obtain⟨ai,aF,bC⟩:=ky i af _ aj
  have hz:Ext H.n H ai:=aj.trans aj.n bC
  obtain⟨au,a6,cS⟩:=ky j aK _ hz
  refine ZL m vs[i] vs[j] h.n f aV x ⟨fL _ aj,_,ai,aF,fL _ hz,_,au,a6,m2 hI,eT i af,m2 hI,fL _ aj,eT j aK,λag=>?_,λag=>?_⟩
  · exact cZ.of (by rw[ag];rfl) ((hz.trans hz.n cS).le (Nat.le_refl _)|> λe=>by have dc:Ext H.n x au:=⟨by have a:=bC.n;have b:=cS.n;simp at a;omega,λb ae=>by rw[(hz.trans hz.n cS).get b ae,ab.get b ae]⟩;exact dc)
  · exact cZ.of (by rw[ag];rfl) ((hz.trans hz.n cS).le (Nat.le_refl _)|> λe=>by have dc:Ext H.n x au:=⟨by have a:=bC.n;have b:=cS.n;simp at a;omega,λb ae=>by rw[(hz.trans hz.n cS).get b ae,ab.get b ae]⟩;exact dc))
 have pt:Ext B h g:=dz.trans u_ bC
 refine⟨rfl,_,g,aF,λhs=>?_,λhs=>?_⟩
 · have kS:vs.all I.cO=true:=by
     rw[List.all_eq_true]
     intro x ab
     obtain⟨i,af,rfl⟩:=List.getElem_of_mem ab
     obtain⟨z,aW⟩:=k1 i af
     rw[aW];rfl
   have G8:c6 H.n g v vs:=rL.bO (fa.ext bC (Nat.le_refl _))
   have fin:∀v2 au b,Y (m+2) (.fn 93) [v] g=.ret v2 au->v2=.slice b 0 vs.length (.aR 1)->H.n<=b->b<au.n->iq au b 35 vs->Ext H.n g au->∃(v2:I) (au:J),Y (m+2) (.fn 93) [v] g=.ret v2 au/\∃(w':I) (ay:J),Y (m+2) (.fn 92) [v2,.fn 94 [] [.ptr h.n 0]] au=.ret w' ay/\∃(k:Nat),cl Tryz.prog ay 50 w'=some (.int .i64 (Int.ofNat k))/\∃(n:Nat),cl Tryz.prog ay 50 v=some (.int .i64 (Int.ofNat n))/\cZ B h (.bool (qv w vs.length)) (.ret (.bool (a8 (Int.ofNat k) (Int.ofNat n))) ay):=by
    intro v2 au b a6 ax ae ec aY cS
    subst ax
    have qx:Ext H.n H au:=bC.trans (Nat.le_refl _) cS
    obtain⟨w',ay,k,dy,c5,bD,dC⟩:=Z8 (m+1) (B:=H.n) (h:=au) (vs:=vs) (f:=94) [.ptr h.n 0] (λi j=>dd (w i) (w j)) hlen ae rfl eT k1 (λi j af aK x ab=>by
     have kx:Ext H.n H x:=qx.trans (Nat.le_refl _) ab
     have aj:Ext H.n H (x.room 8):=kx.ht
     obtain⟨ai,aF,jQ⟩:=ky i af _ aj
     have hz:Ext H.n H ai:=aj.trans aj.n jQ
     obtain⟨au,a6,kp⟩:=ky j aK _ hz
     refine ZM m vs[i] vs[j] h.n f aV x ⟨fL _ aj,_,ai,aF,fL _ hz,_,au,a6,m2 hI,eT i af,m2 hI,fL _ aj,eT j aK,cZ.of rfl ?_⟩
     refine⟨by have a:=jQ.n;have b:=kp.n;simp at a;omega,λb ae=>?_⟩
     have a:=jQ.n
     simp at a
     rw[kp.get b (by omega),jQ.get b (by simp;omega)];rfl) ec aY
    have z0:Ext H.n H ay:=qx.trans (Nat.le_refl _) dC
    have G9:c6 H.n ay v vs:=rL.bO (fa.ext z0 (Nat.le_refl _))
    refine⟨_,au,a6,w',ay,dy,k,c5,vs.length,G9.len (t:=50) (e:=35) (by kernel_rfl),cZ.of (iC ?_) (dz.trans u_ z0)⟩
    rw[NA bD]
    exact Ny w vs.length hs
   rcases Z6 (m+1) (B:=H.n) (h:=g) bC.n G8 hlen kS with⟨rfl,rfl,a6⟩|⟨aQ,b,au,a6,ae,ec,aY,cS⟩
   · refine⟨.aS,g,a6,.aS,g,?_,0,by rfl,0,by rfl,cZ.of (iC rfl) pt⟩
     exact Nr (m+1) .aS _ _ g (R:=λx=>x=.ret .aS g) ⟨0,by rfl,λ_=>rfl,λaN=>absurd (by omega) aN⟩
   · exact fin _ au b a6 rfl ae ec aY cS
 · refine cZ.of (iC ?_) pt
   exact Nz w vs.length hs
end Go.Proofs.jk
