/-
  PROVED HERE: contracts of functions (Tx). No condition beside each statement's own.
-/
import Derived.Test.YtokgebablggccaaGreatDoorSxb
set_option linter.unusedVariables false
set_option linter.unusedSimpArgs false
namespace aJ
open Go
variable {G:Env}{a:Acc}{args env l:List aa}{d:List cc}{g:Operand->aa}{gd:Option (Acc×Bool)}{h:I}{loc:List (Nat×Acc)}{m n:Nat}{o:Oper}{op:BinOp}{ops:Array Oper}{r:bf}{s:DStep}{t:TypeId}{v:aa}
inductive Stop(lh:String):Prop
inductive du where
 |mk (p:Prop)
def du.p:du->Prop
 |.mk p=>p
abbrev bad(w:String):du:=.mk (Stop w)
abbrev hn(p:Prop)(k:du):du:=.mk (p/\k.p)
abbrev ic{α:Type}(f:α->du):du:=.mk (∃x:α,(f x).p)
abbrev C7(c c':Prop)(a b:du):du:=.mk ((c->a.p)/\(c'->b.p))
inductive aR where
 |v (a:aa)
 |o (a:aa)
 |l7|ju
 |lt (i n:Nat)|le (i n:Nat)|eq (i n:Nat)
 |cQ (s:aR)
 |mE (l:List aR)
 |lP (l:List aR)
def aR.m_:aR->Bool
 |.l7=>true
 |.ju=>false
 |.lt i n=>jZ (.ofNat i) (.ofNat n)
 |.le i n=>mo (.ofNat i) (.ofNat n)
 |.eq i n=>jM (.ofNat i) (.ofNat n)
 |.cQ s=>!s.m_
 |.v (.bool b)=>b
 |_=>false
def aR.yy:aR->Bool
 |.l7|.ju|.lt _ _|.le _ _|.eq _ _|.cQ _=>true
 |.v (.bool _)=>true
 |_=>false
mutual
def aR.den:aR->aa
 |.v a=>a
 |.o a=>a
 |.l7=>.bool true
 |.ju=>.bool false
 |.lt i n=>.bool (jZ (.ofNat i) (.ofNat n))
 |.le i n=>.bool (mo (.ofNat i) (.ofNat n))
 |.eq i n=>.bool (jM (.ofNat i) (.ofNat n))
 |.cQ s=>.bool (!s.m_)
 |.mE l=>.agg (aR.b8 l)
 |.lP l=>.aF (aR.b8 l)
def aR.b8:List aR->List aa
 |[]=>[]
 |s::l=>s.den::aR.b8 l
end
def oz:aa->aR
 |.bool true=>.l7
 |.bool false=>.ju
 |v=>.v v
abbrev dK:=List (Nat×aR)
def ds:dK->Env
 |[]=>[]
 |(t,s)::l=>(t,s.den)::ds l
def yz(t:Nat):dK->Option aR
 |[]=>none
 |(u,s)::l=>match Nat.beq t u with
  |true=>some s
  |false=>yz t l
def yA:Nat->List aR->Option aR
 |_,[]=>none
 |0,s::_=>some s
 |n+1,_::l=>yA n l
def yB:Nat->aR->List aR->List aR
 |_,_,[]=>[]
 |0,x,_::l=>x::l
 |n+1,x,s::l=>s::yB n x l
def Gu(t:Nat)(x:aR):dK->dK
 |[]=>[]
 |(u,s)::l=>match Nat.beq t u with
  |true=>(u,x)::l
  |false=>(u,s)::Gu t x l
def mF(m:Nat)(env:List aR)(av:dK):Acc->Option aR
 |.env j=>match Nat.blt j m with
  |true=>yA (m-1-j) env
  |false=>none
 |.o3 p=>yz p.num av
 |.val v=>some (oz v)
def AL(m:Nat)(a:Acc)(b:aR)(env:List aR):List aR:=match a with
 |.env j=>yB (m-1-j) b env
 |_=>env
def yC(a:Acc)(b:aR)(av:dK):dK:=match a with
 |.o3 p=>Gu p.num b av
 |_=>av
def aR.pr(s:aR)(K:aR->du):du:=match s with
 |.v a=>K (.v a)
 |.o a=>K (.o a)
 |.l7=>K .l7
 |.ju=>K .ju
 |.lt i n=>K (.lt i n)
 |.le i n=>K (.le i n)
 |.eq i n=>K (.eq i n)
 |.cQ s=>K (.cQ s)
 |.mE l=>K (.mE l)
 |.lP l=>K (.lP l)
def wK:List aR->(List aR->du)->du
 |[],K=>K []
 |s::l,K=>s.pr λs=>wK l λl=>K (s::l)
def rm:dK->(dK->du)->du
 |[],K=>K []
 |(t,s)::l,K=>s.pr λs=>rm l λl=>K ((t,s)::l)
inductive mG where
 |ty (t:TypeId)
 |is (v:aa)|io (v:aa)
 |z (k:IntKind)
 |n (k:IntKind)
 |o
 |p|QI
 |st|b
 |kk|Kn (c:dn)
 |lP (l:List mG)|mE (l:List mG)
 |QJ (t:TypeId) (s:mG)
 |fn (f:Nat) (k:Nat)
inductive tB where
 |ep (s:mG)
 |t|f
 |p (s:mG)
 |e (r:Option mG) (s:mG)
 |ho (ins:List Nat) (outs:List (cl×List (Nat×mG)))
def Ko:List aR->List aR
 |[]=>[]
 |.mE l::r=>l++Ko r
 |s::r=>s::Ko r
abbrev l8:=List (Nat×tB)
def yD(k:Nat):l8->Option tB
 |[]=>none
 |(j,o)::l=>match Nat.beq k j with
  |true=>some o
  |false=>yD k l
mutual
def shape(P:Program):Nat->mG->(aR->du)->du
 |0,_,_=>bad "shape"
 |n+1,s,K=>match s with
  |.is v=>K (oz v)
  |.io v=>K (.o v)
  |.z k=>ic λx:Int=>K (.o (.int k x))
  |.n k=>ic λx:Nat=>K (.v (.int k (.ofNat x)))
  |.o=>ic λx:aa=>K (.o x)
  |.p=>ic λx:Nat=>K (.v (.ptr x 0))
  |.QI=>ic λx:Nat=>ic λy:Nat=>K (.v (.ptr x y))
  |.st=>ic λx:List UInt8=>K (.v (.str x))
  |.b=>ic λx:Bool=>K (.v (.bool x))
  |.kk=>ic λx:Nat=>ic λy:Nat=>ic λz:Nat=>ic λc:dn=>K (.v (.slice x y z c))
  |.Kn c=>ic λx:Nat=>ic λz:Nat=>K (.v (.slice x 0 z c))
  |.lP l=>wL P n l λr=>K (.lP r)
  |.mE l=>wL P n l λr=>K (.mE r)
  |.QJ t s=>shape P n s λx=>K (.v (.iface t x.den))
  |.fn f k=>ic λx:List aa=>K (.v (.fn f [] x))
  |.ty t=>match P.underlying t with
   |some .bool=>ic λx:Bool=>K (.v (.bool x))
   |some (.int k)=>ic λx:Nat=>K (.v (.int k (.ofNat x)))
   |some .string=>ic λx:List UInt8=>K (.v (.str x))
   |some (.pointer _)=>ic λx:Nat=>K (.v (.ptr x 0))
   |some (.struct dh)=>wL P n (dh.toList.map λf=>.ty f.type) λr=>K (.mE (Ko r))
   |some (.tuple bl)=>wL P n (bl.toList.map .ty) λr=>K (.lP r)
   |some .invalid=>K (.v (.aF []))
   |some _=>ic λx:aa=>K (.o x)
   |none=>K (.v (.aF []))
def wL(P:Program):Nat->List mG->(List aR->du)->du
 |0,_,_=>bad "shapes"
 |n+1,l,K=>match l with
  |[]=>K []
  |s::l=>shape P n s λx=>wL P n l λr=>K (x::r)
end
def aR.jh(fM:Option Bool)(A B:du):aR->du
 |.l7=>A
 |.ju=>B
 |.lt i n=>match fM with
  |none=>C7 (i<n) (¬i<n) A B
  |some true=>hn (i<n) A
  |some false=>hn (¬i<n) B
 |.le i n=>match fM with
  |none=>C7 (i<=n) (¬i<=n) A B
  |some true=>hn (i<=n) A
  |some false=>hn (¬i<=n) B
 |.eq i n=>match fM with
  |none=>C7 (i=n) (¬i=n) A B
  |some true=>hn (i=n) A
  |some false=>hn (¬i=n) B
 |.cQ s=>s.jh (match fM with|none=>none|some b=>some (!b)) B A
 |.v (.bool x)=>match fM with
  |none=>C7 (x=true) (x=false) A B
  |some true=>hn (x=true) A
  |some false=>hn (x=false) B
 |_=>bad "choice"
def Gv(o:Option tB):Option Bool:=match o with
 |some .t=>some true
 |some .f=>some false
 |_=>none
def Kp(o:Option tB)(t:TypeId):mG:=match o with
 |some (.ep s)=>s
 |_=>.ty t
def Kq(op:BinOp)(x y:aR):Option aR:=match x,y with
 |.v (.int k (.ofNat a)),.v (.int k' (.ofNat b))=>match decide (k=k') with
  |true=>match op with
   |.lss=>some (.lt a b)
   |.leq=>some (.le a b)
   |.gtr=>some (.lt b a)
   |.geq=>some (.le b a)
   |.eql=>some (.eq a b)
   |.neq=>some (.cQ (.eq a b))
   |_=>none
  |false=>none
 |_,_=>none
def Kr(op:BinOp)(x y:aR):Option (Prop×aa):=match x,y with
 |.v (.int k (.ofNat a)),.v (.int k' (.ofNat b))=>match decide (k=k'),op,k with
  |true,.add,.i64=>some (a+b<9223372036854775808,.int .i64 (.ofNat (a+b)))
  |true,.sub,.i64=>some (b<=a/\a<9223372036854775808,.int .i64 (.ofNat (a-b)))
  |true,.mul,.i64=>some (a*b<9223372036854775808,.int .i64 (.ofNat (a*b)))
  |true,.add,.u64=>some (a+b<18446744073709551616,.int .u64 (.ofNat (a+b)))
  |true,.sub,.u64=>some (b<=a/\a<18446744073709551616,.int .u64 (.ofNat (a-b)))
  |_,_,_=>none
 |.v (.str a),.v (.str b)=>match op with
  |.add=>some (a.length+b.length<=1000000000000,.str (a++b))
  |_=>none
 |_,_=>none
def yE:aR->List aa
 |.o a=>[a]
 |s=>s.den.cells
def yF:List aR->du->du
 |[],K=>K
 |.o a::l,K=>hn (a.dJ=true) (yF l K)
 |_::l,K=>yF l K
def yG:List aR->Bool
 |[]=>true
 |.o _::l=>yG l
 |s::l=>s.den.dJ&&yG l
def AM(s:aR)(K:du):du:=match s with
 |.o a=>hn (a.dJ=true) K
 |.mE l=>match yG l with
  |true=>yF l K
  |false=>bad "cells"
 |s=>match s.den.cells.all aa.dJ with
  |true=>K
  |false=>bad "cells"
def qi:aR->List aR
 |.mE l=>l
 |.v (.agg cs)=>cs.map oz
 |s=>[s]
def aR.Ks:aR->Bool
 |.o _=>true
 |_=>false
def yH(place:Nat->Option (Nat×Nat)):List aR->List (Nat×aR)->Option (List aR)
 |cells,[]=>some cells
 |cells,(i,s)::rest=>match place i with
  |none=>none
  |some (off,size)=>match Nat.beq (qi s).length size&&Nat.ble (off+size) cells.length with
   |true=>yH place (cells.take off++qi s++(cells.drop off).drop (qi s).length) rest
   |false=>none
def rn:List (Nat×aR)->List aR
 |[]=>[]
 |(_,s)::l=>qi s++rn l
def Gw(P:Program)(t:TypeId)(len:Nat)(ps:List (Nat×aR))(K:TypeId->List aR->du):du:=match P.underlying t with
 |some (.slice e)=>match eg P e,gu P e with
  |some sz,some z=>match Nat.ble (len*sz) 16777216&&Nat.beq z.cells.length sz,(if len*sz=0 then[] else iW len z.cells).all aa.dJ,yH (λi=>some (i*sz,sz)) ((if len*sz=0 then[] else iW len z.cells).map oz) ps,yG (rn ps) with
   |true,true,some cs,true=>yF (rn ps) (wK cs λcs=>K e cs)
   |_,_,_,_=>bad "buildSlice"
  |_,_=>bad "buildSlice"
 |_=>bad "buildSlice"
def wM(a b:Bool):Bool:=a==b
def Kt(P:Program)(op:BinOp)(t:TypeId)(x y:aR):Option aR:=match x.yy&&y.yy,P.underlying t,op with
 |true,some .bool,.eql=>some (.v (.bool (wM x.m_ y.m_)))
 |true,some .bool,.neq=>some (.cQ (.v (.bool (wM x.m_ y.m_))))
 |_,_,_=>none
def aai(x y:aR):Bool:=match x,y with
 |.v (.ptr _ _),.v .au|.v .au,.v .au|.v (.slice _ _ _ _),.v .ao|.v .ao,.v .ao|.v (.iface _ _),.v .c3|.v .c3,.v .c3=>true
 |_,_=>false
section
variable (P:Program) (inR:Bool) (call:e0)
abbrev tC:=aR->List cc->cm->I->du
abbrev tD:=aa->List cc->cm->I->du
def Gx(fM:Option tB)(t:TypeId)(f:ht)(args:List aa)(d:List cc)(q:cm)(h:I)(K:tC)(eV:tD):du:=match fM with
 |some (.p s)=>shape P 14 s λx=>ic λg:I=>hn (call f args h=.aK x.den g) (eV x.den d q g)
 |some (.e r s)=>.mk ((shape P 14 (match r with|some r=>r|none=>.ty t) λx=>ic λg:I=>hn (call f args h=.ret x.den g) (K x d q g)).p\/(shape P 9 s λx=>ic λg:I=>hn (call f args h=.aK x.den g) (eV x.den d q g)).p)
 |fM=>shape P 14 (Kp fM t) λx=>ic λg:I=>hn (call f args h=.ret x.den g) (K x d q g)
def uH(fM:Option tB)(o:Oper)(g:Operand->aR)(d:List cc)(q:cm)(h:I)(K:tC)(eV:tD):du:=
 match JU o (λx=>(g x).den) with
 |0=>match dg P o (λx=>(g x).den) h with
  |.val v ay=>match fM with
   |some (.ep .o)=>K (.o v) d q ay
   |_=>K (.v v) d q ay
  |.aK v ay=>eV v d q ay
  |.call f args ay=>Gx P call fM o.type (.fn f) args d q ay K eV
  |.gJ l args ay=>Gx P call fM o.type (.gJ l) args d q ay K eV
  |.vF x=>match inR with
   |true=>bad "defer"
   |false=>K (.v (.aF [])) (x::d) q h
  |.xA=>match inR with
   |true=>bad "recover"
   |false=>match q with
    |.none=>K (.v .c3) d .none h
    |.done v=>K (.v .c3) d (.done v) h
    |.act v=>K (.v v) d (.done v) h
  |.fail w=>bad w
 |1=>shape P 14 (Kp fM o.type) λx=>hn (nJ P o (λy=>(g y).den) h x.den) (K x d q h)
 |_=>shape P 14 (Kp fM o.type) λx=>ic λay:I=>hn (As P o (λy=>(g y).den) h x.den ay) (K x d q ay)
def Ku(fM:Option tB)(o:Oper)(g:Operand->aR)(d:List cc)(q:cm)(h:I)(K:tC)(eV:tD):du:=match o.op with
 |.move x|.assign x=>(g x).pr λs=>K s d q h
 |.unOp .not _ x=>match(g x).yy with
  |true=>(g x).pr λs=>K (.cQ s) d q h
  |false=>bad "not"
 |.binOp op t x y _=>(g x).pr λu=>(g y).pr λw=>match(match Kq op u w with|some s=>some s|none=>Kt P op t u w) with
  |some s=>K s d q h
  |none=>match aai u w with
   |true=>match hs P h op t x y u.den w.den with
    |some v=>(oz v).pr λs=>K s d q h
    |none=>bad "nil"
   |false=>match(match fM with|none=>Kr op u w|some _=>none) with
    |some (p,v)=>hn p (K (.v v) d q h)
    |none=>uH P inR call fM o g d q h K eV
 |.extract x i=>match g x with
  |.lP l=>match yA i l with
   |some s=>s.pr λs=>K s d q h
   |none=>bad "extract"
  |_=>uH P inR call fM o g d q h K eV
 |.indexAddr t x i=>match P.underlying t,g x,hS (g i).den with
  |some (.array m e),.v (.ptr b off),some n=>match eg P e with
   |some sz=>hn (n<m) (K (.v (.ptr b (off+n*sz))) d q h)
   |none=>bad "indexAddr"
  |some (.slice e),.v (.slice b off m c),some n=>match eg P e with
   |some sz=>hn (n<m) (K (.v (.ptr b (off+n*sz))) d q h)
   |none=>bad "indexAddr"
  |_,_,_=>bad "indexAddr of what"
 |.store t a x=>match(g a).den,eg P t with
  |.ptr b off,some n=>match Nat.beq (yE (g x)).length n with
   |true=>(g x).pr λs=>AM s (ic λfT:I=>hn (storeCells h b off (yE s)=some fT) (K (.v (.aF [])) d q fT))
   |false=>bad "store size"
  |_,_=>bad "store"
 |.build t parts=>match(rn (parts.toList.map λp=>(p.1,g p.2))).any aR.Ks with
  |false=>uH P inR call fM o g d q h K eV
  |true=>match gu P t,P.underlying t with
   |some z,some (.struct dh)=>match dh.toList.all (λf=>(eg P f.type).isSome),yH (λi=>(dh[i]?).map λf=>(f.offset,P.cellsOf f.type)) (z.cells.map oz) (parts.toList.map λp=>(p.1,g p.2)),yG (rn (parts.toList.map λp=>(p.1,g p.2))) with
    |true,some cs,true=>yF (rn (parts.toList.map λp=>(p.1,g p.2))) (wK cs λcs=>K (.mE cs) d q h)
    |_,_,_=>bad "build"
   |_,_=>bad "build of what"
 |.buildSlice t len parts=>match(rn (parts.toList.map λp=>(p.1,g p.2))).any aR.Ks with
  |false=>uH P inR call fM o g d q h K eV
  |true=>Gw P t len (parts.toList.map λp=>(p.1,g p.2)) λe cs=>K (.v (.slice h.n 0 len (.exact len))) d q (h.push (.cells (aR.b8 cs) e .own 0 0))
 |.box e x=>(g x).pr λs=>AM s (K (.v (.ptr h.n 0)) d q (h.push (.cells (yE s) e .own 0 0)))
 |.call c=>match c.callee with
  |.builtin .len=>match c.args.toList.map g,c.argTypes[0]? with
   |[.o a],some t=>ic λn:Nat=>hn (o2 P h t a=some (.int .i64 (.ofNat n))) (K (.v (.int .i64 (.ofNat n))) d q h)
   |_,_=>uH P inR call fM o g d q h K eV
  |_=>uH P inR call fM o g d q h K eV
 |_=>uH P inR call fM o g d q h K eV
end
theorem aR.tE{s:aR}(h:s.yy=true):s.den=.bool s.m_:=by
 cases s with
 |v a=>cases a<;>first|rfl|cases h
 |o a=>cases h
 |mE l=>cases h
 |lP l=>cases h
 |l7=>rfl
 |ju=>rfl
 |lt i n=>rfl
 |le i n=>rfl
 |eq i n=>rfl
 |cQ s=>rfl
theorem C8(a:aa):(oz a).den=a:=by
 unfold oz;split<;>rfl
theorem Kv:∀(n:Nat) (l:List aR),(yA n l).map aR.den=nth n (aR.b8 l)
 |0,[]=>rfl
 |_+1,[]=>rfl
 |0,x::l=>rfl
 |n+1,x::l=>Kv n l
theorem QK(n:Nat)(l:List aR)(s:aR)(h:yA n l=some s):nth n (aR.b8 l)=some s.den:=by
 rw[<-Kv,h];rfl
theorem QL(t:Nat):∀av:dK,(yz t av).map aR.den=gk t (ds av)
 |[]=>rfl
 |(u,x)::l=>by
  simp only[yz,ds,gk]
  cases ag:Nat.beq t u with
  |true=>rfl
  |false=>exact QL t l
def iS(m:Nat)(l:List aa)(G:Env):Acc->Option aa
 |.env j=>match Nat.blt j m with
  |true=>nth (m-1-j) l
  |false=>none
 |.o3 p=>gk p.num G
 |.val v=>some v
theorem yI(m:Nat)(env:List aR)(av:dK)(a:Acc):(mF m env av a).map aR.den=iS m (aR.b8 env) (ds av) a:=by
 cases a with
 |env j=>
  simp only[mF,iS]
  cases Nat.blt j m with
  |true=>exact Kv _ _
  |false=>rfl
 |o3 p=>exact QL _ _
 |val v=>simp only[mF,iS,Option.map_some,C8]
theorem yJ(hm:Mod r G)(h:iS m l G a=some v):ed m l r a=v:=by
 cases a with
 |env j=>
  simp only[iS] at h
  split at h
  · simp only[ed,h,Option.getD_some]
  · cases h
 |o3 p=>simp only[iS] at h;simp only[ed];rw[<-Qd p];exact hm _ _ h
 |val x=>cases h;rfl
theorem C9(x:aa)(h:iS m l G a=some v):iS (m+1) (x::l) G a=some v:=by
 cases a with
 |env j=>
  simp only[iS] at h⊢
  split at h
  · rename_i ag
    have aL:j<m:=by simpa using ag
    have en:Nat.blt j (m+1)=true:=by simp;omega
    rw[en]
    have:m+1-1-j=(m-1-j)+1:=by omega
    rw[this];exact h
  · cases h
 |o3 p=>exact h
 |val x=>exact h
theorem QM(x:aR):∀(n:Nat) (l:List aR),(∀s,yA n l=some s->s.den=x.den)->aR.b8 (yB n x l)=aR.b8 l
 |0,[],_=>rfl
 |_+1,[],_=>rfl
 |0,s::l,h=>by simp only[yB,aR.b8,h s rfl]
 |n+1,s::l,h=>by simp only[yB,aR.b8];rw[QM x n l h]
theorem QN(x:aR):∀(n:Nat) (l:List aR),(yB n x l).length=l.length
 |0,[]=>rfl
 |_+1,[]=>rfl
 |0,s::l=>rfl
 |n+1,s::l=>by simp only[yB,List.length_cons,QN x n l]
theorem QO(t:Nat)(x:aR):∀av:dK,(∀s,yz t av=some s->s.den=x.den)->ds (Gu t x av)=ds av
 |[],_=>rfl
 |(u,s)::l,h=>by
  simp only[Gu]
  simp only[yz] at h
  cases ag:Nat.beq t u with
  |true=>rw[ag] at h;simp only[ds,h s rfl]
  |false=>rw[ag] at h;simp only[ds];rw[QO t x l h]
theorem AN{env:List aR}{av:dK}{s x:aR}(h:mF m env av a=some s)(e:s.den=x.den):aR.b8 (AL m a x env)=aR.b8 env/\ds (yC a x av)=ds av/\(AL m a x env).length=env.length:=by
 cases a with
 |env j=>
  simp only[mF] at h
  split at h
  · exact⟨QM x _ _ λbF ah=>by rw[h] at ah;cases ah;exact e,rfl,QN _ _ _⟩
  · cases h
 |o3 p=>exact⟨rfl,QO _ _ _ λbF ah=>by rw[show yz p.num av=some s from h] at ah;cases ah;exact e,rfl⟩
 |val v=>exact⟨rfl,rfl,rfl⟩
theorem aR.pt{s:aR}{K:aR->du}(h:(s.pr K).p):(K s).p:=by cases s<;>exact h
theorem yK:∀{l:List aR} {K:List aR->du},(wK l K).p->(K l).p
 |[],_,h=>h
 |s::l,K,h=>yK (l:=l) (aR.pt h)
theorem sq:∀{l:dK} {K:dK->du},(rm l K).p->(K l).p
 |[],_,h=>h
 |(t,s)::l,K,h=>sq (l:=l) (aR.pt h)
theorem QP{P:Program}:∀(n:Nat),(∀(s:mG) (K:aR->du),(shape P n s K).p->∃x,(K x).p)/\(∀(l:List mG) (K:List aR->du),(wL P n l K).p->∃x,(K x).p)
 |0=>⟨λs K h=>(by simp only[shape] at h;cases h),λl K h=>(by simp only[wL] at h;cases h)⟩
 |n+1=>by
  obtain⟨J,ae⟩:=QP (P:=P) n
  refine⟨λs K h=>?_,λl K h=>?_⟩
  · simp only[shape] at h
    cases s with
    |is v=>exact⟨_,h⟩
    |io v=>exact⟨_,h⟩
    |z k=>obtain⟨x,h⟩:=h;exact⟨_,h⟩
    |n k=>obtain⟨x,h⟩:=h;exact⟨_,h⟩
    |o=>obtain⟨x,h⟩:=h;exact⟨_,h⟩
    |p=>obtain⟨x,h⟩:=h;exact⟨_,h⟩
    |QI=>obtain⟨x,y,h⟩:=h;exact⟨_,h⟩
    |st=>obtain⟨x,h⟩:=h;exact⟨_,h⟩
    |b=>obtain⟨x,h⟩:=h;exact⟨_,h⟩
    |kk=>obtain⟨x,y,z,c,h⟩:=h;exact⟨_,h⟩
    |Kn c=>obtain⟨x,z,h⟩:=h;exact⟨_,h⟩
    |lP l=>obtain⟨r,h⟩:=ae _ _ h;exact⟨_,h⟩
    |mE l=>obtain⟨r,h⟩:=ae _ _ h;exact⟨_,h⟩
    |QJ t s=>obtain⟨r,h⟩:=J _ _ h;exact⟨_,h⟩
    |fn f k=>obtain⟨x,h⟩:=h;exact⟨_,h⟩
    |ty t=>
     simp only at h
     split at h
     · obtain⟨x,h⟩:=h;exact⟨_,h⟩
     · obtain⟨x,h⟩:=h;exact⟨_,h⟩
     · obtain⟨x,h⟩:=h;exact⟨_,h⟩
     · obtain⟨x,h⟩:=h;exact⟨_,h⟩
     · obtain⟨r,h⟩:=ae _ _ h;exact⟨_,h⟩
     · obtain⟨r,h⟩:=ae _ _ h;exact⟨_,h⟩
     · exact⟨_,h⟩
     · obtain⟨x,h⟩:=h;exact⟨_,h⟩
     · exact⟨_,h⟩
  · simp only[wL] at h
    cases l with
    |nil=>exact⟨_,h⟩
    |cons s l=>
     obtain⟨x,h⟩:=J _ _ h
     obtain⟨r,h⟩:=ae _ _ h
     exact⟨_,h⟩
theorem yL{P:Program}{s:mG}{K:aR->du}(h:(shape P n s K).p):∃x,(K x).p:=(QP n).1 s K h
theorem Kw{p:Prop}{A B:du}{fM:Option Bool}(h:(match fM with
  |none=>C7 p (¬p) A B
  |some true=>hn p A
  |some false=>hn (¬p) B).p):(p/\A.p)\/(¬p/\B.p):=by
 cases fM with
 |none=>by_cases a3:p
        · exact .inl ⟨a3,h.1 a3⟩
        · exact .inr ⟨a3,h.2 a3⟩
 |some b=>cases b with
  |true=>exact .inl h
  |false=>exact .inr h
theorem Gy:∀(s:aR) {fM:Option Bool} {A B:du},(s.jh fM A B).p->s.yy=true/\((s.m_=true/\A.p)\/(s.m_=false/\B.p))
 |.l7,_,_,_,h=>⟨rfl,.inl ⟨rfl,h⟩⟩
 |.ju,_,_,_,h=>⟨rfl,.inr ⟨rfl,h⟩⟩
 |.lt i n,fM,A,B,h=>by
  refine⟨rfl,?_⟩
  rcases Kw (p:=i<n) h with⟨J,ae⟩|⟨J,ae⟩
  · exact .inl ⟨ib J,ae⟩
  · exact .inr ⟨iR J,ae⟩
 |.le i n,fM,A,B,h=>by
  refine⟨rfl,?_⟩
  rcases Kw (p:=i<=n) h with⟨J,ae⟩|⟨J,ae⟩
  · exact .inl ⟨mD J,ae⟩
  · exact .inr ⟨l6 J,ae⟩
 |.eq i n,fM,A,B,h=>by
  refine⟨rfl,?_⟩
  rcases Kw (p:=i=n) h with⟨J,ae⟩|⟨J,ae⟩
  · exact .inl ⟨lO J,ae⟩
  · exact .inr ⟨fU J,ae⟩
 |.cQ s,fM,A,B,h=>by
  refine⟨rfl,?_⟩
  simp only[aR.jh] at h
  obtain⟨_,ae⟩:=Gy s h
  simp only[aR.m_]
  rcases ae with⟨e,k⟩|⟨e,k⟩
  · right;exact⟨by rw[e];rfl,k⟩
  · left;exact⟨by rw[e];rfl,k⟩
 |.v a,fM,A,B,h=>by
  cases a<;>simp only[aR.jh] at h<;>first|(cases h;done)|skip
  rename_i x
  refine⟨rfl,?_⟩
  simp only[aR.m_]
  cases x with
  |true=>left;refine⟨rfl,?_⟩;cases fM with
   |none=>exact h.1 rfl
   |some b=>cases b with
    |true=>exact h.2
    |false=>cases h.1
  |false=>right;refine⟨rfl,?_⟩;cases fM with
   |none=>exact h.2 rfl
   |some b=>cases b with
    |true=>cases h.1
    |false=>exact h.2
 |.o a,_,_,_,h=>by simp only[aR.jh] at h;cases h
 |.mE l,_,_,_,h=>by simp only[aR.jh] at h;cases h
 |.lP l,_,_,_,h=>by simp only[aR.jh] at h;cases h
section
variable {P:Program} {inR:Bool} {call:e0}
def j4(x:BP)(K:tC)(eV:tD):Prop:=(∃s d q h,x=.ok (aR.den s) d q h/\(K s d q h).p)\/∃v d q h,x=.aK v d q h/\(eV v d q h).p
theorem j4.val{q:cm}{ay:I}{K:tC}{eV:tD}{s:aR}(e:dg P o g h=.val s.den ay)(k:(K s d q ay).p):j4 (e4 P inR call none o g d q h) K eV:=
 .inl ⟨s,d,q,ay,by simp only[e4,fj,e],k⟩
theorem C_{K:du}:∀(l:List aR),yG l=true->(yF l K).p->(aR.b8 l).all aa.dJ=true/\K.p
 |[],_,h=>⟨rfl,h⟩
 |x::l,ai,h=>by
  cases x with
  |o a=>
   obtain⟨J,ae⟩:=h
   obtain⟨aO,aZ⟩:=C_ l ai ae
   exact⟨by simp only[aR.b8,List.all_cons,aR.den,J,aO,Bool.and_self],aZ⟩
  |_=>
   simp only[yG,Bool.and_eq_true] at ai
   simp only[yF] at h
   obtain⟨aO,aZ⟩:=C_ l ai.2 h
   exact⟨by simp only[aR.b8,List.all_cons,ai.1,aO,Bool.and_self],aZ⟩
theorem Kx{s:aR}{K:du}(h:(AM s K).p):s.den.cells=yE s/\(yE s).all aa.dJ=true/\K.p:=by
 cases s with
 |o a=>
  obtain⟨J,ae⟩:=h
  refine⟨?_,by simp[yE,J],ae⟩
  show a.cells=[a]
  cases a<;>first|rfl|cases J
 |mE l=>
  simp only[AM] at h
  split at h
  · rename_i ai;exact⟨rfl,C_ l ai h⟩
  · cases h
 |_=>
  simp only[AM] at h
  split at h
  · rename_i ai;exact⟨rfl,ai,h⟩
  · cases h
theorem oA:∀l:List aR,aR.b8 l=l.map aR.den
 |[]=>rfl
 |s::l=>by simp only[aR.b8,List.map_cons,oA l]
theorem aaj{s:aR}(h:(aR.b8 (qi s)).all aa.dJ=true):s.den.cells=aR.b8 (qi s)/\s.den≠ .bad:=by
 have one:∀a:aa,a.dJ=true->a.cells=[a]/\a≠ .bad:=λa a_=>by cases a<;>first|(cases a_;done)|exact⟨rfl,λh=>by cases h⟩
 have key:qi s=[s]->s.den.cells=aR.b8 (qi s)/\s.den≠ .bad:=λe=>by
  rw[e] at h⊢
  simp only[aR.b8,List.all_cons,List.all_nil,Bool.and_true] at h⊢
  exact one _ h
 cases s with
 |mE l=>exact⟨rfl,nofun⟩
 |v a=>
  cases a with
  |agg cs=>
   refine⟨?_,nofun⟩
   show cs=aR.b8 (cs.map oz)
   rw[oA,List.map_map]
   have:aR.den∘oz=id:=funext C8
   rw[this,List.map_id]
  |_=>exact key rfl
 |_=>exact key rfl
theorem aak{place:Nat->Option (Nat×Nat)}{cells:List aa}{i:Nat}{rest:List (Nat×aa)}{off size:Nat}(aW:v≠ .bad)(a3:place i=some (off,size))(ag:(Nat.beq v.cells.length size&&Nat.ble (off+size) cells.length)=true){cs:List aa}(ak:gK off v.cells cells=some cs):lZ place cells ((i,v)::rest)=lZ place cs rest:=by
 cases v<;>first|exact absurd rfl aW|simp only[lZ,a3,ag,ak]
theorem Ky{place:Nat->Option (Nat×Nat)}:∀(ps:List (Nat×aR)) (cells cs:List aR),yH place cells ps=some cs->(aR.b8 (rn ps)).all aa.dJ=true->lZ place (aR.b8 cells) (ps.map λp=>(p.1,p.2.den))=some (aR.b8 cs)
 |[],cells,cs,h,_=>by cases h;rfl
 |(i,s)::rest,cells,cs,h,a_=>by
  simp only[rn,oA,List.map_append,List.all_append,Bool.and_eq_true] at a_
  rw[<-oA,<-oA] at a_
  obtain⟨aO,aZ⟩:=aaj a_.1
  simp only[yH] at h
  split at h
  · cases h
  · rename_i off size a3
    split at h
    · rename_i ag
      have aA:(aR.b8 (qi s)).length=(qi s).length:=by rw[oA,List.length_map]
      have ak:(aR.b8 cells).length=cells.length:=by rw[oA,List.length_map]
      have en:=ag
      simp only[Bool.and_eq_true,Nat.ble_eq] at en
      have bQ:=Nat.eq_of_beq_eq_true en.1
      have B6:gK off s.den.cells (aR.b8 cells)=some (aR.b8 (cells.take off++qi s++(cells.drop off).drop (qi s).length)):=by
       have:=Gk ((aR.b8 cells).take off) (aR.b8 (qi s)) ((aR.b8 cells).drop off) a_.1 (by simp;omega)
       rw[List.length_take,Nat.min_eq_left (by omega),List.take_append_drop] at this
       rw[aO,this,aA]
       simp only[oA,List.map_append,List.map_take,List.map_drop,List.append_assoc]
      rw[List.map_cons,aak aZ a3 (by rw[aO,aA,ak];exact ag) B6]
      exact Ky rest _ cs h a_.2
    · cases h
theorem QQ{place:Nat->Option (Nat×Nat)}:∀(ps:List (Nat×aR)) (cells cs:List aR),yH place cells ps=some cs->(aR.b8 cells).all aa.dJ=true->(aR.b8 (rn ps)).all aa.dJ=true->(aR.b8 cs).all aa.dJ=true
 |[],cells,cs,h,ak,_=>by cases h;exact ak
 |(i,s)::rest,cells,cs,h,ak,a_=>by
  simp only[rn,oA,List.map_append,List.all_append,Bool.and_eq_true] at a_
  rw[<-oA,<-oA] at a_
  simp only[yH] at h
  split at h
  · cases h
  · split at h
    · refine QQ rest _ cs h ?_ a_.2
      rw[oA] at ak⊢
      rw[List.all_eq_true] at ak⊢
      have J:=a_.1
      rw[oA,List.all_eq_true] at J
      intro x ab
      rw[List.map_append,List.map_append,List.mem_append,List.mem_append] at ab
      rcases ab with(ab|ab)|ab
      · rw[List.map_take] at ab;exact ak x (List.mem_of_mem_take ab)
      · exact J x ab
      · rw[List.map_drop,List.map_drop] at ab;exact ak x (List.mem_of_mem_drop (List.mem_of_mem_drop ab))
    · cases h
theorem QR{len:Nat}{ps:List (Nat×aR)}{K:TypeId->List aR->du}(h:(Gw P t len ps K).p):∃e sz z cs,P.underlying t=some (.slice e)/\eg P e=some sz/\gu P e=some z/\(Nat.ble (len*sz) 16777216&&Nat.beq z.cells.length sz)=true/\lZ (λi=>some (i*sz,sz)) (if len*sz=0 then[] else iW len z.cells) (ps.map λp=>(p.1,p.2.den))=some (aR.b8 cs)/\(aR.b8 cs).all aa.dJ=true/\(K e cs).p:=by
 unfold Gw at h
 split at h
 · rename_i e hu
   split at h
   · rename_i sz z ah bm
     split at h
     · rename_i cs J ae aq aQ
       obtain⟨c8,k⟩:=C_ _ aQ h
       have c_:aR.b8 ((if len*sz=0 then[] else iW len z.cells).map oz)=(if len*sz=0 then[] else iW len z.cells):=by rw[oA,List.map_map,show aR.den∘oz=id from funext C8,List.map_id]
       have aM:=Ky _ _ _ aq c8
       have ak:=QQ _ _ _ aq (by rw[c_];exact ae) c8
       rw[c_] at aM
       exact⟨e,sz,z,cs,hu,ah,bm,J,aM,ak,yK k⟩
     · cases h
   · cases h
 · cases h
theorem QS{g:Operand->aR}(parts:Array (Nat×Operand)):(parts.toList.map λp=>(p.1,g p.2)).map (λp=>(p.1,p.2.den))=parts.toList.map λp=>(p.1,(g p.2).den):=by
 rw[List.map_map];rfl
theorem QT{fM:Option tB}{f:ht}{q:cm}{K:tC}{eV:tD}(ab:(Gx P call fM t f args d q h K eV).p):j4 (BQ d q (call f args h)) K eV:=by
 unfold Gx at ab
 split at ab
 · obtain⟨x,g,e,k⟩:=yL ab
   rw[e];exact .inr ⟨_,_,_,_,rfl,k⟩
 · rcases ab with ab|ab
   · obtain⟨x,g,e,k⟩:=yL ab
     rw[e];exact .inl ⟨_,_,_,_,rfl,k⟩
   · obtain⟨x,g,e,k⟩:=yL ab
     rw[e];exact .inr ⟨_,_,_,_,rfl,k⟩
 · obtain⟨x,g,e,k⟩:=yL ab
   rw[e];exact .inl ⟨_,_,_,_,rfl,k⟩
theorem yM{fM:Option tB}{g:Operand->aR}{q:cm}{K:tC}{eV:tD}(ab:(uH P inR call fM o g d q h K eV).p):j4 (e4 P inR call none o (λx=>(g x).den) d q h) K eV:=by
 unfold uH at ab
 split at ab
 · split at ab
   · rename_i v ay he
     split at ab
     · exact j4.val (s:=.o v) he ab
     · exact j4.val (s:=.v v) he ab
   · rename_i v ay he
     exact .inr ⟨v,d,q,ay,by simp only[e4,fj,he],ab⟩
   · rename_i f args ay he
     have:=QT ab
     simpa only[e4,fj,he] using this
   · rename_i l args ay he
     have:=QT ab
     simpa only[e4,fj,he] using this
   · rename_i x he
     split at ab
     · cases ab
     · exact .inl ⟨.v (.aF []),_,_,_,by simp only[e4,fj,he];rfl,ab⟩
   · rename_i he
     split at ab
     · cases ab
     · split at ab
       · exact .inl ⟨.v .c3,_,_,_,by simp only[e4,fj,he];rfl,ab⟩
       · exact .inl ⟨.v .c3,_,_,_,by simp only[e4,fj,he];rfl,ab⟩
       · rename_i v
         exact .inl ⟨.v v,_,_,_,by simp only[e4,fj,he];rfl,ab⟩
   · cases ab
 · obtain⟨x,c,k⟩:=yL ab
   exact j4.val (wF c) k
 · obtain⟨x,ay,c,k⟩:=yL ab
   exact j4.val (J4 c) k
theorem aal{x y s:aR}(ab:Kq op x y=some s)(h:I)(t:TypeId)(a b:Operand):hs P h op t a b x.den y.den=some s.den:=by
 unfold Kq at ab
 split at ab
 · rename_i k a6 k' jb
   split at ab
   · rename_i ai
     obtain rfl:k=k':=of_decide_eq_true ai
     split at ab<;>first|(cases ab;done)|(cases ab;simp only[aR.den,hs,arith,if_true,aR.m_])
   · cases ab
 · cases ab
theorem aam{x y s:aR}(ab:Kt P op t x y=some s)(h:I)(a b:Operand):hs P h op t a b x.den y.den=some s.den:=by
 unfold Kt at ab
 split at ab
 · rename_i ag hu
   rw[Bool.and_eq_true] at ag
   cases ab
   rw[aR.tE ag.1,aR.tE ag.2]
   simp only[hs,vG,if_true,kg,hu,aR.den,wM]
 · rename_i ag hu
   rw[Bool.and_eq_true] at ag
   cases ab
   rw[aR.tE ag.1,aR.tE ag.2]
   simp only[hs,vG,if_true,kg,hu,aR.den,aR.m_,wM]
 · cases ab
theorem aan{x y:aR}{p:Prop}(ab:Kr op x y=some (p,v))(a3:p)(h:I)(t:TypeId)(a b:Operand):hs P h op t a b x.den y.den=some v:=by
 unfold Kr at ab
 split at ab
 · rename_i k a6 k' jb
   split at ab
   · rename_i ai;cases ab;obtain rfl:=of_decide_eq_true ai
     simp only[aR.den,hs,if_true];exact nL a3
   · rename_i ai;cases ab;obtain rfl:=of_decide_eq_true ai
     simp only[aR.den,hs,if_true];exact AD a3.1 a3.2
   · rename_i ai;cases ab;obtain rfl:=of_decide_eq_true ai
     simp only[aR.den,hs,if_true];exact Qw a3
   · rename_i ai;cases ab;obtain rfl:=of_decide_eq_true ai
     simp only[aR.den,hs,if_true];exact Z1 a3
   · rename_i ai;cases ab;obtain rfl:=of_decide_eq_true ai
     simp only[aR.den,hs,if_true];exact Z2 a3.1 a3.2
   · cases ab
 · split at ab
   · cases ab
     simp only[aR.den,hs];exact ZW a3
   · cases ab
 · cases ab
theorem aao{fM:Option tB}{g:Operand->aR}{q:cm}{K:tC}{eV:tD}(ab:(Ku P inR call fM o g d q h K eV).p):j4 (e4 P inR call none o (λx=>(g x).den) d q h) K eV:=by
 unfold Ku at ab
 split at ab
 · rename_i x bg
   exact j4.val (s:=g x) (by simp only[dg,bg]) (aR.pt ab)
 · rename_i x bg
   exact j4.val (s:=g x) (by simp only[dg,bg]) (aR.pt ab)
 · rename_i t x bg
   split at ab
   · rename_i ag
     exact j4.val (s:=.cQ (g x)) (by simp only[dg,bg,aR.tE ag];rfl) (aR.pt ab)
   · cases ab
 · rename_i op t x y yt bg
   replace ab:=aR.pt (aR.pt ab)
   have key:∀{s:aR},hs P h op t x y (g x).den (g y).den=some s.den->(K s d q h).p->j4 (e4 P inR call none o (λx=>(g x).den) d q h) K eV:=λ{s} e k=>j4.val (s:=s) (by simp only[dg,bg,e,hv]) k
   split at ab
   · rename_i s ah
     split at ah
     · rename_i bF e3;cases ah;exact key (aal e3 h t x y) ab
     · exact key (aam ah h x y) ab
   · split at ab
     · split at ab
       · rename_i v aW;exact key (s:=oz v) (by rw[C8];exact aW) (aR.pt ab)
       · cases ab
     · split at ab
       · rename_i p v a3
         cases fM with
         |none=>exact key (s:=.v v) (aan a3 ab.1 h t x y) ab.2
         |some _=>cases a3
       · exact yM ab
 · rename_i x i bg
   split at ab
   · rename_i l aA
     split at ab
     · rename_i s ah
       exact j4.val (s:=s) (by simp only[dg,bg,aA,aR.den,QK _ _ _ ah,hv]) (aR.pt ab)
     · cases ab
   · exact yM ab
 · rename_i t x i bg
   split at ab
   · rename_i m e b off n hu m5 hi
     split at ab
     · rename_i sz bm
       exact j4.val (s:=.v (.ptr b (off+n*sz))) (by simp only[dg,bg,hu,m5,aR.den,hi,bm,if_pos ab.1]) ab.2
     · cases ab
   · rename_i e b off m c n hu m5 hi
     split at ab
     · rename_i sz bm
       exact j4.val (s:=.v (.ptr b (off+n*sz))) (by simp only[dg,bg,hu,m5,aR.den,hi,bm,if_pos ab.1]) ab.2
     · cases ab
   · cases ab
 · rename_i t a x bg
   split at ab
   · rename_i b off n Da bm
     split at ab
     · rename_i aA
       obtain⟨aG,aE,fT,br,k⟩:=Kx (aR.pt ab)
       have ak:As P o (λy=>(g y).den) h (.aF []) fT:=by
        unfold As
        rw[bg]
        simp only[Da]
        rw[aG]
        exact⟨by rw[bm,Nat.eq_of_beq_eq_true aA],br,trivial⟩
       exact j4.val (s:=.v (.aF [])) (J4 ak) k
     · cases ab
   · cases ab
 · rename_i t parts bg
   split at ab
   · exact yM ab
   · split at ab
     · rename_i z dh bm hu
       split at ab
       · rename_i cs J ae aq
         obtain⟨c8,k⟩:=C_ _ aq ab
         have aM:=Ky _ _ _ ae c8
         rw[show aR.b8 (z.cells.map oz)=z.cells by rw[oA,List.map_map,show aR.den∘oz=id from funext C8,List.map_id],List.map_map] at aM
         exact j4.val (s:=.mE cs) (by simp only[dg,bg,bm,hu,J];exact by rw[show(parts.toList.map λp=>(p.1,(g p.2).den))=parts.toList.map ((λp=>(p.1,aR.den p.2))∘ λp=>(p.1,g p.2)) from rfl,aM];rfl) (yK k)
       · cases ab
     · cases ab
 · rename_i t len parts bg
   split at ab
   · exact yM ab
   · obtain⟨e,sz,z,cs,hu,ah,bm,J,aM,ak,k⟩:=QR ab
     rw[QS] at aM
     exact j4.val (s:=.v (.slice h.n 0 len (.exact len))) (by simp only[dg,bg,hu,ah,bm,J,aM,newRow,ak];rfl) k
 · rename_i e x bg
   obtain⟨aG,aE,k⟩:=Kx (aR.pt ab)
   exact j4.val (s:=.v (.ptr h.n 0)) (by simp only[dg,bg,newRow,aG,aE];rfl) k
 · rename_i c bg
   split at ab
   · rename_i ll
     split at ab
     · rename_i a t a_ aI
       obtain⟨n,e,k⟩:=ab
       have je:c.args.toList.map (λy=>(g y).den)=[a]:=by
        have:(c.args.toList.map g).map aR.den=[a]:=by rw[a_];rfl
        rw[List.map_map] at this;exact this
       have ak:nJ P o (λy=>(g y).den) h (.int .i64 (.ofNat n)):=by
        unfold nJ
        rw[bg]
        simp only[ll,je,aI]
        exact e
       exact j4.val (s:=.v (.int .i64 (.ofNat n))) (wF ak) k
     · exact yM ab
   · exact yM ab
 · exact yM ab
end
def keyOf(kp i:Nat)(o:Oper):Nat:=match o.dst with
 |some t=>t
 |none=>3000+50*kp+i
section
variable (P:Program) (need:Nat)
def nN(m:Nat)(env:List aR)(av:dK)(loc:List (Nat×Acc))(x:Operand):aR:=match mF m env av (c7 P need loc x) with
 |some s=>s
 |none=>.v .bad
def Gz(m:Nat)(env:List aR)(av:dK)(loc:List (Nat×Acc))(o:Oper):Bool:=o.op.operands.toList.all λx=>(mF m env av (c7 P need loc x)).isSome
def GA(fM:Option Bool)(gd:Option (Acc×Bool))(m:Nat)(env:List aR)(av:dK)(AO AP:List aR->dK->du):du:=match gd with
 |none=>AO env av
 |some (a,b)=>match mF m env av a with
  |none=>bad "guard"
  |some s=>match s with
   |.v (.aF [])=>AP env av
   |s=>s.jh fM (wK (AL m a .l7 env) λenv=>rm (yC a .l7 av) λav=>(match b with|true=>AO env av|false=>AP env av)) (wK (AL m a .ju env) λenv=>rm (yC a .ju av) λav=>(match b with|true=>AP env av|false=>AO env av))
variable (inR:Bool) (call:e0)
def Db(pl:l8)(key m:Nat)(env:List aR)(av:dK)(loc:List (Nat×Acc))(o:Oper)(d:List cc)(q:cm)(h:I)(K:List aR->dK->tC)(eV:dK->tD):du:=match o.op with
 |.pick c a b=>match mF m env av (c7 P need loc c) with
  |none=>bad "pick"
  |some s=>s.jh (Gv (yD (2000+key) pl)) (wK (AL m (c7 P need loc c) .l7 env) λgV=>rm (yC (c7 P need loc c) .l7 av) λew=>(nN P need m env av loc a).pr λx=>K gV ew x d q h) (wK (AL m (c7 P need loc c) .ju env) λgV=>rm (yC (c7 P need loc c) .ju av) λew=>(nN P need m env av loc b).pr λx=>K gV ew x d q h)
 |_=>Ku P inR call (yD key pl) o (nN P need m env av loc) d q h (K env av) (eV av)
def Dc(pl:l8)(kp:Nat):List Step->List aR->dK->List cc->cm->I->(List aR->dK->List cc->cm->I->du)->(aa->dK->List cc->cm->I->du)->du
 |[],env,av,d,q,h,K,_=>K env av d q h
 |s::rest,env,av,d,q,h,K,eV=>match Gz P need s.m env av s.loc s.o with
  |false=>bad ("an operand " ++s.o.pos)
  |true=>GA (Gv (yD (1000+keyOf kp s.m s.o) pl)) s.guard s.m env av
   (λenv av=>Db P need inR call pl (keyOf kp s.m s.o) s.m env av s.loc s.o d q h (λenv av v d q h=>Dc pl kp rest (v::env) av d q h K eV) (λav v d q h=>eV v av d q h))
   (λenv av=>Dc pl kp rest (.v (.aF [])::env) av d q h K eV)
def yN(t:Nat):dK->dK
 |[]=>[]
 |(u,s)::l=>match Nat.beq t u with
  |true=>yN t l
  |false=>(u,s)::yN t l
def yO(m:Nat)(env:List aR)(ia:dK):List (Nat×Acc)->dK->dK
 |[],av=>av
 |(t,a)::l,av=>match Nat.testBit need t with
  |true=>match mF m env ia a with
   |some s=>(t,s)::yN t (yO m env ia l av)
   |none=>yN t (yO m env ia l av)
  |false=>yO m env ia l av
def Dd:List (Nat×Acc)->dK->dK
 |[],av=>av
 |(t,_)::l,av=>yN t (Dd l av)
abbrev qj:=List (Nat×Nat×I×Nat)
def kq:qj->ri
 |[]=>[]
 |(e,m,h,_)::l=>(e,m,h)::kq l
def GB(o:Oper)(g:Operand->aR):Bool:=match o.op with
 |.move _|.assign _|.pick .. |.build .. |.nilCheck _|.makeInterface .. |.makeFunc .. |.fieldAddr .. |.field .. |.indexAddr .. |.index .. |.extract .. |.typeAssert .. =>true
 |.unOp .. =>true
 |.binOp _ _ x y _=>match g x,g y with
  |.v (.int _ _),.v (.int _ _)=>true
  |.v (.str _),.v (.str _)=>true
  |x,y=>x.yy&&y.yy
 |.call c=>match c.callee with
  |.builtin .len=>match c.argTypes[0]? with
   |some t=>match P.underlying t with
    |some (.slice _)=>true
    |some .string=>true
    |_=>false
   |none=>false
  |_=>false
 |_=>false
def AQ:List aR->du->du
 |[],K=>K
 |.o a::l,K=>hn (a.sound=true) (AQ l K)
 |s::l,K=>match s.den.sound with
  |true=>AQ l K
  |false=>bad "sound"
def Kz:aR->du->du
 |.o a,K=>hn (a.sound=true) K
 |.l7,K|.ju,K|.lt _ _,K|.le _ _,K|.eq _ _,K|.cQ _,K=>K
 |.v a,K=>match a.sound with
  |true=>K
  |false=>bad "sound"
 |.mE l,K=>AQ l K
 |.lP l,K=>match tv (aR.b8 l) with
  |true=>K
  |false=>bad "sound"
def AR(s:DStep)(hd:Nat):Option Nat->I->Nat->qj->List (Option (I×Option Nat))
 |nx,h,c1,bp=>
  (match uE s nx (kq bp) with
   |true=>[]
   |false=>[match Nat.beq c1 hd with|true=>none|false=>some (h,nx)])++
  (match bp with
   |[]=>[]
   |(e,_,ay,nO)::rest=>AR s hd (some e) ay nO rest)
def KA(ops:Array Oper)(n:Nat)(env:List aR)(av:dK)(s:DStep):Option (Nat×TypeId×aa×aa×Nat×aa):=match s.o.op with
 |.convert _ _ x=>match c7 P need s.loc x with
  |.env j=>match Nat.testBit s.fL j,nth j (fW ops.toList 0 [] []),mF n env av (.env j) with
   |true,some bF,some (.v (.slice b off m cp))=>match bF.o.op,lE P need ops bF.loc bF.o with
    |.makeSlice t l c,none=>match mF n env av (c7 P need bF.loc l),mF n env av (c7 P need bF.loc c) with
     |some kk,some uI=>some (j,t,kk.den,uI.den,b,.slice b off m cp)
     |_,_=>none
    |_,_=>none
   |_,_,_=>none
  |_=>none
 |_=>none
def uJ(o:Oper)(g:Operand->aa)(v:aa)(tF:Bool)(w:Option (Nat×TypeId×aa×aa×Nat×aa)):List (Option (I×Option Nat))->du->du
 |[],K=>K
 |none::l,K=>uJ o g v tF w l K
 |some (h,nx)::l,K=>match tF with
  |true=>uJ o g v tF w l K
  |false=>match w,nx with
   |some (j,t,a,c,b,x),some e=>match Nat.blt e j with
    |true=>ic λz:b5=>hn (Aw P t a c b=some (x,z)) (hn (nJ P o g (h.set b (some z)) v) (uJ o g v tF w l K))
    |false=>hn (nJ P o g h v) (uJ o g v tF w l K)
   |_,_=>hn (nJ P o g h v) (uJ o g v tF w l K)
def oB(ops:Array Oper)(n:Nat)(env:List aR)(eL:List Nat)(av:dK)(last:Option Nat)(h:I)(c1:Nat)(bp:qj):List DStep->du->du
 |[],K=>K
 |s::rest,K=>match Nat.blt s.i n,kindOf P s.o.op with
  |true,.pure=>match yA (n-1-s.i) env,nth (n-1-s.i) eL with
   |some v,some hd=>match AR s hd last h c1 bp with
    |[]=>oB ops n env eL av last h c1 bp rest K
    |l=>match v with
     |.v (.aF [])=>match lE P need ops s.loc s.o with
      |some (a,b)=>match mF n env av a with
       |some (.v (.aF []))=>oB ops n env eL av last h c1 bp rest K
       |some .l7=>match b with
        |false=>oB ops n env eL av last h c1 bp rest K
        |true=>bad "look"
       |some .ju=>match b with
        |true=>oB ops n env eL av last h c1 bp rest K
        |false=>bad "look"
       |_=>bad "look"
      |none=>bad "look"
     |v=>Kz v (uJ P s.o (λx=>(nN P need n env av s.loc x).den) v.den (GB P s.o (nN P need n env av s.loc)) (KA P need ops n env av s) l (oB ops n env eL av last h c1 bp rest K))
   |_,_=>bad "look"
  |_,_=>oB ops n env eL av last h c1 bp rest K
def KB(op:Op)(g:Operand->aR)(b:Nat)(K:aR->b5->du):du:=match op with
 |.box e x=>(g x).pr λs=>AM s (K (.v (.ptr b 0)) (.cells (yE s) e .own 0 0))
 |.makeSlice t l c=>match hS (g l).den with
  |some th=>ic λz:b5=>hn (Aw P t (g l).den (g c).den b=some (.slice b 0 th (match hS (g c).den with|some c'=>.exact c'|none=>.dead),z)) (K (.v (.slice b 0 th (match hS (g c).den with|some c'=>.exact c'|none=>.dead))) z)
  |none=>bad "makeSlice"
 |.buildSlice t len parts=>match(rn (parts.toList.map λp=>(p.1,g p.2))).any aR.Ks with
  |true=>Gw P t len (parts.toList.map λp=>(p.1,g p.2)) λe cs=>K (.v (.slice b 0 len (.exact len))) (.cells (aR.b8 cs) e .own 0 0)
  |false=>match ki P (.buildSlice t len parts) (λx=>(g x).den) b with
   |some (v,o)=>K (.v v) o
   |none=>bad "alloc"
 |op=>match ki P op (λx=>(g x).den) b with
  |some (v,o)=>K (.v v) o
  |none=>bad "alloc"
abbrev wN:=List aR->List Nat->dK->List cc->cm->I->Nat->qj->du
def wO(pl:l8)(kp:Nat)(ops:Array Oper)(bE:Nat):List DStep->List aR->List Nat->dK->List cc->cm->I->Nat->qj->wN->(aa->wN)->du
 |[],env,eL,av,d,q,h,c1,bp,K,_=>K env eL av d q h c1 bp
 |s::rest,env,eL,av,d,q,h,c1,bp,K,eV=>match Gz P need s.i env av s.loc s.o with
  |false=>bad ("an operand " ++s.o.pos)
  |true=>GA (Gv (yD (1000+keyOf kp s.i s.o) pl)) (lE P need ops s.loc s.o) s.i env av
   (λenv av=>match kindOf P s.o.op with
    |.alloc=>KB P s.o.op (nN P need s.i env av s.loc) (bE+s.i) λv o=>wO pl kp ops bE rest (v::env) (c1::eL) av d q (h.set (bE+s.i) (some o)) (c1+1) bp K eV
    |.pure=>Db P need inR call pl (keyOf kp s.i s.o) s.i env av s.loc s.o d q h (λenv av v _ _ _=>wO pl kp ops bE rest (v::env) (c1::eL) av d q h c1 bp K eV) (λ_ _ _ _ _=>bad "a panic")
    |.fq=>match yo s (kq bp) with
     |false=>bad "order"
     |true=>Db P need inR call pl (keyOf kp s.i s.o) s.i env av s.loc s.o d q h (λenv av v bT bZ ay=>wO pl kp ops bE rest (v::env) (c1::eL) av bT bZ ay (c1+1) ((s.i,s.fL,h,c1)::bp) K eV)
      (λav v bT bZ ay=>match rest.all (λbF=>Nat.testBit bF.fL s.i) with
       |true=>eV v env eL av bT bZ ay (c1+1) ((s.i,s.fL,h,c1)::bp)
       |false=>bad "panic"))
   (λenv av=>match kindOf P s.o.op with
    |.fq=>match yo s (kq bp) with
     |false=>bad "order"
     |true=>wO pl kp ops bE rest (.v (.aF [])::env) (c1::eL) av d q h c1 ((s.i,s.fL,h,c1)::bp) K eV
    |_=>wO pl kp ops bE rest (.v (.aF [])::env) (c1::eL) av d q h c1 bp K eV)
end
section
variable {P:Program} {need:Nat} {inR:Bool} {call:e0}
theorem KC{env:List aR}{av:dK}{x:Operand}:(nN P need m env av loc x).den=(iS m (aR.b8 env) (ds av) (c7 P need loc x)).getD .bad:=by
 rw[<-yI]
 unfold nN
 split<;>rename_i h<;>rw[h]<;>rfl
theorem QU{env:List aR}{av:dK}(h:Gz P need m env av loc o=true):∀x∈o.op.operands,(iS m (aR.b8 env) (ds av) (c7 P need loc x)).isSome=true:=by
 intro x ab
 unfold Gz at h
 rw[List.all_eq_true] at h
 have:=h x (by simpa using ab)
 rw[<-yI,Option.isSome_map];exact this
theorem KD(hm:Mod r G)(h:∀x∈o.op.operands,(iS m l G (c7 P need loc x)).isSome=true):∀x∈o.op.operands,ed m l r (c7 P need loc x)=(iS m l G (c7 P need loc x)).getD .bad:=by
 intro x ab
 obtain⟨v,aW⟩:=Option.isSome_iff_exists.1 (h x ab)
 rw[yJ hm aW,aW];rfl
def sr(m:Nat)(l:List aa)(G:Env)(gd:Option (Acc×Bool))(W:Bool):Prop:=match gd with
 |none=>W=true
 |some (a,b)=>∃De,iS m l G a=some De/\fj (some (De,b))=some W
theorem sr.ok{W:Bool}(h:sr m l G gd W)(hm:Mod r G):fj (gd.map λx=>(ed m l r x.1,x.2))=some W:=by
 cases gd with
 |none=>cases h;rfl
 |some x=>
  obtain⟨De,J,ae⟩:=h
  simp only[Option.map_some,yJ hm J,ae]
theorem sr.more{W:Bool}(h:sr m l G gd W)(x:aa):sr (m+1) (x::l) G gd W:=by
 cases gd with
 |none=>exact h
 |some y=>
  obtain⟨De,J,ae⟩:=h
  exact⟨De,C9 x J,ae⟩
theorem QV{fM:Option Bool}{env:List aR}{av:dK}{AO AP:List aR->dK->du}(h:(GA fM gd m env av AO AP).p):
  ∃gV ew,aR.b8 gV=aR.b8 env/\ds ew=ds av/\gV.length=env.length/\(((AO gV ew).p/\sr m (aR.b8 env) (ds av) gd true)\/((AP gV ew).p/\sr m (aR.b8 env) (ds av) gd false)):=by
 unfold GA at h
 split at h
 · exact⟨env,av,rfl,rfl,rfl,.inl ⟨h,rfl⟩⟩
 · rename_i a b
   split at h
   · cases h
   · rename_i s ah
     have lk:iS m (aR.b8 env) (ds av) a=some s.den:=by rw[<-yI,ah];rfl
     split at h
     · exact⟨env,av,rfl,rfl,rfl,.inr ⟨h,_,lk,rfl⟩⟩
     · obtain⟨ag,ab⟩:=Gy _ h
       have aH:=aR.tE ag
       rcases ab with⟨aI,ai⟩|⟨aI,ai⟩
       · rw[aI] at aH
         obtain⟨aG,aE,br⟩:=AN (x:=.l7) ah aH
         refine⟨_,_,aG,aE,br,?_⟩
         have ai:=sq (yK ai)
         cases b with
         |true=>exact .inl ⟨ai,_,lk,by rw[aH];rfl⟩
         |false=>exact .inr ⟨ai,_,lk,by rw[aH];rfl⟩
       · rw[aI] at aH
         obtain⟨aG,aE,br⟩:=AN (x:=.ju) ah aH
         refine⟨_,_,aG,aE,br,?_⟩
         have ai:=sq (yK ai)
         cases b with
         |true=>exact .inr ⟨ai,_,lk,by rw[aH];rfl⟩
         |false=>exact .inl ⟨ai,_,lk,by rw[aH];rfl⟩
theorem KE{pl:l8}{key:Nat}{env:List aR}{av:dK}{q:cm}{K:List aR->dK->tC}{eV:dK->tD}(ab:(Db P need inR call pl key m env av loc o d q h K eV).p):
  ∃gV ew,aR.b8 gV=aR.b8 env/\ds ew=ds av/\gV.length=env.length/\j4 (e4 P inR call none o (λx=>(iS m (aR.b8 env) (ds av) (c7 P need loc x)).getD .bad) d q h) (K gV ew) (eV ew):=by
 have aB:(λx=>(iS m (aR.b8 env) (ds av) (c7 P need loc x)).getD .bad)=λx=>(nN P need m env av loc x).den:=funext λx=>KC.symm
 unfold Db at ab
 split at ab
 · rename_i c a b bg
   split at ab
   · cases ab
   · rename_i s ah
     obtain⟨ag,bH⟩:=Gy _ ab
     have aH:=aR.tE ag
     have Gf:(nN P need m env av loc c).den=s.den:=by unfold nN;rw[ah]
     rw[aB]
     rcases bH with⟨aI,ai⟩|⟨aI,ai⟩
     · rw[aI] at aH
       obtain⟨aG,aE,br⟩:=AN (x:=.l7) ah aH
       exact⟨_,_,aG,aE,br,j4.val (s:=nN P need m env av loc a) (by simp only[dg,bg,Gf,aH]) (aR.pt (sq (yK ai)))⟩
     · rw[aI] at aH
       obtain⟨aG,aE,br⟩:=AN (x:=.ju) ah aH
       exact⟨_,_,aG,aE,br,j4.val (s:=nN P need m env av loc b) (by simp only[dg,bg,Gf,aH]) (aR.pt (sq (yK ai)))⟩
 · rw[aB]
   exact⟨env,av,rfl,rfl,rfl,aao ab⟩
theorem KF{s:Step}{rest:List Step}{q:cm}:mq P need inR call r (s::rest) env d q h=match e4 P inR call (s.guard.map λx=>(ed s.m env r x.1,x.2)) s.o (λx=>ed s.m env r (c7 P need s.loc x)) d q h with
  |.ok v bT bZ ay=>mq P need inR call r rest (v::env) bT bZ ay
  |.aK v bT bZ ay=>.aK v bT bZ ay
  |.fail w=>.fail w:=by
 obtain⟨gd,o,loc,m⟩:=s
 cases gd<;>rfl
theorem KG{pl:l8}{kp:Nat}:∀(l:List Step) (env:List aR) (av:dK) (d:List cc) (q:cm) (h:I) {K:List aR->dK->List cc->cm->I->du} {eV:aa->dK->List cc->cm->I->du},(Dc P need inR call pl kp l env av d q h K eV).p->
  (∃gV ew bT bZ ay,(∀r,Mod r (ds av)->mq P need inR call r l (aR.b8 env) d q h=.ok (aR.b8 gV) bT bZ ay)/\ds ew=ds av/\(K gV ew bT bZ ay).p)\/∃v ew bT bZ ay,(∀r,Mod r (ds av)->mq P need inR call r l (aR.b8 env) d q h=.aK v bT bZ ay)/\ds ew=ds av/\(eV v ew bT bZ ay).p
 |[],env,av,d,q,h,K,eV,ab=>.inl ⟨env,av,d,q,h,λ_ _=>rfl,rfl,ab⟩
 |s::rest,env,av,d,q,h,K,eV,ab=>by
  simp only[Dc] at ab
  split at ab
  · cases ab
  · rename_i ai
    have hG:∀r,Mod r (ds av)->∀gd,e4 P inR call gd s.o (λx=>ed s.m (aR.b8 env) r (c7 P need s.loc x)) d q h=e4 P inR call gd s.o (λx=>(iS s.m (aR.b8 env) (ds av) (c7 P need s.loc x)).getD .bad) d q h:=λr hm gd=>yi (KD hm (QU ai))
    obtain⟨rp,j3,aG,aE,br,hw⟩:=QV ab
    rcases hw with⟨hw,tG⟩|⟨hw,tG⟩
    · obtain⟨ss,Γ2,f1,f2,f3,bg⟩:=KE hw
      rw[aG,aE] at bg
      rcases bg with⟨x,d1,aV,J,he,ji⟩|⟨v,d1,aV,J,he,ji⟩
      · have bM:=KG rest (x::ss) Γ2 d1 aV J ji
        have key:∀r,Mod r (ds av)->mq P need inR call r (s::rest) (aR.b8 env) d q h=mq P need inR call r rest (aR.b8 (x::ss)) d1 aV J:=λr hm=>by
         rw[KF,hG r hm,Az (tG.ok hm),he]
         simp only[aR.b8,f1,aG]
        rw[f2,aE] at bM
        rcases bM with⟨gV,ew,bT,bZ,ay,i1,i2,i3⟩|⟨v,ew,bT,bZ,ay,i1,i2,i3⟩
        · exact .inl ⟨gV,ew,bT,bZ,ay,λr hm=>(key r hm).trans (i1 r hm),i2,i3⟩
        · exact .inr ⟨v,ew,bT,bZ,ay,λr hm=>(key r hm).trans (i1 r hm),i2,i3⟩
      · refine .inr ⟨v,Γ2,d1,aV,J,λr hm=>?_,f2.trans aE,ji⟩
        rw[KF,hG r hm,Az (tG.ok hm),he]
    · have bM:=KG rest (.v (.aF [])::rp) j3 d q h hw
      have key:∀r,Mod r (ds av)->mq P need inR call r (s::rest) (aR.b8 env) d q h=mq P need inR call r rest (aR.b8 (.v (.aF [])::rp)) d q h:=λr hm=>by
       rw[KF,CV (tG.ok hm)]
       simp only[aR.b8,aR.den,aG]
      rw[aE] at bM
      rcases bM with⟨gV,ew,bT,bZ,ay,i1,i2,i3⟩|⟨v,ew,bT,bZ,ay,i1,i2,i3⟩
      · exact .inl ⟨gV,ew,bT,bZ,ay,λr hm=>(key r hm).trans (i1 r hm),i2,i3⟩
      · exact .inr ⟨v,ew,bT,bZ,ay,λr hm=>(key r hm).trans (i1 r hm),i2,i3⟩
theorem Df(t:Nat):∀av:dK,ds (yN t av)=del t (ds av)
 |[]=>rfl
 |(u,s)::l=>by
  simp only[yN,ds,del]
  cases Nat.beq t u with
  |true=>exact Df t l
  |false=>simp only[ds];rw[Df t l]
theorem KH{m:Nat}{env:List aR}{jO:bf}{ia:dK}(hm:Mod jO (ds ia)):∀(l:List (Nat×Acc)) (r:bf) (av:dK),Mod r (ds av)->Mod (uq need m (aR.b8 env) jO l r) (ds (yO need m env ia l av))
 |[],r,av,h=>h
 |(t,a)::l,r,av,h=>by
  have bM:=KH (m:=m) (env:=env) hm l r av h
  simp only[uq,yO]
  cases Nat.testBit need t with
  |false=>exact bM
  |true=>
   cases aB:mF m env ia a with
   |some s=>
    have:iS m (aR.b8 env) (ds ia) a=some s.den:=by rw[<-yI,aB];rfl
    simp only[ds,Df]
    rw[yJ hm this];exact bM.put t s.den
   |none=>simp only[Df];exact bM.del t _
theorem KI:∀(l:List (Nat×Acc)) (r:bf) (av:dK),Mod r (ds av)->Mod (zU l r) (ds (Dd l av))
 |[],r,av,h=>h
 |(t,a)::l,r,av,h=>by simp only[Dd,Df];exact(KI l r av h).del t _
theorem QW:∀(ops:List Oper) (n:Nat) (loc:List (Nat×Acc)) (iq:List Nat) (k:Nat) (s:DStep),(fW ops n loc iq)[k]? =some s->s.i=n+k
 |[],n,loc,iq,k,s,h=>by simp[fW] at h
 |o::l,n,loc,iq,0,s,h=>by simp only[fW,List.getElem?_cons_zero,Option.some.injEq] at h;rw[<-h];rfl
 |o::l,n,loc,iq,k+1,s,h=>by
  simp only[fW,List.getElem?_cons_succ] at h
  have:=QW l (n+1) _ _ k s h
  omega
def AS(P:Program)(need:Nat)(ops:Array Oper)(s:DStep)(n:Nat)(l:List aa)(G:Env)(eL:List Nat)(H:Nat->I):Prop:=s.i<n/\(kindOf P s.o.op=.pure->(∀x∈s.o.op.operands,(iS n l G (c7 P need s.loc x)).isSome=true)/\∀v hd,nth (n-1-s.i) l=some v->nth (n-1-s.i) eL=some hd->sr n l G (lE P need ops s.loc s.o) false\/(sr n l G (lE P need ops s.loc s.o) true/\∃ay,dg P s.o (λx=>(iS n l G (c7 P need s.loc x)).getD .bad) (H hd)=.val v ay))
theorem aap{α:Type}{i:Nat}(h:i<n)(x:α)(l:List α):nth (n+1-1-i) (x::l)=nth (n-1-i) l:=by
 have:n+1-1-i=(n-1-i)+1:=by omega
 rw[this];rfl
theorem QX{α:Type}:∀(n:Nat) (l:List α) (x:α),nth n l=some x->x∈l
 |0,[],_,h=>by cases h
 |_+1,[],_,h=>by cases h
 |0,y::l,x,h=>by cases h;exact List.mem_cons_self
 |n+1,y::l,x,h=>List.mem_cons_of_mem _ (QX n l x h)
theorem AS.more{eL:List Nat}{H a7:Nat->I}(h:AS P need ops s n l G eL H)(x:aa)(y:Nat)(g1:∀hd∈eL,a7 hd=H hd):AS P need ops s (n+1) (x::l) G (y::eL) a7:=by
 obtain⟨J,ae⟩:=h
 refine⟨by omega,λai=>?_⟩
 obtain⟨aO,aZ⟩:=ae ai
 refine⟨λz bm=>?_,λv hd aW pv=>?_⟩
 · obtain⟨w,hw⟩:=Option.isSome_iff_exists.1 (aO z bm)
   rw[C9 x hw];rfl
 · rw[aap J] at aW pv
   rcases aZ v hd aW pv with e|⟨c_,ay,e⟩
   · exact .inl (e.more x)
   · have aaq:=QX _ _ _ pv
     refine .inr ⟨c_.more x,ay,?_⟩
     rw[g1 hd aaq,<-e]
     exact Cx s.o _ λz bm=>by
      obtain⟨w,hw⟩:=Option.isSome_iff_exists.1 (aO z bm)
      rw[C9 x hw,hw]
end
section
variable {P:Program} {need:Nat} {inR:Bool} {call:e0}
theorem GC:∀l:List aR,(aR.b8 l).length=l.length
 |[]=>rfl
 |_::l=>by simp only[aR.b8,List.length_cons,GC l]
structure qk(P:Program)(need:Nat)(ops:Array Oper)(pre:List DStep)(env:List aR)(eL:List Nat)(av:dK)(h:I)(c1:Nat)(bp:qj)(H:Nat->I):Prop where
 cur:H c1=h
 le:∀hd∈eL,hd<=c1
 st:∀z∈bp,z.2.2.2<=c1/\H z.2.2.2=z.2.2.1
 pl:pre.length=env.length
 seen:∀s∈pre,AS P need ops s env.length (aR.b8 env) (ds av) eL H
theorem qk.push{pre:List DStep}{env gV:List aR}{eL:List Nat}{av ew:dK}{ay:I}{c1 nO:Nat}{bp wP:qj}{H a7:Nat->I}(w:qk P need ops pre env eL av h c1 bp H){v:aR}(hi:s.i=env.length)(aG:aR.b8 gV=aR.b8 env)(aE:ds ew=ds av)(br:gV.length=env.length)
  (g1:∀k,k<=c1->a7 k=H k)(aW:c1<=nO)(ak:a7 nO=ay)(ah:∀z∈wP,z.2.2.2<=nO/\a7 z.2.2.2=z.2.2.1)
  (a3:kindOf P s.o.op=.pure->(∀x∈s.o.op.operands,(iS s.i (aR.b8 env) (ds av) (c7 P need s.loc x)).isSome=true)/\(sr s.i (aR.b8 env) (ds av) (lE P need ops s.loc s.o) false\/(sr s.i (aR.b8 env) (ds av) (lE P need ops s.loc s.o) true/\∃yP,dg P s.o (λx=>(iS s.i (aR.b8 env) (ds av) (c7 P need s.loc x)).getD .bad) h=.val v.den yP))):
  qk P need ops (pre++[s]) (v::gV) (c1::eL) ew ay nO wP a7:=by
 refine⟨ak,λhd pv=>?_,ah,by simp[w.pl,br],λz bm=>?_⟩
 · rcases List.mem_cons.1 pv with rfl|pv
   · exact aW
   · exact Nat.le_trans (w.le hd pv) aW
 · rw[List.length_cons,br,aE]
   simp only[aR.b8,aG]
   rcases List.mem_append.1 bm with bm|bm
   · exact(w.seen z bm).more _ _ λhd pv=>g1 hd (w.le hd pv)
   · obtain rfl:z=s:=by simpa using bm
     refine⟨by omega,λai=>?_⟩
     obtain⟨aO,aZ⟩:=a3 ai
     rw[hi] at aO aZ
     refine⟨λx ab=>?_,λu hd hu pv=>?_⟩
     · obtain⟨y,bH⟩:=Option.isSome_iff_exists.1 (aO x ab)
       rw[C9 _ bH];rfl
     · have h0:env.length+1-1-z.i=0:=by omega
       rw[h0] at hu pv
       cases hu;cases pv
       rcases aZ with aZ|⟨nF,yP,aZ⟩
       · exact .inl (aZ.more _)
       · refine .inr ⟨nF.more _,yP,?_⟩
         rw[g1 c1 (Nat.le_refl _),w.cur,<-aZ]
         exact Cx _ _ λx ab=>by
          obtain⟨y,bH⟩:=Option.isSome_iff_exists.1 (aO x ab)
          rw[C9 _ bH,bH]
theorem Dg:gY P need ops r n env s=(lE P need ops s.loc s.o).map λx=>(ed n env r x.1,x.2):=by
 unfold gY
 cases lE P need ops s.loc s.o<;>rfl
def QY:dW->Prop
 |.val _ _=>True
 |.aK _ _=>True
 |.fail _=>True
 |_=>False
theorem aar{H:I}(ai:kindOf P o.op=.pure):QY (dg P o g H):=by
 have iQ:∀(w:String) (x:Option aa),QY (hv H w x):=λw x=>by cases x<;>trivial
 obtain⟨dst,op,type,pos,after,guard⟩:=o
 cases op<;>simp only[kindOf] at ai<;>(try (cases ai;done))<;>unfold dg<;>simp only
 case binOp=>exact iQ _ _
 case slice=>exact iQ _ _
 case lookup=>exact iQ _ _
 case convert s d x=>
  have dk:∀e,P.underlying d≠some (.slice e):=λe he=>by rw[he] at ai;cases ai
  unfold df
  repeat' (first|trivial|exact absurd (by assumption) (dk _)|split)
 case call c=>
  cases ak:c.callee with
  |value f=>rw[ak] at ai;cases ai
  |invoke r n=>rw[ak] at ai;cases ai
  |builtin b=>
   rw[ak] at ai
   cases b<;>simp only at ai<;>(try (cases ai;done))<;>simp only[kX]<;>repeat' (first|trivial|exact iQ _ _|split)
 all_goals repeat' (first|trivial|exact iQ _ _|split)
theorem aas{d1:List cc}{q aV:cm}{J:I}(ai:kindOf P o.op=.pure)(e:e4 P inR call none o g d q h=.ok v d1 aV J):∃ay,dg P o g h=.val v ay:=by
 have aW:=aar (P:=P) (g:=g) (H:=h) ai
 unfold e4 at e
 simp only[fj] at e
 cases bg:dg P o g h<;>rw[bg] at e aW<;>first|(exact aW.elim)|(cases e;done)|(cases e;exact⟨_,rfl⟩)
theorem aat{op:Op}{g:Operand->aR}{b:Nat}{K:aR->b5->du}(h:(KB P op g b K).p):∃s o,ki P op (λx=>(g x).den) b=some (aR.den s,o)/\(K s o).p:=by
 unfold KB at h
 split at h
 · rename_i e x
   obtain⟨aG,aE,k⟩:=Kx (aR.pt h)
   exact⟨_,_,by simp only[ki,aG,aE];rfl,k⟩
 · rename_i t l c
   split at h
   · obtain⟨z,bm,k⟩:=h
     exact⟨_,_,Qa (op:=.makeSlice t l c) (v:=aR.den (.v _)) bm,k⟩
   · cases h
 · rename_i t len parts
   split at h
   · obtain⟨e,sz,z,cs,hu,ah,bm,J,aM,ak,k⟩:=QR h
     rw[QS] at aM
     exact⟨.v _,_,by simp only[ki,hu,ah,bm,J,aM,ak];rfl,k⟩
   · split at h
     · rename_i v o aW
       exact⟨.v v,o,aW,h⟩
     · cases h
 · split at h
   · rename_i v o aW
     exact⟨.v v,o,aW,h⟩
   · cases h
def uK(H:Nat->I)(k:Nat)(h:I)(j:Nat):I:=if j=k then h else H j
def tH(P:Program)(need:Nat)(inR:Bool)(call:e0)(ops:Array Oper)(bE:Nat)(full l:List DStep)(env:List aR)(G:Env)(d:List cc)(q:cm)(h:I)(bp:qj)(K:wN)(eV:aa->wN):Prop:=
 (∃gV wQ ew bT bZ ay nO wP a7,(∀r,Mod r G->h4 P need inR call ops r bE l (aR.b8 env) d q h (kq bp)=.ok (aR.b8 gV) bT bZ ay (kq wP))/\ds ew=G/\qk P need ops full gV wQ ew ay nO wP a7/\(K gV wQ ew bT bZ ay nO wP).p)\/
 ∃v gV wQ ew bT bZ ay nO e m h0 AT wz a7 Dh,(∀r,Mod r G->h4 P need inR call ops r bE l (aR.b8 env) d q h (kq bp)=.aK v (aR.b8 gV) bT bZ ay (kq ((e,m,h0,AT)::wz)))/\ds ew=G/\qk P need ops Dh gV wQ ew h0 AT wz a7/\(∃post,full=Dh++post)/\(eV v gV wQ ew bT bZ ay nO ((e,m,h0,AT)::wz)).p
theorem tH.trans{bE:Nat}{full l gw:List DStep}{env ss:List aR}{d2:List cc}{q aU:cm}{ae:I}{bp QZ:qj}{K:wN}{eV:aa->wN}(ai:∀r,Mod r G->h4 P need inR call ops r bE l (aR.b8 env) d q h (kq bp)=h4 P need inR call ops r bE gw (aR.b8 ss) d2 aU ae (kq QZ))(he:tH P need inR call ops bE full gw ss G d2 aU ae QZ K eV):tH P need inR call ops bE full l env G d q h bp K eV:=by
 rcases he with⟨c8,c9,gf,wR,uL,KJ,KK,KL,KM,bb,cw,fN,gO⟩|⟨c8,c9,gf,wR,uL,KJ,KK,KL,KM,bd,b2,dd,gm,jR,nP,bb,cw,fN,gO,fX⟩
 · exact .inl ⟨c8,c9,gf,wR,uL,KJ,KK,KL,KM,λr hm=>(ai r hm).trans (bb r hm),cw,fN,gO⟩
 · exact .inr ⟨c8,c9,gf,wR,uL,KJ,KK,KL,KM,bd,b2,dd,gm,jR,nP,λr hm=>(ai r hm).trans (bb r hm),cw,fN,gO,fX⟩
theorem yQ{bE:Nat}{rest:List DStep}{q:cm}{bp:ri}:h4 P need inR call ops r bE (s::rest) env d q h bp=
  match kindOf P s.o.op with
  |.alloc=>match fj (gY P need ops r s.i env s) with
   |none=>.fail ""
   |some false=>h4 P need inR call ops r bE rest (.aF []::env) d q h bp
   |some true=>match ki P s.o.op (λx=>ed s.i env r (c7 P need s.loc x)) (bE+s.i) with
    |some (v,o)=>h4 P need inR call ops r bE rest (v::env) d q (h.set (bE+s.i) (some o)) bp
    |none=>.fail ""
  |.pure=>match e4 P inR call (gY P need ops r s.i env s) s.o (λx=>ed s.i env r (c7 P need s.loc x)) d q h with
   |.ok v _ _ _=>h4 P need inR call ops r bE rest (v::env) d q h bp
   |.aK _ _ _ _=>.fail ""
   |.fail w=>.fail w
  |.fq=>match yo s bp with
   |false=>.fail ""
   |true=>match e4 P inR call (gY P need ops r s.i env s) s.o (λx=>ed s.i env r (c7 P need s.loc x)) d q h with
    |.ok v bT bZ ay=>h4 P need inR call ops r bE rest (v::env) bT bZ ay ((s.i,s.fL,h)::bp)
    |.aK v bT bZ ay=>match rest.all (λbF=>Nat.testBit bF.fL s.i) with
     |true=>.aK v env bT bZ ay ((s.i,s.fL,h)::bp)
     |false=>.fail ""
    |.fail w=>.fail w:=by
 cases bp<;>rfl
theorem yR{pl:l8}{kp:Nat}{ops:Array Oper}{bE:Nat}{full:List DStep}(oC:∀(k:Nat) (s:DStep),full[k]? =some s->s.i=k){K:wN}{eV:aa->wN}:∀(l pre:List DStep) (env:List aR) (eL:List Nat) (av:dK) (d:List cc) (q:cm) (h:I) (c1:Nat) (bp:qj) (H:Nat->I),full=pre++l->qk P need ops pre env eL av h c1 bp H->(wO P need inR call pl kp ops bE l env eL av d q h c1 bp K eV).p->tH P need inR call ops bE full l env (ds av) d q h bp K eV
 |[],pre,env,eL,av,d,q,h,c1,bp,H,aM,w,ab=>by
  rw[List.append_nil] at aM
  subst aM
  exact .inl ⟨env,eL,av,d,q,h,c1,bp,H,λ_ _=>rfl,rfl,w,ab⟩
 |s::rest,pre,env,eL,av,d,q,h,c1,bp,H,aM,w,ab=>by
  have hi:s.i=env.length:=by
   rw[<-w.pl]
   exact oC pre.length s (by rw[aM];simp)
  have AU:full=(pre++[s])++rest:=by rw[aM];simp
  simp only[wO] at ab
  split at ab
  · cases ab
  · rename_i ai
    have cO:=QU ai
    have aB:∀r,Mod r (ds av)->∀x∈s.o.op.operands,ed s.i (aR.b8 env) r (c7 P need s.loc x)=(iS s.i (aR.b8 env) (ds av) (c7 P need s.loc x)).getD .bad:=λr hm=>KD hm cO
    have hG:∀r,Mod r (ds av)->∀gd,e4 P inR call gd s.o (λx=>ed s.i (aR.b8 env) r (c7 P need s.loc x)) d q h=e4 P inR call gd s.o (λx=>(iS s.i (aR.b8 env) (ds av) (c7 P need s.loc x)).getD .bad) d q h:=λr hm gd=>yi (aB r hm)
    obtain⟨rp,j3,aG,aE,br,hw⟩:=QV ab
    have m6:∀z∈bp,z.2.2.2<=c1/\H z.2.2.2=z.2.2.1:=w.st
    rcases hw with⟨hw,tG⟩|⟨hw,tG⟩
    · have wS:∀r,Mod r (ds av)->fj (gY P need ops r s.i (aR.b8 env) s)=some true:=λr hm=>by rw[Dg];exact tG.ok hm
      split at hw
      · rename_i jg
        obtain⟨v,o,a_,ji⟩:=aat hw
        have uB:ki P s.o.op (λx=>(iS s.i (aR.b8 env) (ds av) (c7 P need s.loc x)).getD .bad) (bE+s.i)=some (v.den,o):=by
         rw[<-a_];congr 1;exact funext λx=>by rw[KC,aG,aE]
        have b9:qk P need ops (pre++[s]) (v::rp) (c1::eL) j3 (h.set (bE+s.i) (some o)) (c1+1) bp (uK H (c1+1) (h.set (bE+s.i) (some o))):=
         w.push hi aG aE br (λk ai=>by unfold uK;rw[if_neg (by omega)]) (by omega) (by unfold uK;rw[if_pos rfl]) (λz bm=>by
          obtain⟨cN,ea⟩:=m6 z bm
          exact⟨by omega,by unfold uK;rw[if_neg (by omega)];exact ea⟩) (λa3=>by rw[jg] at a3;cases a3)
        have bM:=yR oC rest (pre++[s]) (v::rp) (c1::eL) j3 d q _ (c1+1) bp _ AU b9 ji
        rw[aE] at bM
        refine tH.trans (λr hm=>?_) bM
        rw[yQ,jg]
        simp only[wS r hm]
        rw[Cy _ _ (aB r hm),uB]
        simp only[aR.b8,aG]
      · rename_i jg
        obtain⟨ss,Γ2,f1,f2,f3,bg⟩:=KE hw
        rw[aG,aE] at bg
        rcases bg with⟨x,d1,aV,J,he,ji⟩|⟨v,d1,aV,J,he,ji⟩
        · have g_:=aas jg he
          have b9:qk P need ops (pre++[s]) (x::ss) (c1::eL) Γ2 h c1 bp H:=
           w.push hi (f1.trans aG) (f2.trans aE) (f3.trans br) (λk ai=>rfl) (Nat.le_refl _) w.cur m6 (λ_=>⟨cO,.inr ⟨tG,g_⟩⟩)
          have bM:=yR oC rest (pre++[s]) (x::ss) (c1::eL) Γ2 d q h c1 bp H AU b9 ji
          rw[f2,aE] at bM
          refine tH.trans (λr hm=>?_) bM
          rw[yQ,jg]
          simp only
          rw[hG r hm,Az (wS r hm),he]
          simp only[aR.b8,f1,aG]
        · cases ji
      · rename_i jg
        split at hw
        · cases hw
        · rename_i ou
          obtain⟨ss,Γ2,f1,f2,f3,bg⟩:=KE hw
          rw[aG,aE] at bg
          rcases bg with⟨x,d1,aV,J,he,ji⟩|⟨v,d1,aV,J,he,ji⟩
          · have b9:qk P need ops (pre++[s]) (x::ss) (c1::eL) Γ2 J (c1+1) ((s.i,s.fL,h,c1)::bp) (uK H (c1+1) J):=
              w.push hi (f1.trans aG) (f2.trans aE) (f3.trans br) (λk ai=>by unfold uK;rw[if_neg (by omega)]) (by omega) (by unfold uK;rw[if_pos rfl]) (λz bm=>by
               rcases List.mem_cons.1 bm with rfl|bm
               · exact⟨by simp,by unfold uK;rw[if_neg (by simp)];exact w.cur⟩
               · obtain⟨cN,ea⟩:=m6 z bm
                 exact⟨by omega,by unfold uK;rw[if_neg (by omega)];exact ea⟩) (λa3=>by rw[jg] at a3;cases a3)
            have bM:=yR oC rest (pre++[s]) (x::ss) (c1::eL) Γ2 d1 aV J (c1+1) _ _ AU b9 ji
            rw[f2,aE] at bM
            refine tH.trans (λr hm=>?_) bM
            rw[yQ,jg]
            simp only[ou]
            rw[hG r hm,Az (wS r hm),he]
            simp only[aR.b8,f1,aG,kq]
          · split at ji
            · rename_i gZ
              refine .inr ⟨v,rp,eL,Γ2,d1,aV,J,c1+1,s.i,s.fL,h,c1,bp,H,pre,λr hm=>?_,f2.trans aE,?_,⟨_,aM⟩,ji⟩
              · rw[yQ,jg]
                simp only[ou]
                rw[hG r hm,Az (wS r hm),he]
                simp only[gZ,kq,aG]
              · exact⟨w.cur,w.le,w.st,w.pl.trans br.symm,by rw[f2,aE,aG,br];exact w.seen⟩
            · cases ji
    · have wS:∀r,Mod r (ds av)->fj (gY P need ops r s.i (aR.b8 env) s)=some false:=λr hm=>by rw[Dg];exact tG.ok hm
      cases jg:kindOf P s.o.op with
      |fq=>
       rw[jg] at hw
       simp only at hw
       split at hw
       · cases hw
       · rename_i ou
         have b9:qk P need ops (pre++[s]) (.v (.aF [])::rp) (c1::eL) j3 h c1 ((s.i,s.fL,h,c1)::bp) H:=
          w.push hi aG aE br (λk ai=>rfl) (Nat.le_refl _) w.cur (λz bm=>by
           rcases List.mem_cons.1 bm with rfl|bm
           · exact⟨Nat.le_refl _,w.cur⟩
           · exact m6 z bm) (λa3=>by rw[jg] at a3;cases a3)
         have bM:=yR oC rest (pre++[s]) (.v (.aF [])::rp) (c1::eL) j3 d q h c1 _ H AU b9 hw
         rw[aE] at bM
         refine tH.trans (λr hm=>?_) bM
         rw[yQ,jg]
         simp only[ou]
         rw[CV (wS r hm)]
         simp only[aR.b8,aR.den,aG,kq]
      |alloc=>
       rw[jg] at hw
       simp only at hw
       have b9:qk P need ops (pre++[s]) (.v (.aF [])::rp) (c1::eL) j3 h c1 bp H:=
        w.push hi aG aE br (λk ai=>rfl) (Nat.le_refl _) w.cur m6 (λa3=>by rw[jg] at a3;cases a3)
       have bM:=yR oC rest (pre++[s]) (.v (.aF [])::rp) (c1::eL) j3 d q h c1 bp H AU b9 hw
       rw[aE] at bM
       refine tH.trans (λr hm=>?_) bM
       rw[yQ,jg]
       simp only[wS r hm]
       simp only[aR.b8,aR.den,aG]
      |pure=>
       rw[jg] at hw
       simp only at hw
       have b9:qk P need ops (pre++[s]) (.v (.aF [])::rp) (c1::eL) j3 h c1 bp H:=
        w.push hi aG aE br (λk ai=>rfl) (Nat.le_refl _) w.cur m6 (λ_=>⟨cO,.inl tG⟩)
       have bM:=yR oC rest (pre++[s]) (.v (.aF [])::rp) (c1::eL) j3 d q h c1 bp H AU b9 hw
       rw[aE] at bM
       refine tH.trans (λr hm=>?_) bM
       rw[yQ,jg]
       simp only
       rw[CV (wS r hm)]
       simp only[aR.b8,aR.den,aG]
end
section
variable {P:Program} {need:Nat} {inR:Bool} {call:e0}
theorem aau{g:Operand->aR}(aA:GB P o g=true){J:I}(e:dg P o (λx=>(g x).den) h=.val v J)(ay:I):∃ae,dg P o (λx=>(g x).den) ay=.val v ae:=by
 have iQ:∀{w:String} {x:Option aa},hv h w x=.val v J->∃ae,hv ay w x=.val v ae:=λ{w x} e=>by
  cases x with
  |none=>cases e
  |some y=>cases e;exact⟨_,rfl⟩
 obtain⟨dst,op,type,pos,after,guard⟩:=o
 cases op<;>simp only[GB] at aA<;>(try (cases aA;done))<;>unfold dg at e⊢ <;>simp only at e⊢
 case binOp op t x y yt=>
  split at aA
  · rename_i k a k' b ab bH
    rw[ab,bH] at e⊢
    simp only[aR.den,hs] at e⊢
    exact iQ e
  · rename_i a b ab bH
    rw[ab,bH] at e⊢
    simp only[aR.den,hs] at e⊢
    exact iQ e
  · rw[Bool.and_eq_true] at aA
    rw[aR.tE aA.1,aR.tE aA.2] at e⊢
    have ar:hs P ay op t x y (.bool (g x).m_) (.bool (g y).m_)=hs P h op t x y (.bool (g x).m_) (.bool (g y).m_):=by
     simp only[hs,kg]
    rw[ar];exact iQ e
 case call c=>
  split at aA
  · rename_i ak
    rw[ak] at e⊢
    simp only[kX] at e⊢
    split at aA
    · rename_i t aI
      rw[aI] at e⊢
      cases je:c.args.toList.map λx=>(g x).den with
      |nil=>rw[je] at e;cases e
      |cons x l=>
       rw[je] at e
       cases l with
       |nil=>
        simp only at e⊢
        split at aA
        · rename_i el hu
          simp only[o2,hu] at e⊢
          cases x<;>simp only at e⊢ <;>exact iQ e
        · rename_i hu
          simp only[o2,hu] at e⊢
          cases x<;>simp only at e⊢ <;>exact iQ e
        · cases aA
       |cons y l=>
        cases l with
        |nil=>simp only at e;cases e
        |cons z l=>simp only at e;cases e
    · cases aA
  · cases aA
 case typeAssert=>repeat' (first|contradiction|exact iQ e|(cases e;done)|(cases e;exact⟨_,rfl⟩)|(cases e;simp_all;done)|split at e)
 all_goals repeat' (first|contradiction|exact iQ e|(cases e;exact⟨_,rfl⟩)|(rw[if_pos (by assumption)];first|exact iQ e|(cases e;exact⟨_,rfl⟩))|(cases e;done)|split at e)
theorem Q0{K:du}:∀(l:List aR),(AQ l K).p->tv (aR.b8 l)=true/\K.p
 |[],h=>⟨rfl,h⟩
 |s::l,h=>by
  have key:s.den.sound=true/\(AQ l K).p:=by
   cases s<;>simp only[AQ] at h<;>first|exact h|(split at h<;>first|exact⟨by assumption,h⟩|cases h)
  obtain⟨aO,aZ⟩:=Q0 l key.2
  exact⟨by simp only[aR.b8,tv,key.1,aO,Bool.and_true],aZ⟩
theorem Q1{s:aR}{K:du}(h:(Kz s K).p):s.den.sound=true/\K.p:=by
 cases s<;>simp only[Kz] at h<;>first|exact⟨rfl,h⟩|exact h|skip
 all_goals first
  |exact Q0 _ h
  |(split at h
    · rename_i ah;exact⟨ah,h⟩
    · cases h)
theorem Di{o:Oper}{g:Operand->aa}{v:aa}{tF:Bool}{w:Option (Nat×TypeId×aa×aa×Nat×aa)}{K:du}:∀(l:List (Option (I×Option Nat))),(uJ P o g v tF w l K).p->K.p/\(tF=false->∀h nx,some (h,nx)∈l->nJ P o g h v\/∃j t a c b x e z,w=some (j,t,a,c,b,x)/\nx=some e/\e<j/\Aw P t a c b=some (x,z)/\nJ P o g (h.set b (some z)) v)
 |[],h=>⟨h,λ_ _ _ hm=>by cases hm⟩
 |none::l,h=>by
  obtain⟨J,ae⟩:=Di l h
  exact⟨J,λaT ay nx hm=>by
   rcases List.mem_cons.1 hm with e|hm
   · cases e
   · exact ae aT ay nx hm⟩
 |some (x,aav)::l,h=>by
  simp only[uJ] at h
  cases tF with
  |true=>
   obtain⟨J,ae⟩:=Di l h
   exact⟨J,λaT=>by cases aT⟩
  |false=>
   have key:(uJ P o g v false w l K).p/\(nJ P o g x v\/∃j t a c b y e z,w=some (j,t,a,c,b,y)/\aav=some e/\e<j/\Aw P t a c b=some (y,z)/\nJ P o g (x.set b (some z)) v):=by
    simp only at h
    split at h
    · rename_i j t a c b y e
      split at h
      · rename_i ag
        obtain⟨z,J,ae,aq⟩:=h
        exact⟨aq,.inr ⟨j,t,a,c,b,y,e,z,rfl,rfl,(by rw[Nat.blt_eq] at ag;exact ag),J,ae⟩⟩
      · exact⟨h.2,.inl h.1⟩
    · exact⟨h.2,.inl h.1⟩
   obtain⟨J,ae⟩:=Di l key.1
   exact⟨J,λaT ay nx hm=>by
    rcases List.mem_cons.1 hm with e|hm
    · cases e;exact key.2
    · exact ae aT ay nx hm⟩
theorem Q2{ops:Array Oper}{r:bf}{n:Nat}{env:List aa}{s:DStep}{v:aa}{hd:Nat}{H:Nat->I}:∀(bp:qj) (nx:Option Nat) (h:I) (c1:Nat),H c1=h->(∀z∈bp,H z.2.2.2=z.2.2.1)->(∀o∈AR s hd nx h c1 bp,(match o with|none=>iY P need ops r n env s v (H hd)=true|some (h,nx)=>iY P need ops r n env s v h=true\/iY P need ops r n env s v (pW P need ops r n env s nx h)=true))->nD P need ops r n env s v nx h (kq bp)=true
 |[],nx,h,c1,ar,ah,aA=>by
  simp only[kq]
  rw[Gg]
  simp only[AR] at aA
  cases ag:uE s nx [] with
  |true=>rfl
  |false=>
   rw[show uE s nx (kq [])=false from ag] at aA
   simp only[Bool.and_true]
   cases aW:Nat.beq c1 hd with
   |true=>
    have:=aA none (by rw[aW];simp)
    obtain rfl:=Nat.eq_of_beq_eq_true aW
    simp only[ar] at this
    rw[this,Bool.true_or]
   |false=>exact Bool.or_eq_true _ _▸aA (some (h,nx)) (by rw[aW];simp)
 |(e,m,ay,nO)::rest,nx,h,c1,ar,ah,aA=>by
  simp only[kq]
  rw[Gg]
  simp only[AR] at aA
  have bM:=Q2 (ops:=ops) (r:=r) (n:=n) (env:=env) (v:=v) rest (some e) ay nO (ah _ List.mem_cons_self) (λz bm=>ah z (List.mem_cons_of_mem _ bm)) λo bg=>aA o (List.mem_append.2 (.inr bg))
  simp only[]
  rw[bM,Bool.and_true]
  cases ag:uE s nx ((e,m,ay)::kq rest) with
  |true=>rfl
  |false=>
   rw[show uE s nx (kq ((e,m,ay,nO)::rest))=false from ag] at aA
   simp only
   cases aW:Nat.beq c1 hd with
   |true=>
    have:=aA none (List.mem_append.2 (.inl (by rw[aW];simp)))
    obtain rfl:=Nat.eq_of_beq_eq_true aW
    simp only[ar] at this
    rw[this,Bool.true_or]
   |false=>exact Bool.or_eq_true _ _▸aA (some (h,nx)) (List.mem_append.2 (.inl (by rw[aW];simp)))
theorem aaw{env:List aR}{av:dK}(hm:Mod r (ds av)){j e b:Nat}{a c x:aa}{z:b5}(hw:KA P need ops n env av s=some (j,t,a,c,b,x))(KN:e<j)(Ch:Aw P t a c b=some (x,z)):
  pW P need ops r n (aR.b8 env) s (some e) h=h.set b (some z):=by
 have lk:∀{y:aR} {acc:Acc},mF n env av acc=some y->ed n (aR.b8 env) r acc=y.den:=λ{y} {acc} bH=>by
  have:iS n (aR.b8 env) (ds av) acc=some y.den:=by rw[<-yI,bH];rfl
  exact yJ hm this
 unfold KA at hw
 split at hw
 · rename_i src dst u gz
   split at hw
   · rename_i k1 aL
     split at hw
     · rename_i bF jb off m cp ag e3 aW
       split at hw
       · rename_i ft l c' bg aB
         split at hw
         · rename_i kk uI aA ak
           cases hw
           have kK:ki P (.makeSlice t l c') (λy=>ed n (aR.b8 env) r (c7 P need bF.loc y)) b=some (.slice b off m cp,z):=by
            rw[<-Ch,<-lk aA,<-lk ak]
            rfl
           have g0:gY P need ops r n (aR.b8 env) bF=none:=by unfold gY;rw[aB]
           have yS:(Nat.blt e j&&Nat.testBit s.fL j)=true:=by rw[ag,Bool.and_true,Nat.blt_eq];exact KN
           unfold pW
           simp only[gz,aL,yS,e3,bg,lk aW,aR.den,g0,fj,kK]
         · cases hw
       · cases hw
     · cases hw
   · cases hw
 · cases hw
theorem KO{ops:Array Oper}{r:bf}{n:Nat}{env:List aR}{eL:List Nat}{av:dK}(hm:Mod r (ds av)){last:Option Nat}{h:I}{c1:Nat}{bp:qj}{H:Nat->I}(g1:H c1=h)(dp:∀z∈bp,H z.2.2.2=z.2.2.1){K:du}:∀(l:List DStep),(∀s∈l,s.i<n->AS P need ops s n (aR.b8 env) (ds av) eL H)->(oB P need ops n env eL av last h c1 bp l K).p->oj P need ops r n (aR.b8 env) last h (kq bp) l=true
 |[],_,_=>rfl
 |s::rest,ah,ab=>by
  simp only[oj]
  simp only[oB] at ab
  have Fc:=λ(k:(oB P need ops n env eL av last h c1 bp rest K).p)=>KO hm g1 dp rest (λz bm=>ah z (List.mem_cons_of_mem _ bm)) k
  split at ab
  · rename_i ag jg
    have hi:s.i<n:=by simpa using ag
    obtain⟨_,aax⟩:=ah s List.mem_cons_self hi
    obtain⟨cO,ot⟩:=aax jg
    rw[ag,jg]
    simp only
    split at ab
    · rename_i v hd aW pv
      have Q3:nth (n-1-s.i) (aR.b8 env)=some v.den:=QK _ _ _ aW
      rw[Q3]
      simp only[Option.getD_some]
      have fin:∀(ai:(oB P need ops n env eL av last h c1 bp rest K).p),(∀o∈AR s hd last h c1 bp,(match o with|none=>iY P need ops r n (aR.b8 env) s v.den (H hd)=true|some (h,nx)=>iY P need ops r n (aR.b8 env) s v.den h=true\/iY P need ops r n (aR.b8 env) s v.den (pW P need ops r n (aR.b8 env) s nx h)=true))->(nD P need ops r n (aR.b8 env) s v.den last h (kq bp)&&oj P need ops r n (aR.b8 env) last h (kq bp) rest)=true:=λai bg=>by
       rw[Fc ai,Bool.and_true]
       exact Q2 bp last h c1 g1 dp bg
      have both:∀(o:Option (I×Option Nat)),(∀ay,iY P need ops r n (aR.b8 env) s v.den ay=true)->(match o with|none=>iY P need ops r n (aR.b8 env) s v.den (H hd)=true|some (h,nx)=>iY P need ops r n (aR.b8 env) s v.den h=true\/iY P need ops r n (aR.b8 env) s v.den (pW P need ops r n (aR.b8 env) s nx h)=true):=λo hw=>by
       cases o with
       |none=>exact hw _
       |some z=>exact .inl (hw _)
      split at ab
      · rename_i Cw
        exact fin ab λo bg=>by rw[Cw] at bg;cases bg
      · split at ab
        ·
         have KP:fj (gY P need ops r n (aR.b8 env) s)=some false->∀ay,iY P need ops r n (aR.b8 env) s (aR.den (.v (.aF []))) ay=true:=λhw ay=>by
          unfold iY;rw[hw]
         split at ab
         · rename_i a b Da
           have aH:∀(x:aR),mF n env av a=some x->gY P need ops r n (aR.b8 env) s=some (x.den,b):=λx ab=>by
            have lk:iS n (aR.b8 env) (ds av) a=some x.den:=by rw[<-yI,ab];rfl
            rw[Dg,Da]
            simp only[Option.map_some,yJ hm lk]
           split at ab
           · rename_i sj
             exact fin ab λo _=>both o (KP (by rw[aH _ sj];rfl))
           · rename_i sj
             cases b with
             |false=>exact fin ab λo _=>both o (KP (by rw[aH _ sj];rfl))
             |true=>cases ab
           · rename_i sj
             cases b with
             |true=>exact fin ab λo _=>both o (KP (by rw[aH _ sj];rfl))
             |false=>cases ab
           · cases ab
         · cases ab
        · rename_i dk
          obtain⟨KQ,ab⟩:=Q1 ab
          obtain⟨ab,aay⟩:=Di _ ab
          have g0:(λx=>(nN P need n env av s.loc x).den)=λx=>(iS n (aR.b8 env) (ds av) (c7 P need s.loc x)).getD .bad:=funext λx=>KC
          refine fin ab λo bg=>?_
          rcases ot v.den hd Q3 pv with e|⟨c_,e⟩
          · have hw:fj (gY P need ops r n (aR.b8 env) s)=some false:=by rw[Dg];exact e.ok hm
            exact both o λay=>by unfold iY;rw[hw]
          · have hw:fj (gY P need ops r n (aR.b8 env) s)=some true:=by rw[Dg];exact c_.ok hm
            have look:∀ay,(∃yP,dg P s.o (λx=>(nN P need n env av s.loc x).den) ay=.val v.den yP)->iY P need ops r n (aR.b8 env) s v.den ay=true:=λay ⟨yP,e⟩=>by
             have aaz:dg P s.o (λx=>ed n (aR.b8 env) r (c7 P need s.loc x)) ay=.val v.den yP:=by
              rw[<-e,g0]
              exact Cx s.o ay (KD hm cO)
             unfold iY
             simp only[hw,aaz]
             exact yq _ KQ
            rw[<-g0] at e
            cases o with
            |none=>exact look _ e
            |some z=>
             obtain⟨ay,nx⟩:=z
             simp only
             cases ar:GB P s.o (nN P need n env av s.loc) with
             |true=>
              obtain⟨J,e⟩:=e
              exact .inl (look ay (aau ar e ay))
             |false=>
              rcases aay ar ay nx bg with ak|⟨j,t,a,c,b,x,aG,z,GD,rfl,KN,Ch,ak⟩
              · exact .inl (look ay ⟨ay,wF ak⟩)
              · right
                rw[aaw hm GD KN Ch]
                exact look _ ⟨_,wF ak⟩
    · cases ab
  · rename_i CD
    have ab:=Fc ab
    rw[ab,Bool.and_true]
    cases ag:Nat.blt s.i n with
    |false=>rfl
    |true=>
     cases ai:kindOf P s.o.op with
     |pure=>exact absurd ai (CD ag)
     |alloc=>rfl
     |fq=>rfl
theorem KR{ops:Array Oper}{n:Nat}{env:List aR}{eL:List Nat}{av:dK}{last:Option Nat}{h:I}{c1:Nat}{bp:qj}{K:du}:∀(l:List DStep),(oB P need ops n env eL av last h c1 bp l K).p->K.p
 |[],ab=>ab
 |s::rest,ab=>by
  have bM:(oB P need ops n env eL av last h c1 bp rest K).p->K.p:=λk=>KR rest k
  simp only[oB] at ab
  split at ab
  · split at ab
    · split at ab
      · exact bM ab
      · split at ab
        · split at ab
          · split at ab
            · exact bM ab
            · split at ab
              · exact bM ab
              · cases ab
            · split at ab
              · exact bM ab
              · cases ab
            · cases ab
          · cases ab
        · exact bM (Di _ (Q1 ab).2).1
    · cases ab
  · exact bM ab
def Q4(P:Program)(need:Nat)(inR:Bool)(call:e0)(pl:l8)(kp:Nat)(ops:Array Oper)(av:dK)(d:List cc)(q:cm)(h:I)(K:cl->dK->List cc->cm->I->du):du:=
 wO P need inR call pl kp ops h.n (fW ops.toList 0 [] []) [] [] av d q (h.room ops.size) 0 []
  (λenv eL av d q h c1 bp=>oB P need ops env.length env eL av none h c1 bp (fW ops.toList 0 [] []) (rm (yO need env.length env av (kY ops.toList 0 []) av) λav=>K .nrm av d q h))
  (λv env eL av d q h c1 bp=>match bp with
   |(e,m,h0,AT)::bp=>oB P need ops env.length env eL av (some e) h0 AT bp (fW ops.toList 0 [] []) (rm (Dd (kY ops.toList 0 []) av) λav=>K (.aK v) av d q h)
   |[]=>bad "a panic")
def KS(P:Program)(need:Nat)(rd:Option Nat)(call:e0)(c:Code)(av:dK)(d:List cc)(q:cm)(h:I)(K:cl->dK->List cc->cm->I->du):Prop:=∃e ew bT bZ ay,dU P need rd call c ⟨ds av,d,q,h⟩ e ⟨ds ew,bT,bZ,ay⟩/\(K e ew bT bZ ay).p
theorem aaA{rd:Option Nat}{pl:l8}{kp:Nat}{av:dK}{q:cm}{K:cl->dK->List cc->cm->I->du}(ab:(Q4 P need rd.isSome call pl kp ops av d q h K).p):KS P need rd call (.region kp ops true) av d q h K:=by
 have oC:∀(k:Nat) (s:DStep),(fW ops.toList 0 [] [])[k]? =some s->s.i=k:=λk s ah=>by have:=QW _ _ _ _ _ _ ah;omega
 have w0:qk P need ops [] [] [] av (h.room ops.size) 0 [] (λ_=>h.room ops.size):=⟨rfl,λ_ hm=>(by cases hm),λ_ hm=>(by cases hm),rfl,λ_ hm=>(by cases hm)⟩
 rcases yR oC (fW ops.toList 0 [] []) [] [] [] av d q (h.room ops.size) 0 [] _ rfl w0 ab with⟨gV,wQ,ew,bT,bZ,ay,nO,wP,a7,bb,cw,w,ji⟩|⟨v,gV,wQ,ew,bT,bZ,ay,nO,e,m,h0,AT,wz,a7,Dh,bb,cw,w,⟨post,a3⟩,ji⟩
 · refine⟨.nrm,_,bT,bZ,ay,λr hm=>?_,sq (KR _ ji)⟩
   have J:=bb r hm
   have ae:=KO (r:=r) (by rw[cw];exact hm) w.cur (λz bm=>(w.st z bm).2) _ (λs ah _=>w.seen s ah) ji
   refine⟨_,?_,KH (by rw[cw];exact hm) _ _ _ (by rw[cw];exact hm)⟩
   have l5:h4 P need rd.isSome call ops r h.n (fW ops.toList 0 [] []) [] d q ⟨h.t,h.n+ops.size⟩ []=.ok (aR.b8 gV) bT bZ ay (kq wP):=J
   simp only[eR,xF,l5,GC,ae,ur]
 · refine⟨.aK v,_,bT,bZ,ay,λr hm=>?_,sq (KR _ ji)⟩
   have J:=bb r hm
   have aaB:∀s∈fW ops.toList 0 [] [],s.i<gV.length->AS P need ops s gV.length (aR.b8 gV) (ds ew) wQ a7:=λs ah hi=>by
    refine w.seen s ?_
    obtain⟨k,ai,Aj⟩:=List.getElem_of_mem ah
    have alD:s.i=k:=oC k s (by rw[List.getElem?_eq_getElem ai,Aj])
    have Q5:k<Dh.length:=by rw[w.pl];omega
    have:(Dh++post)[k]? =some s:=by rw[<-a3,List.getElem?_eq_getElem ai,Aj]
    rw[List.getElem?_append_left Q5] at this
    exact List.mem_of_getElem? this
   have ae:=KO (r:=r) (by rw[cw];exact hm) w.cur (λz bm=>(w.st z bm).2) _ aaB ji
   refine⟨_,?_,KI _ _ _ (by rw[cw];exact hm)⟩
   have l5:h4 P need rd.isSome call ops r h.n (fW ops.toList 0 [] []) [] d q ⟨h.t,h.n+ops.size⟩ []=.aK v (aR.b8 gV) bT bZ ay ((e,m,h0)::kq wz):=J
   simp only[eR,xF,l5,GC,ae,ur]
end
abbrev yT:=cl->dK->List cc->cm->I->du
def GF(P:Program):List (Nat×mG)->(dK->du)->du
 |[],K=>K []
 |(t,s)::l,K=>shape P 9 s λx=>GF P l λav=>K ((t,x)::av)
def KT(P:Program)(d:List cc)(q:cm)(K:yT)(wT:cl)(wU:bD):List (cl×List (Nat×mG))->du
 |[]=>bad "loop"
 |[(e,rs)]=>GF P rs λia=>ic λg:I=>ic λew:Env=>hn (wT=e) (hn (wU=⟨ew,d,q,g⟩) (hn (kN (ds ia) ew) (K e ia d q g)))
 |(e,rs)::l=>.mk ((GF P rs λia=>ic λg:I=>ic λew:Env=>hn (wT=e) (hn (wU=⟨ew,d,q,g⟩) (hn (kN (ds ia) ew) (K e ia d q g)))).p\/(KT P d q K wT wU l).p)
def aaC:Operand->Nat
 |.tmp t=>t
 |_=>999
def GG(P:Program)(call:e0)(fn:Func)(pl:l8)(hI:Nat)(path:List Nat)(av:dK)(d:List cc)(q:cm)(h:I)(K:yT):du:=match yD (4000+hI) pl with
 |some (.ho ins outs)=>.mk (cg P fn call path ⟨qa (ds av) ins,d,q,h⟩ λwT wU=>(KT P d q K wT wU outs).p)
 |_=>bad "loop"
def ql(P:Program)(call:e0)(fn:Func)(need:Nat)(pl:l8):Code->Nat->List Nat->dK->List cc->cm->I->yT->du
 |.skip,_,_,av,d,q,h,K=>K .nrm av d q h
 |.label _,_,_,av,d,q,h,K=>K .nrm av d q h
 |.exit id,_,_,av,d,q,h,K=>K (.exit id) av d q h
 |.ret,_,_,av,d,q,h,K=>K .ret av d q h
 |.scope b,hI,p,av,d,q,h,K=>ql P call fn need pl b hI (p++[0]) av d q h K
 |.region id ops draw,_,_,av,d,q,h,K=>match draw with
  |false=>Dc P need false call pl id (s8 P need ops).steps [] av d q h
   (λenv av d q h=>rm (yO need env.length env av (s8 P need ops).loc av) λav=>K .nrm av d q h)
   (λv av d q h=>rm (Dd (s8 P need ops).loc av) λav=>K (.aK v) av d q h)
  |true=>Q4 P need false call pl id ops av d q h K
 |.seq a b,hI,p,av,d,q,h,K=>ql P call fn need pl a hI (p++[0]) av d q h λe av d q h=>match e with
  |.nrm=>ql P call fn need pl b hI (p++[1]) av d q h K
  |e=>K e av d q h
 |.cond c a b,hI,p,av,d,q,h,K=>match mF 0 [] av (c7 P need [] c) with
  |none=>bad "if"
  |some s=>s.jh (Gv (yD (1000+aaC c) pl)) (rm (yC (c7 P need [] c) .l7 av) λav=>ql P call fn need pl a hI (p++[0]) av d q h K) (rm (yC (c7 P need [] c) .ju av) λav=>ql P call fn need pl b hI (p++[1]) av d q h K)
 |.block id b,_,p,av,d,q,h,K=>ql P call fn need pl b id (p++[0]) av d q h λe av d q h=>match e with
  |.exit i=>match Nat.beq i id with
   |true=>K .nrm av d q h
   |false=>K (.exit i) av d q h
  |e=>K e av d q h
 |.loop _,hI,p,av,d,q,h,K=>GG P call fn pl hI p av d q h K
 |.rangeFunc _ _ _ _,hI,p,av,d,q,h,K=>GG P call fn pl (500+hI) p av d q h K
 |_,_,_,_,_,_,_,_=>bad "code"
section
variable {P:Program} {call:e0} {fn:Func}
theorem KU:∀(l:List (Nat×mG)) {K:dK->du},(GF P l K).p->∃av,(K av).p
 |[],K,h=>⟨[],h⟩
 |(t,s)::l,K,h=>by
  obtain⟨x,h⟩:=yL h
  obtain⟨av,h⟩:=KU l h
  exact⟨_,h⟩
theorem Q6{d:List cc}{q:cm}{K:yT}{wT:cl}{wU:bD}:∀(l:List (cl×List (Nat×mG))),(KT P d q K wT wU l).p->∃ia ew g,wU=⟨ew,d,q,g⟩/\kN (ds ia) ew/\(K wT ia d q g).p
 |[],h=>by cases h
 |[(e,rs)],h=>by
  obtain⟨ia,g,ew,rfl,ae,aq,aQ⟩:=KU _ h
  exact⟨ia,ew,g,ae,aq,aQ⟩
 |(e,rs)::y::l,h=>by
  rcases h with h|h
  · obtain⟨ia,g,ew,rfl,ae,aq,aQ⟩:=KU _ h
    exact⟨ia,ew,g,ae,aq,aQ⟩
  · exact Q6 (y::l) h
theorem GH(av:Env):∀l:List Nat,kN (qa av l) av
 |[]=>trivial
 |t::l=>by
  simp only[qa]
  cases h:gk t av with
  |none=>exact GH av l
  |some v=>exact⟨h,GH av l⟩
theorem Q7{pl:l8}{hI:Nat}{p:List Nat}{av:dK}{q:cm}{K:yT}(ab:(GG P call fn pl hI p av d q h K).p):KS P (e1 fn) none call (sub (hc fn) p) av d q h K:=by
 unfold GG at ab
 split at ab
 · obtain⟨e,st,aj,bB⟩:=ab
   obtain⟨ia,ew,g,rfl,aq,aQ⟩:=Q6 _ bB
   have J:dU P (e1 fn) none call (sub (hc fn) p) ⟨ds av,d,q,h⟩ e ⟨ew,d,q,g⟩:=dU.pre (st1:=⟨ds av,d,q,h⟩) aj (GH _ _) rfl rfl rfl
   exact⟨e,ia,d,q,g,dU.post J aq,aQ⟩
 · cases ab
theorem wV{pl:l8}:∀(c:Code) (hI:Nat) (p:List Nat) (av:dK) (d:List cc) (q:cm) (h:I) (K:yT),sub (hc fn) p=c->(ql P call fn (e1 fn) pl c hI p av d q h K).p->KS P (e1 fn) none call c av d q h K
 |.skip,hI,p,av,d,q,h,K,ak,ab=>⟨.nrm,av,d,q,h,λr aj=>⟨r,rfl,aj⟩,ab⟩
 |.label _,hI,p,av,d,q,h,K,ak,ab=>⟨.nrm,av,d,q,h,λr aj=>⟨r,rfl,aj⟩,ab⟩
 |.exit id,hI,p,av,d,q,h,K,ak,ab=>⟨.exit id,av,d,q,h,λr aj=>⟨r,rfl,aj⟩,ab⟩
 |.ret,hI,p,av,d,q,h,K,ak,ab=>⟨.ret,av,d,q,h,λr aj=>⟨r,rfl,aj⟩,ab⟩
 |.scope b,hI,p,av,d,q,h,K,ak,ab=>wV b hI (p++[0]) av d q h K (by rw[pn,ak];simp[sub]) ab
 |.region id ops draw,hI,p,av,d,q,h,K,ak,ab=>by
  simp only[ql] at ab
  cases draw with
  |true=>exact aaA ab
  |false=>
   rcases KG _ _ _ _ _ _ ab with⟨gV,ew,bT,bZ,ay,bb,cw,ji⟩|⟨v,ew,bT,bZ,ay,bb,cw,ji⟩
   · refine⟨.nrm,_,bT,bZ,ay,λr aj=>⟨_,?_,KH (by rw[cw];exact aj) _ _ _ (by rw[cw];exact aj)⟩,sq ji⟩
     have J:mq P (e1 fn) false call r (s8 P (e1 fn) ops).steps [] d q h=.ok (aR.b8 gV) bT bZ ay:=bb r aj
     simp only[eR,Option.isSome_none,J,ur,GC]
   · refine⟨.aK v,_,bT,bZ,ay,λr aj=>⟨_,?_,KI _ _ _ (by rw[cw];exact aj)⟩,sq ji⟩
     have J:mq P (e1 fn) false call r (s8 P (e1 fn) ops).steps [] d q h=.aK v bT bZ ay:=bb r aj
     simp only[eR,Option.isSome_none,J,ur]
 |.seq a b,hI,p,av,d,q,h,K,ak,ab=>by
  obtain⟨e,j3,d1,aV,J,bt,aO⟩:=wV a hI (p++[0]) av d q h _ (by rw[pn,ak];simp[sub]) ab
  by_cases he:e=.nrm
  · subst he
    obtain⟨aE,Γ2,d2,aU,ae,b3,aZ⟩:=wV b hI (p++[1]) j3 d1 aV J K (by rw[pn,ak];simp[sub]) aO
    refine⟨aE,Γ2,d2,aU,ae,λr aj=>?_,aZ⟩
    obtain⟨qm,kG,qn⟩:=bt r aj
    obtain⟨aaD,GI,nQ⟩:=b3 qm qn
    exact⟨aaD,by simp only at kG GI;simp only[eR,kG,vJ,GI],nQ⟩
  · refine⟨e,j3,d1,aV,J,λr aj=>?_,by cases e<;>first|exact absurd rfl he|exact aO⟩
    obtain⟨qm,kG,qn⟩:=bt r aj
    exact⟨qm,by simp only[eR,kG];exact Ab he,qn⟩
 |.cond c a b,hI,p,av,d,q,h,K,ak,ab=>by
  simp only[ql] at ab
  split at ab
  · cases ab
  · rename_i s ah
    have lk:iS 0 [] (ds av) (c7 P (e1 fn) [] c)=some s.den:=by rw[show([]:List aa)=aR.b8 [] from rfl,<-yI,ah];rfl
    obtain⟨ag,bH⟩:=Gy _ ab
    have aH:=aR.tE ag
    rcases bH with⟨aI,ai⟩|⟨aI,ai⟩
    · rw[aI] at aH
      obtain⟨_,aE,_⟩:=AN (x:=.l7) ah aH
      obtain⟨e,j3,d1,aV,J,bt,aO⟩:=wV a hI (p++[0]) _ d q h K (by rw[pn,ak];simp[sub]) (sq ai)
      refine⟨e,j3,d1,aV,J,λr aj=>?_,aO⟩
      obtain⟨qm,kG,qn⟩:=bt r (by rw[aE];exact aj)
      exact⟨qm,by simp only at kG;simp only[eR,yJ aj lk,aH,kG],qn⟩
    · rw[aI] at aH
      obtain⟨_,aE,_⟩:=AN (x:=.ju) ah aH
      obtain⟨e,j3,d1,aV,J,bt,aO⟩:=wV b hI (p++[1]) _ d q h K (by rw[pn,ak];simp[sub]) (sq ai)
      refine⟨e,j3,d1,aV,J,λr aj=>?_,aO⟩
      obtain⟨qm,kG,qn⟩:=bt r (by rw[aE];exact aj)
      exact⟨qm,by simp only at kG;simp only[eR,yJ aj lk,aH,kG],qn⟩
 |.block id b,hI,p,av,d,q,h,K,ak,ab=>by
  obtain⟨e,j3,d1,aV,J,bt,aO⟩:=wV b id (p++[0]) av d q h _ (by rw[pn,ak];simp[sub]) ab
  cases e with
  |exit i=>
   simp only at aO
   cases hi:Nat.beq i id with
   |true=>
    rw[hi] at aO
    obtain rfl:=Nat.eq_of_beq_eq_true hi
    exact⟨.nrm,j3,d1,aV,J,λr aj=>by
     obtain⟨qm,kG,qn⟩:=bt r aj
     exact⟨qm,by simp only at kG;simp only[eR,kG,if_true],qn⟩,aO⟩
   |false=>
    rw[hi] at aO
    have dk:¬i=id:=by intro b0;subst b0;simp at hi
    exact⟨.exit i,j3,d1,aV,J,λr aj=>by
     obtain⟨qm,kG,qn⟩:=bt r aj
     exact⟨qm,by simp only at kG;simp only[eR,kG,if_neg dk],qn⟩,aO⟩
  |_=>
   exact⟨_,j3,d1,aV,J,λr aj=>by
    obtain⟨qm,kG,qn⟩:=bt r aj
    exact⟨qm,by simp only at kG;simp only[eR,kG],qn⟩,aO⟩
 |.loop b,hI,p,av,d,q,h,K,ak,ab=>by
  have:=Q7 ab;rw[ak] at this;exact this
 |.rangeFunc f ps as dG,hI,p,av,d,q,h,K,ak,ab=>by
  have:=Q7 ab;rw[ak] at this;exact this
 |.goto _,hI,p,av,d,q,h,K,ak,ab=>by simp only[ql] at ab;cases ab
 |.refuse _,hI,p,av,d,q,h,K,ak,ab=>by simp only[ql] at ab;cases ab
def KV(P:Program)(fn:Func)(call:e0)(pl:l8)(cx:List Nat)(path:List Nat)(av:dK)(d:List cc)(q:cm)(h:I)(Q:cl->bD->Prop):Prop:=
 (ql P call fn (e1 fn) pl (sub (hc fn) path) 0 path av d q h λe av d q h=>.mk (Q e ⟨qa (ds av) cx,d,q,h⟩)).p
theorem aaE(pl:l8)(cx:List Nat)(av:dK){ew:Env}{path:List Nat}{q:cm}{Q:cl->bD->Prop}(jS:ds av=ew)(H:KV P fn call pl cx path av d q h Q):cg P fn call path ⟨ew,d,q,h⟩ Q:=by
 subst jS
 obtain⟨e,j3,d1,aV,J,bt,aO⟩:=wV _ 0 path av d q h _ rfl H
 exact⟨e,_,dU.post bt (GH _ cx),aO⟩
def Q8(P:Program)(fn:Func)(R:a8->Prop):yT:=λe av d q h=>match d with
 |[]=>match e with
  |.aK v=>.mk (R (.aK v h))
  |.ret|.nrm=>match iw P (e1 fn) fn (ds av) h with
   |some v=>.mk (R (.ret v h))
   |none=>bad "results"
  |_=>bad "end"
 |_=>bad "deferred"
def KW(P:Program)(fn:Func)(call:e0)(pl:l8)(av:dK)(h:I)(R:a8->Prop):Prop:=
 (ql P call fn (e1 fn) pl (hc fn) 0 [] av [] .none h (Q8 P fn R)).p
theorem aaF{intr:Nat->List aa->I->Option (aa×I)}{f:Nat}{R:a8->Prop}(pl:l8)(av:dK)(aM:P.funcs[f]? =some fn)(ag:fn.body.isSome=true)(hi:intr f args h=none)(hle:Nat.ble args.length fn.ntmps=true)(jS:ds av=lN 0 args)(H:KW P fn (eA P intr n) pl av h R):R (eA P intr (n+1) (.fn f) args h):=by
 refine tz aM ag hi hle (Q:=λe s=>s.d=[]/\((∃v,e=.aK v/\R (.aK v s.h))\/((e=.ret\/e=.nrm)/\∃v,iw P (e1 fn) fn s.av s.h=some v/\R (.ret v s.h)))) ?_ λe s bB=>?_
 · have ah:sub (hc fn) []=hc fn:=by cases hc fn<;>rfl
   obtain⟨e,j3,d1,aV,J,bt,aO⟩:=wV (hc fn) 0 [] av [] .none h _ ah H
   rw[jS] at bt
   refine⟨e,⟨ds j3,d1,aV,J⟩,by unfold a0;rw[ah];exact bt,?_⟩
   unfold Q8 at aO
   split at aO
   · refine⟨rfl,?_⟩
     split at aO
     · exact .inl ⟨_,rfl,aO⟩
     · split at aO
       · rename_i v aW;exact .inr ⟨.inl rfl,v,aW,aO⟩
       · cases aO
     · split at aO
       · rename_i v aW;exact .inr ⟨.inr rfl,v,aW,aO⟩
       · cases aO
     · cases aO
   · cases aO
 · obtain⟨aH,bB⟩:=bB
   rcases bB with⟨v,rfl,aj⟩|⟨he,v,aW,aj⟩
   · exact .inr ⟨v,rfl,aH,aj⟩
   · exact .inl ⟨he,aH,v,aW,aj⟩
end
attribute [irreducible] KV KW
@[reducible] def ad (n:Nat):aa:=.int .i64 (.ofNat n)
@[reducible] def alE (n:Nat):aa:=.int .u64 (.ofNat n)
@[reducible] def ax (n:Nat):aa:=.int .u8 (.ofNat n)
@[reducible] def af (b:Nat):aa:=.ptr b 0
@[reducible] def aD (l:List aa) (t:Nat):b5:=.cells l t .own 0 0
@[reducible] def cz (a b:Nat):Bool:=jZ (.ofNat a) (.ofNat b)
@[reducible] def dA (a b:Nat):Bool:=jM (.ofNat a) (.ofNat b)
@[reducible] def eQ (a b:Nat):Bool:=mo (.ofNat a) (.ofNat b)
abbrev kR(v:aa):Prop:=aa.sound v=true
abbrev k5(v:aa):Prop:=aa.dJ v=true
@[reducible] def az (av:Env) (h:I):bD:=⟨av,[],.none,h⟩
@[reducible] def tI (av:Env) (h:I):bD:=⟨av,[],.none,h⟩
def Dj(os:List Nat):Env->dK
 |[]=>[]
 |(k,v)::l=>(k,if os.any (Nat.beq k) then aR.o v else aR.v v)::Dj os l
theorem KX(os:List Nat):∀av:Env,ds (Dj os av)=av
 |[]=>rfl
 |(k,v)::l=>by
  show(k,aR.den (if os.any (Nat.beq k) then aR.o v else aR.v v))::ds (Dj os l)=(k,v)::l
  rw[KX os l]
  split<;>rfl
theorem dR{P:Program}{fn:Func}{call:e0}(pl:l8)(cx os:List Nat){av:Env}{path:List Nat}{q:cm}{Q:cl->bD->Prop}{X:Prop}(H:X)(e:X=KV P fn call pl cx path (Dj os av) d q h Q:=by kernel_rfl):cg P fn call path ⟨av,d,q,h⟩ Q:=aaE pl cx _ (KX os av) (Eq.mp e H)
theorem mH{P:Program}{fn:Func}{intr:Nat->List aa->I->Option (aa×I)}{f:Nat}{R:a8->Prop}(pl:l8)(os:List Nat)(aM:P.funcs[f]? =some fn){X:Prop}(H:X)(ag:fn.body.isSome=true:=by kernel_rfl)(hi:intr f args h=none:=by kernel_rfl)(hle:Nat.ble args.length fn.ntmps=true:=by kernel_rfl)(e:X=KW P fn (eA P intr n) pl (Dj os (lN 0 args)) h R:=by kernel_rfl):R (eA P intr (n+1) (.fn f) args h):=aaF pl _ aM ag hi hle (KX os _) (Eq.mp e H)
end aJ
