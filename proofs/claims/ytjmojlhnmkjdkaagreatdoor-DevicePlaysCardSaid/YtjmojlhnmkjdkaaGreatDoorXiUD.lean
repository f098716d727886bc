/- Go functions run by the kernel on shapes, and that this is so: the first part. -/
import Derived.Test.YtjmojlhnmkjdkaaGreatDoorDP1
import Derived.Great.BuildSlice
set_option linter.unusedVariables false
set_option linter.unusedSimpArgs false
namespace Go.Proofs.YtjmojlhnmkjdkaaGreatDoor
namespace Xi
open Go Go.RowKit
inductive AV where
 | lit (v:Value)
 | opq (i:Nat)
 | ptr (b off:Nat)
 | slc (b off len cap:Nat)
 | row (b len:Nat)
 | fn (f:Fn) (first captured:List AV)
 | qC (t:TypeId) (v:AV)
 | agg (cs:List AV)
 | jm (vs:List AV)
 | vw (i off n:Nat)
 | vp (i off:Nat)
 | Dw (b off n:Nat)
 deriving Inhabited
def MI:Value->Nat->Nat->Value
 | .slice (some ⟨b,a,none⟩) _ c,o,n=>.slice (some ⟨b,a+o,none⟩) n (c - o)
 | _,_,_=>.bool false
def vpV:Value->Nat->Value
 | .slice (some ⟨b,a,none⟩) _ _,o=>.pointer (some ⟨b,a+o,none⟩)
 | _,_=>.bool false
structure Env where
 γ:Nat->Nat
 κ:Nat->Nat
 ρ:Nat->Value
mutual
def AV.aA (E:Env):AV->Value
 | .lit v=>v
 | .opq i=>E.ρ i
 | .ptr b o=>.pointer (some ⟨E.γ b,o,none⟩)
 | .slc b o n c=>.slice (some ⟨E.γ b,o,none⟩) n c
 | .row b n=>.slice (some ⟨E.γ b,0,none⟩) n (E.κ b)
 | .fn f a c=>.func f (ay E a).toArray (ay E c).toArray
 | .qC t v=>.iface t (AV.aA E v)
 | .agg cs=>.agg (ay E cs).toArray
 | .jm vs=>.tuple (ay E vs).toArray
 | .vw i o n=>MI (E.ρ i) o n
 | .vp i o=>vpV (E.ρ i) o
 | .Dw b o n=>.slice (some ⟨E.γ b,o,none⟩) n (E.κ b - o)
def ay (E:Env):List AV->List Value
 | []=>[]
 | v::l=>AV.aA E v::ay E l
end
mutual
def AV.kL:AV->Nat
 | .lit _=>0
 | .opq _=>0
 | .ptr b _=>Nat.pow 2 b
 | .slc b _ _ _=>Nat.pow 2 b
 | .row b _=>Nat.pow 2 b
 | .fn _ a c=>Nat.lor (dM a) (dM c)
 | .qC _ v=>AV.kL v
 | .agg cs=>dM cs
 | .jm vs=>dM vs
 | .vw _ _ _=>0
 | .vp _ _=>0
 | .Dw b _ _=>Nat.pow 2 b
def dM:List AV->Nat
 | []=>0
 | v::l=>Nat.lor (AV.kL v) (dM l)
end
def tb (m k:Nat):Bool:=Nat.beq (Nat.land 1 (Nat.shiftRight m k)) 1
def KQ (m S:Nat):Bool:=Nat.beq (Nat.lor m S) S
def AV.lt (n:Nat) (v:AV):Bool:=Nat.blt v.kL (Nat.pow 2 n)
def iE (n:Nat) (l:List AV):Bool:=Nat.blt (dM l) (Nat.pow 2 n)
def fN{β:Type}(n:Nat)(k:Nat->β):β:=match n with | 0=>k 0 | m+1=>k (Nat.succ m)
mutual
def zQ {β:Type}:AV->(AV->β)->β
 | .lit v,k=>k (.lit v)
 | .opq i,k=>fN i fun i=>k (.opq i)
 | .ptr b o,k=>fN b fun b=>fN o fun o=>k (.ptr b o)
 | .slc b o n c,k=>fN b fun b=>fN o fun o=>fN n fun n=>fN c fun c=>k (.slc b o n c)
 | .row b n,k=>fN b fun b=>fN n fun n=>k (.row b n)
 | .fn f a c,k=>zS a fun a=>zS c fun c=>k (.fn f a c)
 | .qC t v,k=>zQ v fun v=>k (.qC t v)
 | .agg cs,k=>zS cs fun cs=>k (.agg cs)
 | .jm vs,k=>zS vs fun vs=>k (.jm vs)
 | .vw i o n,k=>fN i fun i=>fN o fun o=>fN n fun n=>k (.vw i o n)
 | .vp i o,k=>fN i fun i=>fN o fun o=>k (.vp i o)
 | .Dw b o n,k=>fN b fun b=>fN o fun o=>fN n fun n=>k (.Dw b o n)
def zS {β:Type}:List AV->(List AV->β)->β
 | [],k=>k []
 | v::l,k=>zQ v fun v=>zS l fun l=>k (v::l)
end
def fL {α β:Type}:List α->(List α->β)->β
 | [],k=>k []
 | v::l,k=>fL l fun l=>k (v::l)
inductive Tr (α:Type) where
 | nil
 | nd (v:Option α) (l r:Tr α)
 deriving Inhabited
def Tr.get {α:Type}:Tr α->Nat->Option α
 | .nil,_=>none
 | .nd v l r,n=>match n with
  | 0=>v
  | m+1=>bif Nat.beq (Nat.mod m 2) 0 then l.get (Nat.div m 2) else r.get (Nat.div m 2)
def Tr.val{α:Type}:Tr α->Option α | .nil=>none | .nd v _ _=>v
def Tr.lf{α:Type}:Tr α->Tr α | .nil=>.nil | .nd _ l _=>l
def Tr.rt{α:Type}:Tr α->Tr α | .nil=>.nil | .nd _ _ r=>r
def Tr.set {α:Type}:Nat->Tr α->Nat->Option α->Tr α
 | 0,t,_,_=>t
 | f+1,t,n,x=>match n with
  | 0=>.nd x t.lf t.rt
  | m+1=>bif Nat.beq (Nat.mod m 2) 0 then .nd t.val (Tr.set f t.lf (Nat.div m 2) x) t.rt else .nd t.val t.lf (Tr.set f t.rt (Nat.div m 2) x)
def fO{α β:Type}(x:Option α)(k:Option α->β):β:=match x with | some x=>k (some x) | none=>k none
def fT{α β:Type}(x:Tr α)(k:Tr α->β):β:=match x with | .nil=>k .nil | .nd v l r=>k (.nd v l r)
def Tr.jG {α β:Type}:Nat->Tr α->Nat->Option α->(Tr α->β)->β
 | 0,t,_,_,k=>k t
 | f+1,t,n,x,k=>fO t.val fun v=>fT t.lf fun l=>fT t.rt fun r=>match n with
  | 0=>k (.nd x l r)
  | m+1=>bif Nat.beq (Nat.mod m 2) 0 then Tr.jG f l (Nat.div m 2) x fun l=>k (.nd v l r) else Tr.jG f r (Nat.div m 2) x fun r=>k (.nd v l r)
def nth {α:Type}:List α->Nat->Option α
 | [],_=>none
 | x::_,0=>some x
 | _::l,n+1=>nth l n
structure AB where
 T:TypeId
 ro:Bool
 row:Bool
 cs:List AV
 deriving Inhabited
structure G where
 hp:Tr AB
 n:Nat
 nv:Nat
 deriving Inhabited
def G.at (g:G) (b:Nat):Option AB:=bif Nat.blt b g.n then g.hp.get b else none
structure Tm where
 n:Nat
 t:Tr AV
def Tm.at(tm:Tm)(t:Nat):AV:=match tm.t.get t with | some v=>v | none=>.lit undef
inductive EA where
 | v (a:AV)
 | l (cs:List AV)
 deriving Inhabited
inductive CA where
 | v (x:Value)
 | l (xs:List Value)
def EA.aA (E:Env):EA->CA
 | .v a=>.v (a.aA E)
 | .l cs=>.l (ay E cs)
inductive Pr where
 | bin (op:BinOp) (T:TypeId)
 | un (op:UnOp)
 | conv (src dst:TypeId)
 | str (src dst:TypeId)
 | is
 | min
inductive Ev where
 | call (f:FuncId) (args:List EA) (out:AV)
 | yx (p:Pr) (xs:List AV) (out:AV)
 | loop (f:FuncId) (recv:AV) (n:Int) (i:Nat) (body:List Ev)
 deriving Inhabited
def kH:List Ev->Bool
 | []=>true
 | .yx _ _ _::l=>kH l
 | _=>false
inductive QE where
 | normal
 | exit (id:Nat)
 | ret
structure TI where
 d:TypeDesc
 size:Nat
 bytes:Nat
 zero:List AV
structure FI where
 body:Code
 ntmps:Nat
 res:List ResultVar
structure Cx where
 P:Program
 ev:FuncId->List AV->Nat->Option (AV×Nat)
 lp:FuncId->Bool
 mt:TypeId->String->Option FuncId
 br:Nat->Option Bool
 vw:Nat->Option (List AV):=fun _=>none
def bV (P:Program) (t:TypeId):Option TI:=match P.info? t,P.underlying t with
 | some i,some d=>match i.zero with
  | some z=>some ⟨d,i.size,i.bytes,z.cells.toList.map .lit⟩
  | none=>none
 | _,_=>none
def CV (P:Program) (f:FuncId):Option FI:=match P.funcs[f]? with
 | some F => bif F.name == "runtime.NumGoroutine" then none else match F.body with
  | some c=>some ⟨c,F.ntmps,F.results.toList⟩
  | none=>none
 | none=>none
def dD (tm:Tm):Operand->Option AV
 | .tmp t=>some (tm.at t)
 | .const (.agg cs)=>some (.agg (cs.toList.map .lit))
 | .const v=>some (.lit v)
 | .func f=>some (.fn (.func f) [] [])
 | .global _=>none
def jO (tm:Tm):List Operand->Option (List AV)
 | []=>some []
 | x::l=>match dD tm x,jO tm l with
  | some v,some vs=>some (v::vs)
  | _,_=>none
def aaU:AV->Bool
 | .lit v=>v.oneCell'
 | .agg _=>false
 | .jm _=>false
 | _=>true
def GH:List AV->Bool
 | []=>true
 | v::l=>aaU v&&GH l
def oZ:AV->Option (List AV)
 | .agg cs=>bif GH cs then some cs else none
 | .jm _=>none
 | .lit v=>bif v.oneCell' then some [.lit v] else none
 | v=>some [v]
def aF {α:Type} (l:List α):Nat:=l.length
def ld (g:G) (b off n:Nat):Option (List AV) :=
 match g.at b with
 | some B=>bif Nat.ble (off+n) (aF B.cs) then zS ((B.cs.drop off).take n) fun l=>some l else none
 | none=>none
def TI.agg(i:TI):Bool:=match i.d with | .struct _=>true | .array _ _=>true | _=>false
def IY (cx:Cx) (h:G) (t:TypeId) (b off:Nat):Option AV :=
 match bV cx.P t with
 | some i=>bif i.agg then(match ld h b off i.size with | some l=>some (.agg l) | none=>none) else
  match ld h b off 1 with
  | some [v]=>some v
  | _=>none
 | none=>none
def splice(cs:List AV)(off:Nat)(vs:List AV):List AV:=cs.take off++vs++cs.drop (off+vs.length)
def tJ(place:Nat->Option (Nat×Nat))(cells:List AV):List (Nat×AV)->Option (List AV)
 | []=>some cells
 | (i,v)::rest =>
  match place i,oZ v with
  | some (off,size),some vs=>bif Nat.beq (aF vs) size&&Nat.ble (off+aF vs) (aF cells) then tJ place (splice cells off vs) rest else none
  | _,_=>none
def Dx (op:BinOp) (k:IntKind) (a:Int):Int->Option Int
 | .ofNat n=>match op with
  | .shl=>some (k.wrap (a*2 ^ min n k.bits))
  | .shr=>some (a.fdiv (2 ^ min n k.bits))
  | _=>none
 | _=>none
def vU:BinOp->Bool
 | .shl=>true
 | .shr=>true
 | _=>false
def aaV (op:BinOp) (x y:AV):Option AV :=
 match x,y with
 | .lit (.int k a),.lit (.int k' b)=>bif vU op then(match Dx op k a b with | some n=>some (.lit (.int k n)) | none=>none) else if k=k' then
  match op with
  | .and=>some (.lit (.int k (bits .and k a b)))
  | .or=>some (.lit (.int k (bits .or k a b)))
  | .xor=>some (.lit (.int k (bits .xor k a b)))
  | .andNot=>some (.lit (.int k (bits .andNot k a b)))
  | .add=>some (.lit (.int k (k.wrap (a+b))))
  | .sub=>some (.lit (.int k (k.wrap (a - b))))
  | .mul=>some (.lit (.int k (k.wrap (a*b))))
  | .eql=>some (.lit (.bool (a==b)))
  | .neq=>some (.lit (.bool (a != b)))
  | .lss=>some (.lit (.bool (a<b)))
  | .leq=>some (.lit (.bool (a<=b)))
  | .gtr=>some (.lit (.bool (a>b)))
  | .geq=>some (.lit (.bool (a >= b)))
  | .quo=>bif b==0 then none else some (.lit (.int k (k.wrap (a.tdiv b))))
  | .rem=>bif b==0 then none else some (.lit (.int k (a.tmod b)))
  | _=>none
  else none
 | _,_=>none
def yA {β:Type} (g:G) (T:TypeId) (row:Bool) (cs:List AV) (no:β) (k:Nat->G->β):β:=bif Nat.blt g.n 1000000 then
 zS cs fun cs=>fN g.n fun n=>Tr.jG 20 g.hp n (some ⟨T,false,row,cs⟩) fun hp=>k n ⟨hp,Nat.succ n,g.nv⟩ else no
def jG{β:Type}(g:G)(b:Nat)(B:Option AB)(no:β)(k:G->β):β:=bif Nat.blt b 1000000 then Tr.jG 20 g.hp b B fun hp=>k ⟨hp,g.n,g.nv⟩ else no
def GI (h:G):AV->Option EA
 | .slc b off n c=>match ld h b off n with | some cs=>bif iE 0 cs&&Nat.ble n c then some (.l cs) else none | none=>none
 | .row b n=>match h.at b with
  | some B=>match ld h b 0 n with | some cs=>bif iE 0 cs&&B.row then some (.l cs) else none | none=>none
  | none=>none
 | v=>bif v.lt 0 then some (.v v) else none
def eargs (h:G):List AV->Option (List EA)
 | []=>some []
 | v::l=>match GI h v,eargs h l with
  | some x,some xs=>some (x::xs)
  | _,_=>none
def Pm(cx:Cx)(tm:Tm)(c:Call):Option (FuncId×List AV) :=
 match jO tm c.args.toList with
 | none=>none
 | some args=>match c.callee with
  | .value f=>match dD tm f with
   | some (.fn (.func g) first cap)=>some (g,first++args++cap)
   | _=>none
  | .invoke r name=>match dD tm r with
   | some (.qC t (.lit (.pointer (some a))))=>match cx.mt t name with
    | some g=>some (g,.lit (.pointer (some a))::args)
    | none=>none
   | _=>none
  | .builtin _=>none
abbrev jU:=FuncId->List AV->G->Option (AV×G×List Ev)
def apart (cx:Cx) (t:TypeId) (cs:List AV) (off:Nat):Option AV :=
 match bV cx.P t with
 | some i=>bif i.agg then(bif Nat.ble (off+i.size) (aF cs) then zS ((cs.drop off).take i.size) fun l=>some (.agg l) else none) else nth cs off
 | none=>none
def Bz (n:Nat) (i:AV):Option Nat:=match i with
 | .lit (.int _ (.ofNat i))=>bif Nat.blt i n then some i else none
 | _=>none
def IZ(cx:Cx)(g:G)(x:AV):Option (List AV×Nat):=match x with
 | .slc b off n _=>match ld g b off n with | some l=>some (l,b) | none=>none
 | .row b n=>match ld g b 0 n with | some l=>some (l,b) | none=>none
 | .Dw b off n=>match ld g b off n with | some l=>some (l,b) | none=>none
 | .vw i off n=>match cx.vw i with
  | some cs=>bif Nat.ble (off+n) (aF cs) then zS ((cs.drop off).take n) fun l=>some (l,1000000) else none
  | none=>none
 | _=>none
def Ui(e:TypeId)(b':Nat)(new:List AV)(s:AV)(g:G):Option (AV×G×List Ev):=match s with
 | .lit (.slice none 0 0)=>yA g e true new none fun id g=>some (.row id (aF new),g,[])
 | .row b n=>match g.at b with
  | some B=>bif !B.ro&&B.row&&Nat.beq B.T e&&Nat.beq (aF B.cs) n&&Nat.ble (n+aF new) 100000&&!Nat.beq b' b then
   jG g b none none fun g=>yA g e true (B.cs++new) none fun id g=>some (.row id (n+aF new),g,[])
   else none
  | none=>none
 | .slc b off n c=>match g.at b with
  | some B=>bif !B.ro&&!B.row&&Nat.beq B.T e&&Nat.beq off 0&&Nat.beq n c&&Nat.beq (aF B.cs) n&&Nat.ble (n+aF new) 100000&&!Nat.beq b' b then
   jG g b none none fun g=>yA g e true (B.cs++new) none fun id g=>some (.row id (n+aF new),g,[])
   else none
  | none=>none
 | _=>none
def Uj(cx:Cx)(g:G)(e:TypeId)(s x:AV):Option (AV×G×List Ev) :=
 match bV cx.P e with
 | some j=>bif Nat.beq j.size 1&&Nat.beq (aF j.zero) 1&&Nat.ble j.bytes 64 then
  match IZ cx g x with
  | some (new,b')=>bif Nat.ble 1 (aF new)&&GH new&&Nat.ble (aF new) 100000 then Ui e b' new s g else none
  | none=>none
  else none
 | none=>none
abbrev bI:=Option (AV×G×List Ev)
def MJ(tm:Tm)(x:Operand)(g:G):bI:=match dD tm x with | some v=>some (v,g,[]) | none=>none
def aaW (tm:Tm) (c a b:Operand) (g:G):bI:=match dD tm c with
 | some (.lit (.bool t))=>MJ tm (bif t then a else b) g
 | _=>none
def Uk(cx:Cx)(T:TypeId)(g:G):bI:=match bV cx.P T with | some i=>yA g T false i.zero none fun b g=>some (.ptr b 0,g,[]) | none=>none
def ahr (tm:Tm) (T:TypeId) (x:Operand) (g:G):bI:=match dD tm x with
 | some v=>match oZ v with | some cs=>yA g T false cs none fun b g=>some (.ptr b 0,g,[]) | none=>none
 | none=>none
def vV(P:Program):List Field->Option (List (Nat×Nat))
 | []=>some []
 | f::l=>match bV P f.type with
  | some j=>match vV P l with | some r=>some ((f.offset,j.size)::r) | none=>none
  | none=>none
def Dy(n i:Nat):Option (Nat×Nat):=some (i*n,n)
def Ul(r:Option (List AV))(g:G):bI:=match r with | some cs=>zS cs fun cs=>some (.agg cs,g,[]) | none=>none
def Zk(cx:Cx)(i:TI)(parts:List (Nat×AV))(g:G):bI:=match i.d with
 | .struct fs=>match vV cx.P fs.toList with | some pl=>Ul (tJ (nth pl) i.zero parts) g | none=>none
 | .array _ e=>match bV cx.P e with | some j=>Ul (tJ (Dy j.size) i.zero parts) g | none=>none
 | _=>none
def Um(cx:Cx)(tm:Tm)(T:TypeId)(parts:List (Nat×Operand))(g:G):bI:=match bV cx.P T with
 | some i=>match jO tm (parts.map (·.2)) with | some vs=>Zk cx i ((parts.map (·.1)).zip vs) g | none=>none
 | none=>none
def I4(z:List AV)(k:Nat):AV:=match nth z (Nat.mod k (aF z)) with | some v=>v | none=>.lit default
def GK(e len:Nat)(j:TI)(parts:List (Nat×AV))(g:G):bI :=
 bif Nat.beq (aF j.zero) j.size&&Nat.blt 0 j.size&&Nat.ble (len*j.size) 1000 then
  match tJ (Dy j.size) ((List.range (len*j.size)).map (I4 j.zero)) parts with
  | some cs=>yA g e false cs none fun b g=>some (.slc b 0 len len,g,[])
  | none=>none
 else none
def sliceOf (cx:Cx) (T:TypeId):Option TypeId:=match bV cx.P T with
 | some i=>match i.d with | .slice e=>some e | _=>none
 | none=>none
def CW(cx:Cx)(tm:Tm)(T:TypeId)(len:Nat)(parts:List (Nat×Operand))(g:G):bI:=match sliceOf cx T with
 | some e=>match bV cx.P e with
  | some j=>match jO tm (parts.map (·.2)) with | some vs=>GK e len j ((parts.map (·.1)).zip vs) g | none=>none
  | none=>none
 | none=>none
def Ti (cx:Cx) (T:TypeId) (i off:Nat):Option AV :=
 match bV cx.P T with
 | some t=>bif t.agg then none else match cx.vw i with
  | some cs=>nth cs off
  | none=>none
 | none=>none
def aaX (cx:Cx) (tm:Tm) (T:TypeId) (a:Operand) (g:G):bI:=match dD tm a with
 | some (.ptr b off)=>match IY cx g T b off with | some v=>some (v,g,[]) | none=>none
 | some (.vp i off)=>match Ti cx T i off with | some v=>some (v,g,[]) | none=>none
 | _=>none
def Zl (vs:List AV) (B:AB) (i:TI) (b off:Nat) (g:G):bI :=
 bif !B.ro&&!B.row&&Nat.beq i.size (aF vs)&&Nat.ble (off+aF vs) (aF B.cs) then
  zS (splice B.cs off vs) fun cs=>jG g b (some ⟨B.T,false,false,cs⟩) none fun g=>some (.lit undef,g,[])
 else none
def Un (cx:Cx) (tm:Tm) (T:TypeId) (a x:Operand) (g:G):bI:=match dD tm a with
 | some (.ptr b off)=>match dD tm x with
  | some v=>match oZ v with
   | some vs=>match g.at b with
    | some B=>match bV cx.P T with | some i=>Zl vs B i b off g | none=>none
    | none=>none
   | none=>none
  | none=>none
 | _=>none
def ahs (v:Option AV) (g:G):bI:=match v with
 | some (.ptr b off)=>some (.ptr b off,g,[])
 | some (.qC t v)=>some (.qC t v,g,[])
 | some (.fn (.func f) a c)=>some (.fn (.func f) a c,g,[])
 | some (.lit (.pointer (some a)))=>some (.lit (.pointer (some a)),g,[])
 | _=>none
def aos:BinOp->Bool
 | .eql=>true
 | .neq=>true
 | .lss=>true
 | .leq=>true
 | .gtr=>true
 | .geq=>true
 | _=>false
def Eh (cx:Cx) (g:G) (p:Pr) (xs:List AV) (test:Bool):bI:=bif iE 0 xs then
 bif test then(match cx.br g.nv with
  | some b=>fN (Nat.succ g.nv) fun nv=>some (.lit (.bool b),⟨g.hp,g.n,nv⟩,[.yx p xs (.lit (.bool b))])
  | none=>none)
 else fN (Nat.succ g.nv) fun nv=>some (.opq g.nv,⟨g.hp,g.n,nv⟩,[.yx p xs (.opq g.nv)])
 else none
def aht (cx:Cx) (tm:Tm) (op:BinOp) (T:TypeId) (x y:Operand) (g:G):bI:=match dD tm x with
 | some u=>match dD tm y with
  | some v=>match aaV op u v with | some r=>some (r,g,[]) | none=>Eh cx g (.bin op T) [u,v] (aos op)
  | none=>none
 | none=>none
def isNot:UnOp->Bool
 | .not=>true
 | _=>false
def oUn (cx:Cx) (op:UnOp) (v:Option AV) (g:G):bI:=match v with
 | some (.lit (.bool b))=>match op with
  | .not=>some (.lit (.bool (!b)),g,[])
  | _=>none
 | some u=>Eh cx g (.un op) [u] (isNot op)
 | none=>none
def kindOf (cx:Cx) (T:TypeId):Option IntKind:=match bV cx.P T with
 | some i=>match i.d with | .int k=>some k | _=>none
 | none=>none
def aaY (cx:Cx) (src dst:TypeId) (v:Option AV) (g:G):bI:=match v with
 | some (.lit (.int _ n))=>match kindOf cx src with
  | some _=>match kindOf cx dst with
   | some k=>some (.lit (.int k (k.wrap n)),g,[])
   | none=>none
  | none=>none
 | some u=>match IZ cx g u with
  | some (l,_)=>Eh cx g (.str src dst) l false
  | none=>Eh cx g (.conv src dst) [u] false
 | none=>none
def ahu (cx:Cx) (tm:Tm) (T:TypeId) (x:Operand) (g:G):bI:=match bV cx.P T with
 | some i=>match i.d with
  | .interface _=>none
  | _=>match dD tm x with | some v=>some (.qC T v,g,[]) | none=>none
 | none=>none
def ahv (tm:Tm) (f:Fn) (a c:List Operand) (g:G):bI:=match jO tm a with
 | some u=>match jO tm c with | some v=>some (.fn f u v,g,[]) | none=>none
 | none=>none
def uH (tm:Tm) (x:Option Operand) (d:Nat):Option Nat:=match x with
 | none=>some d
 | some o=>match dD tm o with
  | some (.lit (.int _ (.ofNat i)))=>some i
  | _=>none
def aou(b off c l h size:Nat)(g:G):bI:=bif Nat.ble l h&&Nat.ble h c then
 fN (bif Nat.beq c l then off else off+l*size) fun o=>fN (h - l) fun n=>fN (c - l) fun q=>some (.slc b o n q,g,[])
 else none
def oSl (e:Option TI) (h l:Option Nat) (b off c:Nat) (g:G):bI:=match e,h,l with
 | some j,some h,some l=>aou b off c l h j.size g
 | _,_,_=>none
def ahw (e:Option TI) (h l:Option Nat) (cs:Option (List AV)) (k off n:Nat) (g:G):bI:=match e,h,l,cs with
 | some j,some h,some l,some cs=>bif Nat.beq j.size 1&&Nat.ble l h&&Nat.ble h n&&Nat.blt l n&&Nat.ble (off+n) (aF cs) then
  fN (off+l) fun o=>fN (h - l) fun n=>some (.vw k o n,g,[])
  else none
 | _,_,_,_=>none
def aaZ (e:Option TI) (h l:Option Nat) (B:Option AB) (b off n:Nat) (g:G):bI:=match e,h,l,B with
 | some j,some h,some l,some B=>bif Nat.beq j.size 1&&Nat.ble l h&&Nat.ble h n&&Nat.blt l n&&Nat.ble (off+n) (aF B.cs)&&B.row then
  fN (off+l) fun o=>fN (h - l) fun n=>some (.Dw b o n,g,[])
  else none
 | _,_,_,_=>none
def Uo (cx:Cx) (tm:Tm) (T:TypeId) (x:Operand) (lo hi mx:Option Operand) (g:G):bI:=match mx with
 | none=>match bV cx.P T with
  | some i=>match i.d,dD tm x with
   | .array n e,some (.ptr b off)=>oSl (bV cx.P e) (uH tm hi n) (uH tm lo 0) b off n g
   | .slice e,some (.slc b off n c)=>oSl (bV cx.P e) (uH tm hi n) (uH tm lo 0) b off c g
   | .slice e,some (.row b n)=>aaZ (bV cx.P e) (uH tm hi n) (uH tm lo 0) (g.at b) b 0 n g
   | .slice e,some (.Dw b off n)=>aaZ (bV cx.P e) (uH tm hi n) (uH tm lo 0) (g.at b) b off n g
   | .slice e,some (.vw k off n)=>ahw (bV cx.P e) (uH tm hi n) (uH tm lo 0) (cx.vw k) k off n g
   | _,_=>none
  | none=>none
 | _=>none
def nC (cx:Cx) (T:TypeId) (k:Nat):Option Field:=match bV cx.P T with
 | some i=>match i.d with | .struct fs=>fs[k]? | _=>none
 | none=>none
def Ei (cx:Cx) (tm:Tm) (T:TypeId) (x:Operand) (k:Nat) (g:G):bI:=match nC cx T k with
 | some f=>match dD tm x with
  | some (.ptr b off)=>match bV cx.P f.type with
   | some j=>bif Nat.beq j.size 0 then none else some (.ptr b (off+f.offset),g,[])
   | none=>none
  | _=>none
 | none=>none
def Ur(r:Option AV)(g:G):bI:=match r with | some v=>some (v,g,[]) | none=>none
def Us (cx:Cx) (tm:Tm) (T:TypeId) (x:Operand) (k:Nat) (g:G):bI:=match nC cx T k with
 | some f=>match dD tm x with
  | some (.agg cs)=>Ur (apart cx f.type cs f.offset) g
  | _=>none
 | none=>none
def akH (cx:Cx) (v:AV) (j:TI) (arr:Option Nat) (i:AV) (g:G):bI:=match v with
 | .ptr b off=>match arr with
  | some n=>match Bz n i with | some i=>some (.ptr b (off+i*j.size),g,[]) | none=>none
  | none=>none
 | .slc b off n _=>match arr with
  | none=>match Bz n i with | some i=>some (.ptr b (off+i*j.size),g,[]) | none=>none
  | some _=>none
 | .row b n=>match arr with
  | none=>match Bz n i with | some i=>some (.ptr b (i*j.size),g,[]) | none=>none
  | some _=>none
 | .Dw b off n=>match arr with
  | none=>match Bz n i with | some i=>some (.ptr b (off+i*j.size),g,[]) | none=>none
  | some _=>none
 | .vw k off n=>match arr with
  | none=>match cx.vw k with
   | some _=>match Bz n i with | some i=>some (.vp k (off+i*j.size),g,[]) | none=>none
   | none=>none
  | some _=>none
 | _=>none
def elemOf(cx:Cx)(T:TypeId):Option (TypeId×Option Nat):=match bV cx.P T with
 | some i=>match i.d with | .array n e=>some (e,some n) | .slice e=>some (e,none) | _=>none
 | none=>none
def Ej (cx:Cx) (tm:Tm) (T:TypeId) (x i:Operand) (g:G):bI:=match elemOf cx T with
 | some (e,arr)=>match dD tm x with
  | some v=>match dD tm i with
   | some iv=>match bV cx.P e with | some j=>akH cx v j arr iv g | none=>none
   | none=>none
  | none=>none
 | none=>none
def Zm (cx:Cx) (e n:Nat) (cs:List AV) (i:AV) (g:G):bI:=match bV cx.P e with
 | some j=>match Bz n i with | some i=>Ur (apart cx e cs (i*j.size)) g | none=>none
 | none=>none
def Ut (cx:Cx) (tm:Tm) (T:TypeId) (x i:Operand) (g:G):bI:=match elemOf cx T with
 | some (e,some n)=>match dD tm x with
  | some (.agg cs)=>match dD tm i with | some iv=>Zm cx e n cs iv g | none=>none
  | _=>none
 | _=>none
def KT (v:Option AV) (i:Nat) (g:G):bI:=match v with
 | some (.jm vs)=>Ur (nth vs i) g
 | _=>none
def akI (cx:Cx) (arr:Option Nat) (x:AV) (g:G):bI:=match arr with
 | some n=>some (.lit (.int .i64 n),g,[])
 | none=>match x with
  | .slc _ _ n _=>some (.lit (.int .i64 n),g,[])
  | .row _ n=>some (.lit (.int .i64 n),g,[])
  | .Dw _ _ n=>some (.lit (.int .i64 n),g,[])
  | .vw k _ n=>match cx.vw k with | some _=>some (.lit (.int .i64 n),g,[]) | none=>none
  | .lit (.slice none 0 0)=>some (.lit (.int .i64 0),g,[])
  | _=>none
def ahx (cx:Cx) (tm:Tm) (ts:List TypeId) (args:List Operand) (g:G):bI:=match ts,args with
 | [t],[a]=>match dD tm a with
  | some x=>match elemOf cx t with | some (_,arr)=>akI cx arr x g | none=>none
  | none=>none
 | _,_=>none
def ahy (tm:Tm) (args:List Operand) (cx:Cx) (g:G):bI:=match args with
 | [a,b]=>match dD tm a,dD tm b with
  | some x,some y=>Eh cx g .min [x,y] false
  | _,_=>none
 | _=>none
def Pn (cx:Cx) (tm:Tm) (ts:List TypeId) (args:List Operand) (g:G):bI:=match ts,jO tm args with
 | [t,u],some [s,x]=>bif Nat.beq t u then(match sliceOf cx t with | some e=>Uj cx g e s x | none=>none) else none
 | _,_=>none
def Uu (g:G):List Nat->Nat->Nat
 | [],T=>T
 | b::l,T=>Uu g l (match g.at b with | some B=>Nat.lor T (dM B.cs) | none=>T)
def Tj:Nat->Nat->List Nat->List Nat
 | 0,_,acc=>acc
 | f+1,m,acc=>bif Nat.beq m 0 then acc else fN (Nat.log2 m) fun b=>fN (Nat.sub m (Nat.pow 2 b)) fun m=>Tj f m (b::acc)
def Em (f m:Nat):List Nat:=Tj f m []
def reach (g:G):Nat->Nat->Nat
 | 0,T=>T
 | f+1,T=>fN (Uu g (Em 1000 T) T) fun T'=>bif Nat.beq T' T then T else reach g f T'
def AB.I5 (ro:Bool):AB->AB
 | ⟨T,r,row,cs⟩=>⟨T,ro||r,row,cs⟩
def BA {β:Type} (h:G) (ro:Bool):List Nat->Tr AB->(Tr AB->β)->β
 | [],t,k=>k t
 | b::l,t,k=>match h.at b with
  | some B=>bif Nat.blt b 1000000 then Tr.jG 20 t b (some (B.I5 ro)) fun t=>BA h ro l t k else BA h ro l t k
  | none=>BA h ro l t k
def xC {β:Type} (h:G) (no:β):List Nat->Tr AB->(Tr AB->β)->β
 | [],t,k=>k t
 | b::l,t,k=>bif Nat.blt b 1000000 then fO (h.at b) fun x=>Tr.jG 20 t b x fun t=>xC h no l t k else no
def news (n0 n1:Nat):Nat:=Nat.sub (Nat.pow 2 n1) (Nat.pow 2 n0)
def kP (S:Nat) (g:G):List Nat->Bool
 | []=>true
 | b::l=>(match g.at b with | some B=>KQ (dM B.cs) S | none=>true)&&kP S g l
def sG:Nat->Nat->List Nat
 | 0,_=>[]
 | f+1,n=>n::sG f (Nat.succ n)
def ad1 (g:G) (l:List Nat) (r:bI):bI:=match r with
 | some (v,g1,δ)=>bif v.lt g.n&&kP (Nat.sub (Nat.pow 2 g.n) 1) g1 l then xC g1 none l g.hp fun hp=>fN g1.nv fun nv=>some (v,⟨hp,g.n,nv⟩,δ)
  else bif Nat.ble g.n g1.n then xC g1 none (sG (Nat.sub g1.n g.n) g.n) g.hp fun hp=>xC g1 none l hp fun hp=>fN g1.nv fun nv=>fN g1.n fun n=>some (v,⟨hp,n,nv⟩,δ) else none
 | none=>none
def ad2 (call:jU) (f:FuncId) (args:List AV) (g:G) (T:Nat):bI :=
 fL (Em 1000 T) fun l=>bif Nat.blt T (Nat.pow 2 g.n)&&kP T g l then BA g false l .nil fun hp=>ad1 g l (call f args ⟨hp,g.n,g.nv⟩) else none
def Tn (cx:Cx) (call:jU) (tm:Tm) (c:Call) (g:G):bI:=match Pm cx tm c with
 | some (f,args)=>match CV cx.P f with
  | some _=>zS args fun args=>fN (reach g 100 (dM args)) fun T=>ad2 call f args g T
  | none=>none
 | none=>none
def ad3 (cx:Cx) (call:jU) (tm:Tm) (c:Call) (g:G):bI:=match c.callee with
 | .builtin b=>match b with
  | .len=>ahx cx tm c.argTypes.toList c.args.toList g
  | .append=>Pn cx tm c.argTypes.toList c.args.toList g
  | .min=>ahy tm c.args.toList cx g
  | _=>none
 | _=>Tn cx call tm c g
def MK (cx:Cx) (call:jU) (tm:Tm) (o:Oper) (g:G):bI :=
 match o.op with
 | .move x=>MJ tm x g
 | .assign x=>MJ tm x g
 | .pick c a b=>aaW tm c a b g
 | .alloc T=>Uk cx T g
 | .box T x=>ahr tm T x g
 | .build T parts=>Um cx tm T parts.toList g
 | .buildSlice T len parts=>CW cx tm T len parts.toList g
 | .load T a=>aaX cx tm T a g
 | .store T a x=>Un cx tm T a x g
 | .nilCheck x=>ahs (dD tm x) g
 | .binOp op T x y _=>aht cx tm op T x y g
 | .unOp op _ x=>oUn cx op (dD tm x) g
 | .convert src dst x=>aaY cx src dst (dD tm x) g
 | .makeInterface T x=>ahu cx tm T x g
 | .makeFunc f a c=>ahv tm f a.toList c.toList g
 | .slice T x lo hi mx=>Uo cx tm T x lo hi mx g
 | .fieldAddr T x k=>Ei cx tm T x k g
 | .field T x k=>Us cx tm T x k g
 | .indexAddr T x i=>Ej cx tm T x i g
 | .index T x i=>Ut cx tm T x i g
 | .extract x i=>KT (dD tm x) i g
 | .call c=>ad3 cx call tm c g
 | _=>none
def zT {β:Type} (tm:Tm) (d:Option Nat) (v:AV) (no:β) (k:Tm->β):β:=match d with
 | some d=>bif Nat.blt d tm.n&&Nat.blt d 1000000 then Tr.jG 20 tm.t d (some v) fun t=>k ⟨tm.n,t⟩ else no
 | none=>k tm
def En (ops:Array Oper) (tm:Tm) (o:Oper):Option Bool :=
 match o.guard with
 | none=>some true
 | some (j,want)=>match ops[j]? with
  | some oj=>match oj.dst with
   | some d=>match tm.at d with
    | .lit (.bool b)=>bif Nat.blt d tm.n then some (b==want) else none
    | _=>none
   | none=>none
  | none=>none
abbrev KU:=Option (Tm×G×List Ev)
def atq (δ:List Ev) (r:KU):KU:=match r with
 | some (tm',g'',δ')=>some (tm',g'',δ++δ')
 | none=>none
def akJ (tm:Tm) (d:Option Nat) (n:Nat) (r:bI) (next:Tm->G->KU):KU:=match r with
 | some (v,g,δ)=>bif v.lt g.n&&Nat.ble n g.n then zT tm d v none fun tm=>atq δ (next tm g) else none
 | none=>none
def CX (cx:Cx) (call:jU) (ops:Array Oper):List Oper->Tm->G->KU
 | [],tm,g=>some (tm,g,[])
 | o::l,tm,g=>match En ops tm o with
  | none=>none
  | some false=>zT tm o.dst (.lit undef) none fun tm=>CX cx call ops l tm g
  | some true=>akJ tm o.dst g.n (MK cx call tm o g) (CX cx call ops l)
structure Rec where
 o:Oper
 want:Bool
 v:AV
 T:Nat
 W:Nat
 l:List Nat
 n0:Nat
 n1:Nat
 g:G
 ev:List Ev
 L:Nat
 D:Nat
def wW:List Operand->Nat
 | []=>0
 | .tmp t::l=>Nat.lor (Nat.pow 2 t) (wW l)
 | _::l=>wW l
def uI (ops:Array Oper) (o:Oper):Nat:=match o.guard with
 | none=>0
 | some (g,_)=>match ops[g]? with | some og=>(match og.dst with | some d=>Nat.pow 2 d | none=>0) | none=>0
def KW(o:Oper):Nat:=match o.dst with | some d=>Nat.pow 2 d | none=>0
def akK:Op->Bool
 | .load _ _=>true
 | .store _ _ _=>true
 | .call _=>true
 | _=>false
def shallow:Op->Bool
 | .load _ _=>true
 | .store _ _ _=>true
 | .slice _ _ _ _ _=>true
 | .convert _ _ _=>true
 | _=>false
def Tq(o:Oper)(T W n0 L D:Nat)(l:List Nat)(old:G)(r:bI)(no:Unit->Option (Rec×G)):Option (Rec×G):=match r with
 | some (v,g,δ)=>fN (Nat.lor T (news n0 g.n)) fun S=>fL (sG (Nat.sub g.n n0) n0) fun nl =>
  bif Nat.ble n0 g.n&&KQ v.kL S&&kP S g nl&&kP S g l then
   xC g none nl old.hp fun hp=>xC g none l hp fun hp=>some (⟨o,true,v,T,W,l,n0,g.n,g,δ,L,D⟩,⟨hp,g.n,g.nv⟩)
  else none
 | none=>no ()
def I7(cx:Cx)(call:jU)(tm:Tm)(o:Oper)(g:G)(T TH L D:Nat):Option (Rec×G) :=
 fL (Em 1000 TH) fun l=>bif Nat.blt T (Nat.pow 2 g.n)&&KQ TH T&&kP T g l then
  BA g true l .nil fun hm=>Tq o T 0 g.n L D [] g (MK cx call tm o ⟨hm,g.n,g.nv⟩) fun _=>BA g false l .nil fun hm=>Tq o T TH g.n L D l g (MK cx call tm o ⟨hm,g.n,g.nv⟩) fun _=>none
 else none
def ahz(cx:Cx)(call:jU)(ops:Array Oper)(tm:Tm)(o:Oper)(g:G):Option (Rec×G) :=
 match jO tm o.op.operands.toList with
 | none=>none
 | some vs=>bif shallow o.op then fN (dM vs) fun TH=>fN (Uu g (Em 1000 TH) TH) fun T=>I7 cx call tm o g T TH (Nat.lor (wW o.op.operands.toList) (uI ops o)) (KW o)
  else bif akK o.op then fN (reach g 100 (dM vs)) fun T=>I7 cx call tm o g T T (Nat.lor (wW o.op.operands.toList) (uI ops o)) (KW o)
  else fN (dM vs) fun T=>I7 cx call tm o g T 0 (Nat.lor (wW o.op.operands.toList) (uI ops o)) (KW o)
abbrev ML:=Option (List Rec×Tm×G)
def addRec (r:Rec) (x:ML):ML:=match x with
 | some (rs,tm',g')=>some (r::rs,tm',g')
 | none=>none
def recOn(tm:Tm)(x:Option (Rec×G))(next:Tm->G->ML):ML:=match x with
 | some (r,g)=>zT tm r.o.dst r.v none fun tm=>addRec r (next tm g)
 | none=>none
def yQ (cx:Cx) (call:jU) (ops:Array Oper):List Oper->Tm->G->ML
 | [],tm,g=>some ([],tm,g)
 | o::l,tm,g=>match En ops tm o with
  | none=>none
  | some false=>zT tm o.dst (.lit undef) none fun tm1=>addRec ⟨o,false,.lit undef,0,0,[],g.n,g.n,g,[],uI ops o,KW o⟩ (yQ cx call ops l tm1 g)
  | some true=>recOn tm (ahz cx call ops tm o g) (yQ cx call ops l)
def I8 (acc:List Nat):List Edge->Nat->Nat
 | [],s=>s
 | e::l,s=>I8 acc l (bif Region.binds .any e then Nat.lor (Nat.lor s (Nat.pow 2 e.on)) (match nth acc e.on with | some m=>m | none=>0) else s)
def ahead:List Oper->List Nat->List Nat
 | [],acc=>acc
 | o::l,acc=>fN (I8 acc o.after.toList 0) fun m=>fL (acc++[m]) fun acc=>ahead l acc
def conflict (x y:Rec):Bool :=
 !(Nat.beq (Nat.land x.D (Nat.lor y.L y.D)) 0&&Nat.beq (Nat.land y.D x.L) 0 &&
   Nat.beq (Nat.land (Nat.lor x.W (news x.n0 x.n1)) y.T) 0&&Nat.beq (Nat.land y.W x.T) 0 &&
   (kH x.ev||kH y.ev))
def MN (y:Rec) (m:Nat):Nat->List Rec->Bool
 | _,[]=>true
 | i,x::l=>(tb m i||!conflict x y)&&MN y m (i+1) l
def fine:List Rec->List Rec->List Nat->Bool
 | done,y::l,m::ms=>MN y m 0 done&&fine (done++[y]) l ms
 | _,[],_=>true
 | _,_::_,[]=>false
def Tt (i:Nat):List Edge->Bool
 | []=>true
 | e::l=>(!Region.binds .any e||Nat.blt e.on i)&&Tt i l
def backward:Nat->List Oper->Bool
 | _,[]=>true
 | i,o::l=>Tt i o.after.toList&&backward (i+1) l
def Uw (cx:Cx) (call:jU) (ops:Array Oper) (tm:Tm) (g:G):KU :=
 match yQ cx call ops ops.toList tm g with
 | none=>none
 | some (rs,tm',g')=>bif backward 0 ops.toList&&fine [] rs (ahead ops.toList []) then some (tm',g',(rs.map (·.ev)).flatten) else none
def zU:Tr AB->Tr AB
 | .nil=>.nil
 | .nd (some ⟨t,_,row,cs⟩) l r=>.nd (some ⟨t,true,row,cs⟩) (zU l) (zU r)
 | .nd none l r=>.nd none (zU l) (zU r)
def yB (cx:Cx) (g:G) (tm:Tm):List ResultVar->Option (List AV)
 | []=>some []
 | .tmp t::l=>match yB cx g tm l with
  | some vs=>some (tm.at t::vs)
  | none=>none
 | .cell a T::l=>match tm.at a,yB cx g tm l with
  | .ptr b off,some vs=>match IY cx g T b off with | some v=>some (v::vs) | none=>none
  | _,_=>none
abbrev pW:=Option (QE×Tm×G×List Ev)
def Po (r:pW) (next:Tm->G->pW):pW:=match r with
 | some (.normal,tm1,g1,δ1)=>match next tm1 g1 with
  | some (ex,tm2,g2,δ2)=>some (ex,tm2,g2,δ1++δ2)
  | none=>none
 | r=>r
def Pq (r:KU):pW:=match r with
 | some (tm',g',δ)=>some (.normal,tm',g',δ)
 | none=>none
def aov (δ:List Ev) (r:pW):pW:=match r with
 | some (ex,tm',g'',δ')=>some (ex,tm',g'',δ++δ')
 | none=>none
def ahA (b:Option Bool) (i:Nat) (g:G) (next:Bool->G->pW):pW:=match b with
 | some b=>fN (Nat.succ g.nv) fun nv=>aov [.yx .is [.opq i] (.lit (.bool b))] (next b ⟨g.hp,g.n,nv⟩)
 | none=>none
def Ux (id:Nat) (r:pW):pW:=match r with
 | some (.exit id',tm1,g1,δ1)=>some (bif Nat.beq id' id then .normal else .exit id',tm1,g1,δ1)
 | r=>r
def kEv (fn:FuncId) (args:List AV) (g:G) (out:AV) (k:Nat):bI:=match eargs g args with
 | some xs=>bif out.lt 0 then zQ out fun out=>fN (g.nv+k) fun nv=>some (out,⟨g.hp,g.n,nv⟩,[.call fn xs out]) else none
 | none=>none
def aa0 (P:Program) (fn:FuncId) (args:List AV) (g:G) (call:jU):bI:=match args with
 | [recv,.lit (.int .i64 n),.fn (.func b) first cap]=>match CV P b with
  | none=>none
  | some _=>match call b (first++[.opq g.nv]++cap) ⟨zU g.hp,g.n,g.nv+1⟩ with
   | some (.jm [],g',δ)=>bif recv.lt 0 then fN g'.nv fun nv=>some (.jm [],⟨g.hp,g.n,nv⟩,[.loop fn recv n g.nv δ]) else none
   | _=>none
 | _=>none
def ahB (vs:Option (List AV)) (g':G) (δ:List Ev):bI:=match vs with
 | some [v]=>bif v.lt g'.n then some (v,g',δ) else none
 | some vs=>bif iE g'.n vs then zS vs fun vs=>some (.jm vs,g',δ) else none
 | none=>none
def aa1 (cx:Cx) (res:List ResultVar) (r:pW):bI:=match r with
 | some (.exit _,_,_,_)=>none
 | some (_,tm',g',δ)=>ahB (yB cx g' tm' res) g' δ
 | none=>none
def Eo:List AV->Nat->Tr AV->Tr AV
 | [],_,t=>t
 | v::l,i,t=>Eo l (Nat.succ i) (Tr.set 20 t i (some v))
mutual
def dI (cx:Cx):Nat->Code->Tm->G->pW
 | 0,_,_,_=>none
 | f+1,c,tm,g=>match c with
  | .skip=>some (.normal,tm,g,[])
  | .region _ ops draw=>Pq (bif draw then Uw cx (iK cx f) ops tm g else CX cx (iK cx f) ops ops.toList tm g)
  | .seq x y=>Po (dI cx f x tm g) (dI cx f y)
  | .cond c x y=>match dD tm c with
   | some (.lit (.bool t))=>dI cx f (bif t then x else y) tm g
   | some (.opq i)=>ahA (cx.br g.nv) i g fun t g=>dI cx f (bif t then x else y) tm g
   | _=>none
  | .block id x=>Ux id (dI cx f x tm g)
  | .loop x=>Po (dI cx f x tm g) (dI cx f (.loop x))
  | .exit id=>some (.exit id,tm,g,[])
  | .ret=>some (.ret,tm,g,[])
  | _=>none
def iK (cx:Cx):Nat->jU
 | 0,_,_,_=>none
 | f+1,fn,args,g=>match cx.ev fn args g.nv with
  | some (out,k)=>kEv fn args g out k
  | none=>bif cx.lp fn then aa0 cx.P fn args g (iK cx f) else
   match CV cx.P fn with
   | some F=>bif Nat.ble (aF args) F.ntmps&&Nat.ble F.ntmps 1000 then aa1 cx F.res (dI cx f F.body ⟨F.ntmps,Eo args 0 .nil⟩ g) else none
   | none=>none
end
end Xi
namespace Xi
open Go Go.RowKit
@[simp] theorem dG {β:Type} (n:Nat) (k:Nat->β):fN n k=k n:=by cases n<;>rfl
@[simp] theorem akL {α β:Type} (x:Option α) (k:Option α->β):fO x k=k x:=by cases x<;>rfl
@[simp] theorem atr {α β:Type} (x:Tr α) (k:Tr α->β):fT x k=k x:=by cases x<;>rfl
@[simp] theorem oG {α β:Type} (l:List α) (k:List α->β):fL l k=k l:=by
  induction l generalizing k with
  | nil=>rfl
  | cons v l ih=>simp only [fL,ih]
mutual
theorem MQ{β:Type}:∀(v:AV) (k:AV->β),zQ v k=k v
 | .lit v,k=>rfl
 | .opq i,k=>by simp only [zQ,dG]
 | .ptr b o,k=>by simp only [zQ,dG]
 | .slc b o n c,k=>by simp only [zQ,dG]
 | .row b n,k=>by simp only [zQ,dG]
 | .fn f a c,k=>by simp only [zQ]; rw [jr a,jr c]
 | .qC t v,k=>by simp only [zQ]; rw [MQ v]
 | .agg cs,k=>by simp only [zQ]; rw [jr cs]
 | .jm vs,k=>by simp only [zQ]; rw [jr vs]
 | .vw i o n,k=>by simp only [zQ,dG]
 | .vp i o,k=>by simp only [zQ,dG]
 | .Dw b o n,k=>by simp only [zQ,dG]
theorem jr{β:Type}:∀(l:List AV) (k:List AV->β),zS l k=k l
 | [],k=>rfl
 | v::l,k=>by simp only [zS]; rw [MQ v,jr l]
end
attribute [simp] MQ jr
@[simp] theorem dY {α β:Type}:∀(f:Nat) (t:Tr α) (n:Nat) (x:Option α) (k:Tr α->β),Tr.jG f t n x k=k (Tr.set f t n x)
  | 0,t,_,_,k=>rfl
  | f+1,t,0,x,k=>by simp [Tr.jG,Tr.set]
  | f+1,t,m+1,x,k=>by
   simp only [Tr.jG,Tr.set,akL,atr]
   cases h:Nat.beq (Nat.mod m 2) 0<;>simp [dY f]
theorem Tr.get_nil{α:Type}(n:Nat):(Tr.nil:Tr α).get n=none:=rfl
theorem Tr.GL{α:Type}(t:Tr α)(n:Nat):t.get n=(match n with | 0=>t.val | m+1=>bif Nat.beq (Nat.mod m 2) 0 then t.lf.get (Nat.div m 2) else t.rt.get (Nat.div m 2)):=by
 cases t with
 | nil=>cases n<;>simp [Tr.get,Tr.val,Tr.lf,Tr.rt]
 | nd v l r=>cases n<;>rfl
theorem rE(a b:Nat):Nat.beq a b=decide (a=b):=by
 cases h:Nat.beq a b with
 | true=>simp [Nat.eq_of_beq_eq_true h]
 | false=>simp [Nat.ne_of_beq_eq_false h]
theorem Tr.ahC{α:Type}(f:Nat)(t:Tr α)(n:Nat)(x:Option α):Tr.set (f+1) t (n+1) x=bif Nat.beq (Nat.mod n 2) 0 then .nd t.val (Tr.set f t.lf (Nat.div n 2) x) t.rt else .nd t.val t.lf (Tr.set f t.rt (Nat.div n 2) x):=rfl
theorem Tr.Ep{α:Type}(v:Option α)(l r:Tr α)(m:Nat):(Tr.nd v l r).get (m+1)=bif Nat.beq (Nat.mod m 2) 0 then l.get (Nat.div m 2) else r.get (Nat.div m 2):=rfl
theorem Tr.Pv{α:Type}:∀(f:Nat) (t:Tr α) (n m:Nat) (x:Option α),n+1<2 ^ f->(Tr.set f t n x).get m=if m=n then x else t.get m
 | 0,t,n,m,x,h=>by simp at h
 | f+1,t,0,m,x,h=>by
  cases m with
  | zero=>rfl
  | succ m=>rw [Tr.GL t]; rfl
 | f+1,t,n+1,m,x,h=>by
  have hm:Nat.mod n 2=n%2:=rfl;have hd:Nat.div n 2=n / 2:=rfl;have hlt:n / 2+1<2 ^ f:=by rw [Nat.pow_succ] at h; omega
  rw [Tr.ahC,hm,hd,rE]
  cases m with
  | zero =>
   rw [Tr.GL t]
   cases decide (n%2=0)<;>rfl
  | succ m =>
   have hm':Nat.mod m 2=m%2:=rfl;have hd':Nat.div m 2=m / 2:=rfl;rw [Tr.GL t];simp only [];rw [rE,hm',hd'];by_cases h0:n%2=0
   . simp only [h0,decide_true,cond_true]
     rw [Tr.Ep,rE,hm',hd'];by_cases h1:m%2=0
     . simp only [h1,decide_true,cond_true]
       rw [Tr.Pv f _ _ _ _ hlt];by_cases h2:m=n
       . subst h2; simp
       . rw [if_neg (by omega),if_neg (by omega)]
     . simp only [h1,decide_false,cond_false]
       rw [if_neg (by omega)]
   . simp only [h0,decide_false,cond_false]
     rw [Tr.Ep,rE,hm',hd'];by_cases h1:m%2=0
     . simp only [h1,decide_true,cond_true]
       rw [if_neg (by omega)]
     . simp only [h1,decide_false,cond_false]
       rw [Tr.Pv f _ _ _ _ hlt];by_cases h2:m=n
       . subst h2; simp
       . rw [if_neg (by omega),if_neg (by omega)]
theorem Tr.lX{α:Type}(t:Tr α)(n m:Nat)(x:Option α)(h:n<1000000):(Tr.set 20 t n x).get m=if m=n then x else t.get m :=
 Tr.Pv 20 t n m x (by omega)
theorem cO(E:Env)(l:List AV):ay E l=l.map (AV.aA E):=by
 induction l with
 | nil=>rfl
 | cons v l ih=>simp only [ay,ih,List.map_cons]
theorem att(m k:Nat):tb m k=m.testBit k:=by
 unfold tb Nat.testBit;rw [rE];show decide (1 &&& (m >>> k)=1)=(1 &&& (m >>> k) != 0);have:1 &&& (m >>> k)=(m >>> k)%2:=by rw [Nat.and_comm,Nat.and_one_is_mod]
 rw [this];rcases Nat.mod_two_eq_zero_or_one (m >>> k) with h | h<;>simp [h]
theorem lor_eq(a b:Nat):Nat.lor a b=a ||| b:=rfl
theorem land_eq(a b:Nat):Nat.land a b=a &&& b:=rfl
theorem pow_eq(a b:Nat):Nat.pow a b=a ^ b:=rfl
theorem aI{a b:Nat}:Nat.blt a b=true↔a<b:=by unfold Nat.blt; rw [Nat.ble_eq]; omega
theorem bn{a b:Nat}:Nat.ble a b=true↔a<=b:=by rw [Nat.ble_eq]
theorem beq_iff{a b:Nat}:Nat.beq a b=true↔a=b:=by rw [rE]; simp
theorem I9(b k:Nat):(2 ^ b).testBit k=decide (b=k):=Nat.testBit_two_pow
theorem zV{m S k:Nat}(h:KQ m S=true)(hk:m.testBit k=true):S.testBit k=true:=by
 unfold KQ at h;rw [beq_iff,lor_eq] at h;rw [<- h,Nat.testBit_or,hk]; rfl
theorem fQ{m n k:Nat}(h:m<2 ^ n)(hk:m.testBit k=true):k<n:=by
 rcases Nat.lt_or_ge k n with h1 | h1
 . exact h1
 . have h2:=Nat.testBit_lt_two_pow (Nat.lt_of_lt_of_le h (Nat.pow_le_pow_right (by omega:0<2) h1))
   rw [h2] at hk; cases hk
theorem AV.fQ{v:AV}{n k:Nat}(h:v.lt n=true)(hk:v.kL.testBit k=true):k<n:=by
 unfold AV.lt at h;rw [aI,pow_eq] at h;exact Xi.fQ h hk
theorem kE{l:List AV}{n k:Nat}(h:iE n l=true)(hk:(dM l).testBit k=true):k<n:=by
 unfold iE at h;rw [aI,pow_eq] at h;exact Xi.fQ h hk
theorem dP{m n:Nat}(h:∀ k,m.testBit k=true->k<n):m<2 ^ n:=by
 rcases Nat.lt_or_ge m (2 ^ n) with h1 | h1
 . exact h1
 . obtain⟨k,hk,hb⟩:=Nat.exists_ge_and_testBit_of_ge_two_pow h1
   have:=h k hb;omega
theorem fF{l:List AV}{v:AV}{k:Nat}(hv:v∈l)(hk:v.kL.testBit k=true):(dM l).testBit k=true:=by
 induction l with
 | nil=>cases hv
 | cons x l ih =>
  simp only [dM,lor_eq,Nat.testBit_or,Bool.or_eq_true];rcases List.mem_cons.1 hv with rfl | h
  . exact .inl hk
  . exact .inr (ih h)
theorem Dz{l:List AV}{k:Nat}(hk:(dM l).testBit k=true):∃ v∈l,v.kL.testBit k=true:=by
 induction l with
 | nil=>simp [dM] at hk
 | cons x l ih =>
  simp only [dM,lor_eq,Nat.testBit_or,Bool.or_eq_true] at hk;rcases hk with h | h
  . exact⟨x,by simp,h⟩
  . obtain⟨v,hv,h⟩:=ih h
    exact⟨v,by simp [hv],h⟩
theorem Es{a b k:Nat}(h:Nat.beq (Nat.land a b) 0=true)(ha:a.testBit k=true):b.testBit k=false:=by
 rw [beq_iff,land_eq] at h;have:(a &&& b).testBit k=false:=by rw [h]; simp
 rw [Nat.testBit_and,ha] at this
 simpa using this
theorem Uy{n0 n1 k:Nat}(h:n0<=n1):(2 ^ n1 - 2 ^ n0).testBit k=(decide (n0<=k)&&decide (k<n1)):=by
 have e:2 ^ n1 - 2 ^ n0=(2 ^ (n1 - n0) - 1) <<< n0:=by
  rw [Nat.shiftLeft_eq,Nat.sub_mul,Nat.one_mul,<- Nat.pow_add,Nat.sub_add_cancel h]
 rw [e,Nat.testBit_shiftLeft,Nat.testBit_two_pow_sub_one];by_cases h1:n0<=k<;>simp [h1]
 omega
theorem QF:∀(f m:Nat) (acc:List Nat) (b:Nat),b∈Tj f m acc->b∈acc\/m.testBit b=true
 | 0,m,acc,b,h=>.inl h
 | f+1,m,acc,b,h=>by
  unfold Tj at h;by_cases h0:Nat.beq m 0=true
  . rw [h0] at h; exact .inl h
  . simp only [Bool.not_eq_true] at h0
    rw [h0] at h;simp only [cond_false,dG] at h;have hm:m≠0:=fun e=>by rw [e] at h0; cases h0
    have hl:=Nat.testBit_log2 hm;rcases QF f _ _ b h with h | ih
    . rcases List.mem_cons.1 h with rfl | h
      . exact .inr hl
      . exact .inl h
    . right
      have hs:Nat.sub m (Nat.pow 2 m.log2)=m - 2 ^ m.log2:=rfl;rw [hs] at ih;have h1:m<2 ^ (m.log2+1):=Nat.lt_log2_self;have h2:=Nat.log2_self_le hm;have h3:m - 2 ^ m.log2<2 ^ m.log2:=by rw [Nat.pow_succ] at h1; omega
      have h4:=fQ h3 ih;have h5:m=2 ^ m.log2+(m - 2 ^ m.log2):=by omega
      rw [h5,Nat.testBit_two_pow_add_gt h4];exact ih
theorem QG(f m b:Nat)(h:b∈Em f m):m.testBit b=true:=by
 rcases QF f m [] b h with h | h
 . cases h
 . exact h
end Xi
namespace Xi
open Go Go.RowKit
mutual
theorem rG{E E':Env}(hρ:E'.ρ=E.ρ):∀(v:AV),(∀ k,v.kL.testBit k=true->E'.γ k=E.γ k/\E'.κ k=E.κ k)->v.aA E'=v.aA E
 | .lit v,h=>rfl
 | .opq i,h=>by simp only [AV.aA,hρ]
 | .ptr b o,h=>by simp only [AV.aA]; rw [(h b (by simp [AV.kL,Nat.testBit_two_pow])).1]
 | .slc b o n c,h=>by simp only [AV.aA]; rw [(h b (by simp [AV.kL,Nat.testBit_two_pow])).1]
 | .row b n,h=>by simp only [AV.aA]; rw [(h b (by simp [AV.kL,Nat.testBit_two_pow])).1,(h b (by simp [AV.kL,Nat.testBit_two_pow])).2]
 | .fn f a c,h=>by
  simp only [AV.aA];rw [iq hρ a (fun k hk=>h k (by simp [AV.kL,lor_eq,hk])),iq hρ c (fun k hk=>h k (by simp [AV.kL,lor_eq,hk]))]
 | .qC t v,h=>by simp only [AV.aA]; rw [rG hρ v h]
 | .agg cs,h=>by simp only [AV.aA]; rw [iq hρ cs h]
 | .jm vs,h=>by simp only [AV.aA]; rw [iq hρ vs h]
 | .vw i o n,h=>by simp only [AV.aA,hρ]
 | .vp i o,h=>by simp only [AV.aA,hρ]
 | .Dw b o n,h=>by simp only [AV.aA]; rw [(h b (by simp [AV.kL,Nat.testBit_two_pow])).1,(h b (by simp [AV.kL,Nat.testBit_two_pow])).2]
theorem iq{E E':Env}(hρ:E'.ρ=E.ρ):∀(l:List AV),(∀ k,(dM l).testBit k=true->E'.γ k=E.γ k/\E'.κ k=E.κ k)->ay E' l=ay E l
 | [],h=>rfl
 | v::l,h=>by
  simp only [ay];rw [rG hρ v (fun k hk=>h k (by simp [dM,lor_eq,hk])),iq hρ l (fun k hk=>h k (by simp [dM,lor_eq,hk]))]
end
structure Fr (w w':World) (D:Nat->Prop):Prop where
 os:w'.os=w.os
 tape:w'.tape=w.tape
 output:w'.output=w.output
 size:w.heap.size<=w'.heap.size
 block:∀ k,k<w.heap.size->¬ D k->w'.heap[k]?=w.heap[k]?
theorem Fr.refl(w:World)(D:Nat->Prop):Fr w w D:=⟨rfl,rfl,rfl,Nat.le_refl _,fun _ _ _=>rfl⟩
theorem Fr.more{w w':World}{D D':Nat->Prop}(h:Fr w w' D)(hD:∀ k,k<w.heap.size->D k->D' k):Fr w w' D' :=
 ⟨h.os,h.tape,h.output,h.size,fun k hk hn=>h.block k hk (fun hd=>hn (hD k hk hd))⟩
theorem Fr.trans{w w' w'':World}{D D':Nat->Prop}(h:Fr w w' D)(h':Fr w' w'' D')(hD:∀ k,k<w.heap.size->D' k->D k):Fr w w'' D :=
 ⟨h'.os.trans h.os,h'.tape.trans h.tape,h'.output.trans h.output,Nat.le_trans h.size h'.size,fun k hk hn =>
   (h'.block k (Nat.lt_of_lt_of_le hk h.size) (fun hd=>hn (hD k hk hd))).trans (h.block k hk hn)⟩
theorem Fr.DC {w w':World} {D:List Nat} (h:ah w w' D):Fr w w' (·∈D):=⟨h.os,h.tape,h.output,h.size,h.block⟩
theorem Fr.aj {w w':World} {D:List Nat} (h:Fr w w' (·∈D)):ah w w' D:=⟨h.os,h.tape,h.output,h.size,h.block⟩
def MR (fp:List Nat) (w:World):Value->CA->Prop
 | a,.v x=>a=x
 | a,.l xs=>Sl w a xs/\∀ A n c,a=.slice (some A) n c->A.block∉fp
def b_ (fp:List Nat) (w:World):List Value->List CA->Prop
 | [],[]=>True
 | a::l,c::l'=>MR fp w a c/\b_ fp w l l'
 | _,_=>False
structure f_ (P:Program) where
 σ:Type
 I:σ->World->Prop
 fp:σ->World->List Nat
 lt:∀ s w,I s w->∀ d∈fp s w,d<w.heap.size
 keep:∀ s w w' D,I s w->Fr w w' D->(∀ k,D k->k∉fp s w)->I s w'/\fp s w'=fp s w
 step:σ->FuncId->List CA->Value->σ->Prop
 GN:σ->FuncId->Value->Int->Value->σ->Prop
 fin:σ->σ->FuncId->σ->Prop
 step_ok:∀ s w f args cas v s',I s w->b_ (fp s w) w args cas->step s f cas v s' ->
  Calls P f args.toArray w fun e w'=>e=.returned v/\I s' w'/\Fr w w' (·∈fp s w)/\∀ d∈fp s' w',d∈fp s w\/w.heap.size<=d
 I_:∀ s w f recv n i b (first cap:List Value) s1 s2 s',I s w->GN s f recv n i s1->fin s s2 f s'->(∀(args:Array Value) (W:World),(callFunc b args).run P W=.ok (.enter b args) W) ->
  (∀ w1,I s1 w1->Fr w w1 (·∈fp s w)->(∀ d∈fp s1 w1,d∈fp s w\/w.heap.size<=d)->Calls P b (first++[i]++cap).toArray w1 fun e w2=>e=.returned (.tuple #[])/\I s2 w2/\Fr w1 w2 (·∈fp s1 w1)/\∀ d∈fp s2 w2,d∈fp s1 w1\/w1.heap.size<=d) ->
  Calls P f #[recv,.int .i64 n,.func (.func b) first.toArray cap.toArray] w fun e w'=>e=.returned (.tuple #[])/\I s' w'/\Fr w w' (·∈fp s w)/\∀ d∈fp s' w',d∈fp s w\/w.heap.size<=d
def uJ (P:Program):Pr->List Value->Value->Prop
 | .bin op T,[x,y],v=>∀(a b:Operand) (w:World),(do eqGuard op T a b x y; binOp op T x y:Sem Value).run P w=.ok v w
 | .un op,[x],v=>∀ w:World,(Op.unary op x).run P w=.ok v w
 | .conv src dst,[x],v=>∀ w:World,(convert src dst x).run P w=.ok v w
 | .is,[x],v=>x=v
 | .min,[x,y],v=>∀ w:World,(Builtin.min2 x y).run P w=.ok v w
 | .str src dst,xs,v=>∀(w:World) (A:Addr) (m c:Nat),xs.length=m->(∀ j u,xs[j]?=some u->w.cell? (A.add j)=some u)->(convert src dst (.slice (some A) m c)).run P w=.ok v w
 | _,_,_=>False
def E0(ρ:Nat->Value):Env:=⟨fun _=>0,fun _=>0,ρ⟩
mutual
def aox {P:Program} (M:f_ P) (ρ:Nat->Value):Ev->M.σ->M.σ->Prop
 | .call f args out,s,s'=>M.step s f (args.map (EA.aA (E0 ρ))) (out.aA (E0 ρ)) s'
 | .yx p xs out,s,s'=>uJ P p (ay (E0 ρ) xs) (out.aA (E0 ρ))/\s=s'
 | .loop f r n i body,s,s'=>∃ s1 s2,M.GN s f (r.aA (E0 ρ)) n (ρ i) s1/\gX M ρ body s1 s2/\M.fin s s2 f s'
def gX {P:Program} (M:f_ P) (ρ:Nat->Value):List Ev->M.σ->M.σ->Prop
 | [],s,s'=>s=s'
 | e::l,s,s'=>∃ s1,aox M ρ e s s1/\gX M ρ l s1 s'
end
theorem mM{P:Program}{M:f_ P}{ρ:Nat->Value}:∀ {l l':List Ev} {s s':M.σ},gX M ρ (l++l') s s'↔∃ s1,gX M ρ l s s1/\gX M ρ l' s1 s'
 | [],l',s,s'=>by simp [gX]
 | e::l,l',s,s'=>by
  simp only [List.cons_append,gX,mM (l:=l)];constructor
  . rintro ⟨s1,h1,s2,h2,h3⟩; exact⟨s2,⟨s1,h1,h2⟩,h3⟩
  . rintro ⟨s2,⟨s1,h1,h2⟩,h3⟩; exact⟨s1,h1,s2,h2,h3⟩
theorem BD{P:Program}{M:f_ P}{ρ:Nat->Value}:∀ {l:List Ev} {s s':M.σ},kH l=true->gX M ρ l s s'->s=s'/\∀ t,gX M ρ l t t
 | [],s,s',_,h=>⟨h,fun _=>rfl⟩
 | .yx p xs out::l,s,s',hq,h=>by
  obtain⟨s1,⟨h1,rfl⟩,h2⟩:=h;obtain⟨h3,h4⟩:=BD (l:=l) hq h2;exact⟨h3,fun t=>⟨t,⟨h1,rfl⟩,h4 t⟩⟩
 | .call ..::l,s,s',hq,_=>by cases hq
 | .loop ..::l,s,s',hq,_=>by cases hq
def kT (E:Env) (w:World) (b:Nat) (B:AB):Prop :=
 if B.row then w.ownsRow 0 B.T 1 (.slice (some ⟨E.γ b,0,none⟩) B.cs.length (E.κ b)) B.cs.length (ay E B.cs) else aC w (E.γ b) B.T (ay E B.cs)
section
variable {P:Program} {M:f_ P}
structure Rep (M:f_ P) (E:Env) (s:M.σ) (h:Nat->Option AB) (n:Nat) (w:World):Prop where
 sD:M.I s w
 blk:∀ b B,h b=some B->kT E w b B/\E.γ b∉M.fp s w
 inj:∀ b b' B B',h b=some B->h b'=some B'->b≠b'->E.γ b≠E.γ b'
 ids:∀ b B,h b=some B->∀ k,(dM B.cs).testBit k=true->k<n
 top:∀ b B,h b=some B->b<n
def Dd (M:f_ P) (s:M.σ) (w:World) (E:Env) (h:Nat->Option AB) (k:Nat):Prop :=
 k∈M.fp s w\/∃ b B,h b=some B/\B.ro=false/\E.γ b=k
structure jk (M:f_ P) (E:Env) (h:Nat->Option AB) (n:Nat) (s:M.σ) (w:World) (E':Env) (h':Nat->Option AB) (n':Nat) (s':M.σ) (w':World):Prop where
 ext:∀ b,b<n->E'.γ b=E.γ b/\E'.κ b=E.κ b
 rho:E'.ρ=E.ρ
 rep:Rep M E' s' h' n' w'
 fr:Fr w w' (Dd M s w E h)
 grow:∀ d∈M.fp s' w',d∈M.fp s w\/w.heap.size<=d
 sub:∀ b B',h' b=some B'->b<n->∃ B,h b=some B/\(B'.ro=false->B.ro=false)
 new:∀ b B',h' b=some B'->n<=b->w.heap.size<=E'.γ b\/∃ c C,h c=some C/\C.ro=false/\E.γ c=E'.γ b
 le:n<=n'
variable {E E' E'':Env} {s s' s'':M.σ} {h h' h'':Nat->Option AB} {n n' n'':Nat} {w w' w'':World}
theorem Rep.went (r:Rep M E s h n w):jk M E h n s w E h n s w :=
 ⟨fun _ _=>⟨rfl,rfl⟩,rfl,r,Fr.refl _ _,fun d hd=>.inl hd,fun b B hb _=>⟨B,hb,id⟩,fun b B hb hn=>absurd (r.top b B hb) (by omega),Nat.le_refl _⟩
theorem kT.lt{b:Nat}{B:AB}(hb:kT E w b B):E.γ b<w.heap.size:=by
 unfold kT at hb;split at hb
 . rcases hb.2 with⟨h1,_⟩ | ⟨g,cap,cur,h1,_,h2,_⟩
   . cases h1
   . injection h1 with h1; injection h1 with h1; injection h1 with h1
     rw [h1]; exact lt_of_heap h2
 . exact aC.lt hb
theorem Rep.lt(r:Rep M E s h n w){b:Nat}{B:AB}(hb:h b=some B):E.γ b<w.heap.size:=(r.blk b B hb).1.lt
theorem jk.trans (a:jk M E h n s w E' h' n' s' w') (b:jk M E' h' n' s' w' E'' h'' n'' s'' w''):jk M E h n s w E'' h'' n'' s'' w'':=by
 have hD:∀ k,k<w.heap.size->Dd M s' w' E' h' k->Dd M s w E h k:=by
  rintro k hk (hf | ⟨c,C,hc,hr,rfl⟩)
  . rcases a.grow k hf with h1 | h1
    . exact .inl h1
    . omega
  . by_cases hcn:c<n
    . obtain⟨B,hB,hro⟩:=a.sub c C hc hcn
      exact .inr ⟨c,B,hB,hro hr,((a.ext c hcn).1).symm⟩
    . rcases a.new c C hc (by omega) with h1 | ⟨d,D,hd,hdr,hde⟩
      . omega
      . exact .inr ⟨d,D,hd,hdr,hde⟩
 refine⟨fun c hc=>?_,b.rho.trans a.rho,b.rep,a.fr.trans b.fr hD,fun d hd=>?_,fun c C hc hcn=>?_,fun c C hc hcn=>?_,Nat.le_trans a.le b.le⟩
 . have h1:=a.ext c hc
   have h2:=b.ext c (Nat.lt_of_lt_of_le hc a.le);exact⟨h2.1.trans h1.1,h2.2.trans h1.2⟩
 . rcases b.grow d hd with h1 | h1
   . exact a.grow d h1
   . have:=a.fr.size; right; omega
 . obtain⟨B1,h1,hr1⟩:=b.sub c C hc (Nat.lt_of_lt_of_le hcn a.le)
   obtain⟨B0,h0,hr0⟩:=a.sub c B1 h1 hcn;exact⟨B0,h0,fun hr=>hr0 (hr1 hr)⟩
 . have old : ∀ d D, h' d=some D -> D.ro=false -> E'.γ d=E''.γ c -> w.heap.size<=E''.γ c \/ ∃ c' C', h c'=some C' /\ C'.ro=false /\ E.γ c'=E''.γ c := fun d D hd hdr hde=>by
    by_cases hdn:d<n
    . obtain⟨B,hB,hro⟩:=a.sub d D hd hdn
      exact .inr ⟨d,B,hB,hro hdr,((a.ext d hdn).1).symm.trans hde⟩
    . rcases a.new d D hd (by omega) with h1 | ⟨x,X,hx,hxr,hxe⟩
      . left; omega
      . exact .inr ⟨x,X,hx,hxr,hxe.trans hde⟩
   by_cases hc':c<n'
   . obtain⟨B1,h1,hr1⟩:=b.sub c C hc hc'
     have he:=(b.ext c hc').1;rcases a.new c B1 h1 hcn with h2 | ⟨x,X,hx,hxr,hxe⟩
     . left; omega
     . exact .inr ⟨x,X,hx,hxr,hxe.trans he.symm⟩
   . rcases b.new c C hc (by omega) with h1 | ⟨d,D,hd,hdr,hde⟩
     . have:=a.fr.size; left; omega
     . exact old d D hd hdr hde
theorem kT.frame {b:Nat} {B:AB} {D:Nat->Prop} (hb:kT E w b B) (hf:Fr w w' D) (hn:¬ D (E.γ b)):kT E w' b B:=by
 have hl:=hb.lt;have e:=hf.block _ hl hn;unfold kT at hb ⊢;split
 . rename_i hr
   rw [if_pos hr] at hb;refine⟨hb.1,?_⟩;rcases hb.2 with h1 | ⟨g,cap,cur,h1,h0,h2,h3⟩
   . exact .inl h1
   . injection h1 with h1 _ hc; injection h1 with h1; injection h1 with h1
     subst h1 hc;exact .inr ⟨_,_,cur,rfl,h0,e.trans h2,h3⟩
 . rename_i hr
   rw [if_neg hr] at hb;exact e.trans hb
theorem kT.congr{b:Nat}{B:AB}(hb:kT E w b B)(hγ:E'.γ b=E.γ b)(hκ:E'.κ b=E.κ b)(hc:ay E' B.cs=ay E B.cs):kT E' w b B:=by
 unfold kT at hb ⊢;rw [hγ,hκ,hc]; exact hb
theorem kT.ro{b:Nat}{B B':AB}(hb:kT E w b B)(h1:B'.T=B.T)(h2:B'.row=B.row)(h3:B'.cs=B.cs):kT E w b B':=by
 unfold kT at hb ⊢;rw [h1,h2,h3]; exact hb
def Part(hm h:Nat->Option AB):Prop:=∀ b B,hm b=some B->∃ B0,h b=some B0/\B.T=B0.T/\B.row=B0.row/\B.cs=B0.cs/\(B.ro=false->B0.ro=false)
theorem Rep.part{hm:Nat->Option AB}{m:Nat}(r:Rep M E s h n w)(hp:Part hm h)(hids:∀ b B,hm b=some B->∀ k,(dM B.cs).testBit k=true->k<m)(htop:∀ b B,hm b=some B->b<m):Rep M E s hm m w:=by
 refine⟨r.sD,fun b B hb=>?_,fun b b' B B' hb hb' hne=>?_,hids,htop⟩
 . obtain⟨B0,h0,h1,h2,h3,_⟩:=hp b B hb
   exact⟨(r.blk b B0 h0).1.ro h1 h2 h3,(r.blk b B0 h0).2⟩
 . obtain⟨B0,h0,_⟩:=hp b B hb
   obtain⟨B1,h1,_⟩:=hp b' B' hb';exact r.inj b b' B0 B1 h0 h1 hne
def patch(E E':Env)(m m':Nat):Env:=⟨fun b=>if m<=b/\b<m' then E'.γ b else E.γ b,fun b=>if m<=b/\b<m' then E'.κ b else E.κ b,E.ρ⟩
def joined (h h':Nat->Option AB) (m m':Nat) (lw:List Nat) (b:Nat):Option AB :=
 if m<=b/\b<m' then h' b else if b∈lw then h' b else h b
theorem QH{m m':Nat}(hw:∀ b,b<m->E'.γ b=E.γ b/\E'.κ b=E.κ b){k:Nat}(hk:k<m'):(patch E E' m m').γ k=E'.γ k/\(patch E E' m m').κ k=E'.κ k:=by
 unfold patch;by_cases h1:m<=k
 . simp [h1,hk]
 . simp [h1,hw k (by omega)]
theorem Rep.joined{hm:Nat->Option AB}{m m' N':Nat}{lw:List Nat}(r:Rep M E s h n w)(hp:Part hm h)(hlw:∀ b B,hm b=some B->B.ro=false->b∈lw)(hlm:∀ b∈lw,b<m)
 (hWent:jk M E hm m s w E' h' m' s' w') (ahD:∀ b,m<=b->b<m'->h b=none) (hids:∀ b B,h b=some B->b∉lw->∀ k,(dM B.cs).testBit k=true->¬ (m<=k/\k<m'))
 (hN:n<=N') (hN':m'<=N') :
 Rep M (patch E E' m m') s' (joined h h' m m' lw) N' w'/\Fr w w' (Dd M s w E hm):=by
 have hρ:(patch E E' m m').ρ=E'.ρ:=hWent.rho.symm;have hP:=fun {k} (hk:k<m')=>QH (E:=E) (E':=E') (m:=m) (m':=m') hWent.ext hk
 have hkeep:∀ b B,h b=some B->b∉lw->kT E w' b B/\E.γ b∉M.fp s' w':=fun b B hb hbl=>by
  obtain⟨h1,h2⟩:=r.blk b B hb;refine⟨h1.frame hWent.fr ?_,fun hf=>?_⟩
  . rintro (hf | ⟨c,C,hc,hcr,hce⟩)
    . exact h2 hf
    . obtain⟨C0,hC0,_⟩:=hp c C hc
      by_cases hcb:c=b
      . subst hcb; exact hbl (hlw c C hc hcr)
      . exact r.inj c b C0 B hC0 hb hcb hce
  . rcases hWent.grow _ hf with h3 | h3
    . exact h2 h3
    . have:=r.lt hb; omega
 have atu:∀ b B,h' b=some B->kT (patch E E' m m') w' b B/\(patch E E' m m').γ b∉M.fp s' w':=fun b B hb=>by
  obtain⟨h1,h2⟩:=hWent.rep.blk b B hb;have ht:=hWent.rep.top b B hb;rw [(hP ht).1];exact⟨h1.congr (hP ht).1 (hP ht).2 (iq hρ _ fun k hk=>hP (hWent.rep.ids b B hb k hk)),h2⟩
 have hold:∀ b B,h b=some B->b∉lw->(patch E E' m m').γ b=E.γ b/\(patch E E' m m').κ b=E.κ b:=fun b B hb _=>by
  have:¬ (m<=b/\b<m'):=fun⟨h1,h2⟩=>by rw [ahD b h1 h2] at hb; cases hb
  unfold patch;simp [this]
 have hcase:∀ b B,Xi.joined h h' m m' lw b=some B->(h' b=some B/\(m<=b\/b∈lw))\/(h b=some B/\b∉lw/\¬ (m<=b/\b<m')):=fun b B hb=>by
  unfold Xi.joined at hb;split at hb
  . rename_i h1; exact .inl ⟨hb,.inl h1.1⟩
  . rename_i h1
    split at hb
    . rename_i h2; exact .inl ⟨hb,.inr h2⟩
    . rename_i h2; exact .inr ⟨hb,h2,h1⟩
 have hapart:∀ b B c C,h' b=some B->(m<=b\/b∈lw)->h c=some C->c∉lw->(patch E E' m m').γ b≠E.γ c:=fun b B c C hb hbm hc hcl=>by
  have ht:=hWent.rep.top b B hb;rw [(hP ht).1];by_cases hbn:b<m
  . obtain⟨B1,hB1,_⟩:=hWent.sub b B hb hbn
    obtain⟨B0,hB0,_⟩:=hp b B1 hB1;rw [(hWent.ext b hbn).1];have hbl:b∈lw:=hbm.resolve_left (by omega);exact r.inj b c B0 C hB0 hc (fun e=>hcl (e▸hbl))
  . rcases hWent.new b B hb (by omega) with h1 | ⟨x,X,hx,hxr,hxe⟩
    . have:=r.lt hc; omega
    . obtain⟨X0,hX0,_⟩:=hp x X hx
      rw [<- hxe];exact r.inj x c X0 C hX0 hc (fun e=>hcl (e▸hlw x X hx hxr))
 refine⟨⟨hWent.rep.sD,fun b B hb=>?_,fun b c B C hb hc hne=>?_,fun b B hb k hk=>?_,fun b B hb=>?_⟩,hWent.fr⟩
 . rcases hcase b B hb with⟨h1,_⟩ | ⟨h1,h2,_⟩
   . exact atu b B h1
   . obtain⟨h3,h4⟩:=hkeep b B h1 h2
     obtain⟨h5,h6⟩:=hold b B h1 h2;rw [h5];refine⟨h3.congr h5 h6 (iq (E:=E) (E':=patch E E' m m') rfl _ fun k hk=>?_),h4⟩;have:=hids b B h1 h2 k hk;unfold patch;simp [this]
 . rcases hcase b B hb with⟨h1,h1'⟩ | ⟨h1,h2,_⟩<;>rcases hcase c C hc with⟨h3,h3'⟩ | ⟨h3,h4,_⟩
   . have t1:=hWent.rep.top b B h1
     have t2:=hWent.rep.top c C h3;rw [(hP t1).1,(hP t2).1];exact hWent.rep.inj b c B C h1 h3 hne
   . rw [(hold c C h3 h4).1]
     exact hapart b B c C h1 h1' h3 h4
   . rw [(hold b B h1 h2).1]
     exact fun e=>hapart c C b B h3 h3' h1 h2 e.symm
   . rw [(hold b B h1 h2).1,(hold c C h3 h4).1]
     exact r.inj b c B C h1 h3 hne
 . rcases hcase b B hb with⟨h1,_⟩ | ⟨h1,_,_⟩
   . exact Nat.lt_of_lt_of_le (hWent.rep.ids b B h1 k hk) hN'
   . exact Nat.lt_of_lt_of_le (r.ids b B h1 k hk) hN
 . rcases hcase b B hb with⟨h1,_⟩ | ⟨h1,_,_⟩
   . exact Nat.lt_of_lt_of_le (hWent.rep.top b B h1) hN'
   . exact Nat.lt_of_lt_of_le (r.top b B h1) hN
end
end Xi
namespace Xi
open Go Go.RowKit
theorem lY{P:Program}{t:TypeId}{i:TI}(h:bV P t=some i) :
 ∃ f z,P.info? t=some f/\P.underlying t=some i.d/\f.size=i.size/\f.bytes=i.bytes/\f.zero=some z/\i.zero=z.cells.toList.map .lit:=by
 unfold bV at h
 cases h1:P.info? t with
 | none=>rw [h1] at h; cases h
 | some f =>
  cases h2:P.underlying t with
  | none=>rw [h1,h2] at h; cases h
  | some d =>
   rw [h1,h2] at h
   cases h3:f.zero with
   | none=>simp only [h3] at h; cases h
   | some z =>
    simp only [h3] at h;injection h with h;subst h;exact⟨f,z,rfl,rfl,rfl,rfl,h3,rfl⟩
section
variable {P:Program} {w:World} {t:TypeId} {i:TI}
theorem lZ(h:bV P t=some i):(underlying t).run P w=.ok i.d w:=by
 obtain⟨f,z,_,h2,_⟩:=lY h;exact run_underlying h2 w
theorem jv(h:bV P t=some i):(sizeOf t).run P w=.ok i.size w:=by
 obtain⟨f,z,h1,_,h3,_⟩:=lY h;simp [sizeOf,typeInfo,program,Sem.run,h1,h3]
theorem Px(h:bV P t=some i):(isAgg t).run P w=.ok i.agg w:=by
 unfold isAgg TI.agg;rw [Sem.run_bind,lZ h];simp only [Result.andThen_ok]
 cases i.d<;>rfl
theorem ahE(h:bV P t=some i):∃ z,(zeroValue t).run P w=.ok z w/\i.zero=z.cells.toList.map .lit:=by
 obtain⟨f,z,h1,_,_,_,h5,h6⟩:=lY h;exact⟨z,by simp [zeroValue,typeInfo,program,Sem.run,h1,h5],h6⟩
theorem Zn(h:bV P t=some i):(P.info? t).map (·.size)=some i.size:=by
 obtain⟨f,z,h1,_,h3,_⟩:=lY h;rw [h1]; simp [h3]
theorem vW(h:bV P t=some i):P.underlying t=some i.d:=by
 obtain⟨f,z,_,h2,_⟩:=lY h;exact h2
end
theorem yR(E:Env)(l:List Value):ay E (l.map .lit)=l:=by
 rw [cO,List.map_map];have:(AV.aA E ∘ AV.lit)=id:=by funext v; rfl
 rw [this,List.map_id]
theorem QI(l:List Value):dM (l.map .lit)=0:=by
 induction l with
 | nil=>rfl
 | cons v l ih=>simp only [List.map_cons,dM,AV.kL,ih]; rfl
theorem aV(E:Env)(l:List AV):(ay E l).length=l.length:=by rw [cO]; simp
theorem jw(E:Env)(l l':List AV):ay E (l++l')=ay E l++ay E l':=by simp [cO]
theorem yS(E:Env)(l:List AV)(n:Nat):ay E (l.take n)=(ay E l).take n:=by simp [cO,List.map_take]
theorem yT(E:Env)(l:List AV)(n:Nat):ay E (l.drop n)=(ay E l).drop n:=by simp [cO,List.map_drop]
theorem nD{α:Type}(l:List α)(n:Nat):nth l n=l[n]?:=by
 induction l generalizing n with
 | nil=>rfl
 | cons x l ih=>cases n with
  | zero=>rfl
  | succ n=>simp [nth,ih]
theorem Uz{l:List AV}(h:GH l=true):∀ v∈l,aaU v=true:=by
 induction l with
 | nil=>simp
 | cons x l ih =>
  simp only [GH,Bool.and_eq_true] at h;intro v hv;rcases List.mem_cons.1 hv with rfl | hv
  . exact h.1
  . exact ih h.2 v hv
def Env.one(E:Env):Prop:=∀ i,(E.ρ i).oneCell'=true
theorem alV(v:Value)(o n:Nat):(MI v o n).oneCell'=true:=by unfold MI; split<;>rfl
theorem alW(v:Value)(o:Nat):(vpV v o).oneCell'=true:=by unfold vpV; split<;>rfl
theorem GR{E:Env}(hE:E.one){v:AV}(h:aaU v=true):(v.aA E).oneCell'=true:=by
 cases v<;>first | exact alV _ _ _ | exact alW _ _ | exact h | exact hE _ | rfl | (cases h)
theorem Et(v:Value):oZ (.lit v)=bif v.oneCell' then some [.lit v] else none:=rfl
theorem aa2(cs:List AV):oZ (.agg cs)=bif GH cs then some cs else none:=rfl
theorem wX{E:Env}(hE:E.one){v:AV}{cs:List AV}(h:oZ v=some cs) :
 (v.aA E).cells=(ay E cs).toArray/\dM cs=v.kL/\∀ u∈cs,(u.aA E).oneCell'=true:=by
 have single:∀ v:AV,aaU v=true->oZ v=some [v]->oZ v=some cs->(v.aA E).cells=(ay E cs).toArray/\dM cs=v.kL/\∀ u∈cs,(u.aA E).oneCell'=true:=fun v h1 h2 h3=>by
  rw [h2] at h3;injection h3 with h3;subst h3;have:=GR hE h1;refine⟨?_,by simp [dM,lor_eq],by simpa using this⟩;simp only [ay];generalize v.aA E=u at *
  cases u<;>first | rfl | (cases this)
 cases v with
 | lit v =>
  rw [Et] at h
  cases ho:v.oneCell' with
  | false=>rw [ho] at h; cases h
  | true=>exact single (.lit v) ho (by rw [Et,ho]; rfl) (by rw [Et,ho]; rw [ho] at h; exact h)
 | agg cs' =>
  rw [aa2] at h
  cases ho:GH cs' with
  | false=>rw [ho] at h; cases h
  | true =>
   rw [ho] at h;injection h with h;subst h;exact⟨rfl,rfl,fun u hu=>GR hE (Uz ho u hu)⟩
 | jm vs=>cases h
 | opq i=>exact single _ rfl rfl h
 | ptr b o=>exact single _ rfl rfl h
 | slc b o n c=>exact single _ rfl rfl h
 | row b n=>exact single _ rfl rfl h
 | fn f a c=>exact single _ rfl rfl h
 | qC t v=>exact single _ rfl rfl h
 | vw i o n=>exact single _ rfl rfl h
 | vp i o=>exact single _ rfl rfl h
 | Dw b o n=>exact single _ rfl rfl h
section
variable {P:Program} {M:f_ P} {E:Env} {s:M.σ} {h:Nat->Option AB} {n:Nat} {w:World}
theorem kT.cell{b:Nat}{B:AB}(hb:kT E w b B){j:Nat}{v:Value}(hv:(ay E B.cs)[j]?=some v):w.cell? ⟨E.γ b,j,none⟩=some v:=by
 unfold kT at hb;split at hb
 . have:=World.ownsRow.cells hb (g:=E.γ b) rfl j v hv
   rwa [add_plain,Nat.zero_add] at this
 . exact aC.cell' hb hv
theorem DF{g:G}{b off k:Nat}{l:List AV}(h:ld g b off k=some l):∃ B,g.at b=some B/\l=(B.cs.drop off).take k/\off+k<=B.cs.length:=by
 unfold ld at h
 cases hb:g.at b with
 | none=>rw [hb] at h; cases h
 | some B =>
  rw [hb] at h;simp only [jr] at h
  cases hl:Nat.ble (off+k) (aF B.cs) with
  | false=>rw [hl] at h; cases h
  | true =>
   rw [hl] at h;injection h with h;exact⟨B,rfl,h.symm,by rw [bn] at hl; exact hl⟩
theorem Eu{l l':List AV}(h:∀ v∈l,v∈l'){k:Nat}(hk:(dM l).testBit k=true):(dM l').testBit k=true:=by
 obtain⟨v,hv,hb⟩:=Dz hk;exact fF (h v hv) hb
theorem vX{g:G}(r:Rep M E s g.at g.n w){b off k:Nat}{l:List AV}(h:ld g b off k=some l) :
 l.length=k/\w.rangeAt (E.γ b) off (ay E l)/\E.γ b∉M.fp s w:=by
 obtain⟨B,hb,rfl,hl⟩:=DF h;refine⟨by simp; omega,fun j v hv=>(r.blk b B hb).1.cell ?_,(r.blk b B hb).2⟩;rw [yS,yT,List.getElem?_take] at hv;split at hv
 . rwa [List.getElem?_drop] at hv
 . cases hv
theorem MS{cx:Cx}{M:f_ cx.P}{s:M.σ}{g:G}(r:Rep M E s g.at g.n w){T:TypeId}{b off:Nat}{v:AV}(h:IY cx g T b off=some v) :
 (loadVar T ⟨E.γ b,off,none⟩).run cx.P w=.ok (v.aA E) w:=by
 unfold IY at h
 cases ht:bV cx.P T with
 | none=>rw [ht] at h; cases h
 | some i =>
  rw [ht] at h;simp only [] at h
  cases ha:i.agg with
  | true =>
   rw [ha] at h;simp only [cond_true] at h
   cases hl:ld g b off i.size with
   | none=>rw [hl] at h; cases h
   | some l =>
    rw [hl] at h;injection h with h;subst h;obtain⟨h1,h2,_⟩:=vX r hl;refine run_loadVar_mid w (E.γ b) off T (ay E l) i.d h2 (vW ht) ?_ ?_
    . unfold TI.agg at ha
      cases hd:i.d<;>rw [hd] at ha<;>first | rfl | cases ha
    . rw [Zn ht,aV,h1]
  | false =>
   rw [ha] at h;simp only [cond_false] at h
   cases hl:ld g b off 1 with
   | none=>rw [hl] at h; cases h
   | some l =>
    rw [hl] at h;obtain⟨h1,h2,_⟩:=vX r hl
    match l,h1 with
    | [u],_ =>
     injection h with h;subst h;have hc:=h2 0 (u.aA E) rfl;unfold loadVar;rw [Sem.run_bind,Px ht,ha];simp only [Result.andThen_ok,Bool.false_eq_true,if_false];rw [run_load,<- Nat.add_zero off,hc]
def tX(cx:Cx)(M:f_ cx.P)(ρv:Nat->Value):Prop:=∀ i cs,cx.vw i=some cs->∃ b a n c,ρv i=.slice (some ⟨b,a,none⟩) n c/\cs.length<=c/\iE 0 cs=true /\
 ∀ s w,M.I s w->b∈M.fp s w/\∀ k v,cs[k]?=some v->∀ E:Env,E.ρ=ρv->w.cell? ⟨b,a+k,none⟩=some (v.aA E)
theorem aa3{cx:Cx}{M:f_ cx.P}{s:M.σ}{h:Nat->Option AB}{n:Nat}(hv:tX cx M E.ρ)(r:Rep M E s h n w){T:TypeId}{i off:Nat}{v:AV}(h:Ti cx T i off=some v) :
 ∃ A,vpV (E.ρ i) off=.pointer (some A)/\(loadVar T A).run cx.P w=.ok (v.aA E) w:=by
 unfold Ti at h
 cases ht:bV cx.P T with
 | none=>rw [ht] at h; cases h
 | some t =>
  rw [ht] at h;simp only [] at h
  cases ha:t.agg with
  | true=>rw [ha] at h; cases h
  | false =>
   rw [ha] at h;simp only [cond_false] at h
   cases hc:cx.vw i with
   | none=>rw [hc] at h; cases h
   | some cs =>
    rw [hc] at h;simp only [] at h;rw [nD] at h;obtain⟨b,a,m,c,e,_,_,hw⟩:=hv i cs hc;have hcell:=(hw s w r.sD).2 off v h E rfl;refine⟨⟨b,a+off,none⟩,by rw [e]; rfl,?_⟩;unfold loadVar;rw [Sem.run_bind,Px ht,ha];simp only [Result.andThen_ok,Bool.false_eq_true,if_false];rw [run_load,hcell]
end
end Xi
namespace Xi
open Go Go.RowKit
theorem dQ{g:G}{b:Nat}{B:AB}(h:g.at b=some B):b<g.n:=by
 unfold G.at at h
 cases hb:Nat.blt b g.n with
 | false=>rw [hb] at h; cases h
 | true=>rwa [aI] at hb
theorem nG{g:G}{b:Nat}(h:b<g.n):g.at b=g.hp.get b:=by
 unfold G.at;rw [show Nat.blt b g.n=true from aI.2 h]; rfl
theorem pz{g:G}{b:Nat}(h:g.n<=b):g.at b=none:=by
 cases hb:g.at b with
 | none=>rfl
 | some B=>have:=dQ hb; omega
theorem at_new(g:G)(B:AB)(nv:Nat)(hn:g.n<1000000)(b:Nat):(⟨Tr.set 20 g.hp g.n (some B),Nat.succ g.n,nv⟩:G).at b=if b=g.n then some B else g.at b:=by
 by_cases hb:b<g.n+1
 . rw [nG (g:=⟨Tr.set 20 g.hp g.n (some B),Nat.succ g.n,nv⟩) hb]
   show(Tr.set 20 g.hp g.n (some B)).get b=_;rw [Tr.lX _ _ _ _ hn];by_cases e:b=g.n
   . rw [if_pos e,if_pos e]
   . rw [if_neg e,if_neg e,nG (by omega)]
 . rw [pz (g:=⟨Tr.set 20 g.hp g.n (some B),Nat.succ g.n,nv⟩) (by show g.n+1<=b; omega),if_neg (by omega),pz (by omega)]
theorem at_set(g:G)(c:Nat)(B:Option AB)(nv:Nat)(hn:c<1000000)(hc:c<g.n)(b:Nat):(⟨Tr.set 20 g.hp c B,g.n,nv⟩:G).at b=if b=c then B else g.at b:=by
 by_cases hb:b<g.n
 . rw [nG (g:=⟨Tr.set 20 g.hp c B,g.n,nv⟩) hb]
   show(Tr.set 20 g.hp c B).get b=_;rw [Tr.lX _ _ _ _ hn];by_cases e:b=c
   . rw [if_pos e,if_pos e]
   . rw [if_neg e,if_neg e,nG hb]
 . rw [pz (g:=⟨Tr.set 20 g.hp c B,g.n,nv⟩) (by show g.n<=b; omega),if_neg (by omega),pz (by omega)]
def Env.new(E:Env)(n a c:Nat):Env:=⟨fun b=>if b=n then a else E.γ b,fun b=>if b=n then c else E.κ b,E.ρ⟩
section
variable {P:Program} {M:f_ P} {E:Env} {s:M.σ} {g:G} {n:Nat} {w w':World}
theorem QJ{l:List AV}{a c:Nat}(h:iE n l=true):ay (E.new n a c) l=ay E l :=
 iq (E:=E) (E':=E.new n a c) rfl l fun k hk=>by
  have:=kE h hk;have hne:k≠n:=by omega
  simp [Env.new,hne]
theorem Rep.iE(r:Rep M E s g.at g.n w){b:Nat}{B:AB}(hb:g.at b=some B):iE g.n B.cs=true:=by
 unfold Xi.iE;rw [aI,pow_eq];exact dP fun k hk=>r.ids b B hb k hk
theorem aa4{h0 h1:Nat->Option AB}{B:AB}{a c:Nat}(r:Rep M E s h0 n w)(hf:Fr w w' (Dd M s w E h0))(hfp:M.I s w'/\M.fp s w'=M.fp s w)
 (hh:∀ b,h1 b=if b=n then some B else(h0 b).filter fun _=>true) (hids:∀ k,(dM B.cs).testBit k=true->k<n) (hB:kT (E.new n a c) w' n B) (ha:a∉M.fp s w)
 (hnew:w.heap.size<=a) (hst:∀ k,k<w.heap.size->w'.heap[k]?=w.heap[k]?):jk M E h0 n s w (E.new n a c) h1 (n+1) s w':=by
 have hold:∀ b,b≠n->h1 b=h0 b:=fun b hb=>by rw [hh,if_neg hb]; cases h0 b<;>rfl
 have hat:h1 n=some B:=by rw [hh,if_pos rfl]
 have heq:∀ b,b<n->(E.new n a c).γ b=E.γ b/\(E.new n a c).κ b=E.κ b:=fun b hb=>by
  have:b≠n:=by omega
  simp [Env.new,this]
 have MV:(E.new n a c).γ n=a:=by simp [Env.new]
 refine⟨heq,rfl,⟨hfp.1,fun b C hb=>?_,fun b b' C C' hb hb' hne=>?_,fun b C hb k hk=>?_,fun b C hb=>?_⟩,hf,fun d hd=>.inl (hfp.2▸hd),fun b C hb hbn=>?_,fun b C hb hbn=>?_,Nat.le_succ _⟩
 . by_cases e:b=n
   . subst e
     rw [hat] at hb; injection hb with hb; subst hb;rw [MV,hfp.2];exact⟨hB,ha⟩
   . rw [hold b e] at hb
     have ht:=r.top b C hb;obtain⟨h2,h3⟩:=r.blk b C hb;rw [(heq b ht).1,hfp.2];have hl:=h2.lt;refine⟨(h2.frame (D:=fun k=>¬ k<w.heap.size) ⟨hf.os,hf.tape,hf.output,hf.size,fun k hk _=>hst k hk⟩ (fun hn=>hn hl)).congr (heq b ht).1 (heq b ht).2 (iq (E:=E) (E':=E.new n a c) rfl _ fun k hk=>heq k (r.ids b C hb k hk)),h3⟩
 . by_cases e:b=n
   . subst e
     have e':b'≠b:=fun h=>hne h.symm;rw [hold b' e'] at hb';have:=r.lt hb';rw [MV,(heq b' (r.top _ _ hb')).1]; omega
   . rw [hold b e] at hb
     by_cases e':b'=n
     . subst e'
       have:=r.lt hb;rw [MV,(heq b (r.top _ _ hb)).1]; omega
     . rw [hold b' e'] at hb'
       rw [(heq b (r.top _ _ hb)).1,(heq b' (r.top _ _ hb')).1];exact r.inj b b' C C' hb hb' hne
 . by_cases e:b=n
   . subst e
     rw [hat] at hb; injection hb with hb; subst hb;have:=hids k hk; omega
   . rw [hold b e] at hb
     have:=r.ids b C hb k hk; omega
 . by_cases e:b=n
   . omega
   . rw [hold b e] at hb
     have:=r.top b C hb; omega
 . have e:b≠n:=by omega
   rw [hold b e] at hb;exact⟨C,hb,id⟩
 . by_cases e:b=n
   . subst e; left; rw [MV]; exact hnew
   . rw [hold b e] at hb
     have:=r.top b C hb; omega
theorem UA(w:World)(o:Obj)(D:Nat->Prop):Fr w (w.alloc o) D:=⟨rfl,rfl,rfl,by rw [size_alloc]; omega,fun k hk _=>rC w o k hk⟩
theorem KX(r:Rep M E s g.at g.n w)(T:TypeId)(cs:List AV)(nv:Nat)(hn:g.n<1000000)(hcs:Xi.iE g.n cs=true) :
 jk M E g.at g.n s w (E.new g.n w.heap.size 0) (⟨Tr.set 20 g.hp g.n (some ⟨T,false,false,cs⟩),Nat.succ g.n,nv⟩:G).at (Nat.succ g.n) s (w.alloc (.cells (ay E cs).toArray T)):=by
 have hk:=M.keep s w _ (fun _=>False) r.sD (UA w (.cells (ay E cs).toArray T) _) (fun k h=>h.elim);refine aa4 (B:=⟨T,false,false,cs⟩) (a:=w.heap.size) (c:=0) r (UA _ _ _) hk (fun b=>?_) (fun k hk=>kE hcs hk) ?_ (fun h=>?_) (Nat.le_refl _) (fun k hk=>rC _ _ _ hk)
 . rw [at_new _ _ _ hn]
   split
   . rfl
   . cases g.at b<;>rfl
 . unfold kT
   simp only [Bool.false_eq_true,if_false];rw [QJ hcs];have:(E.new g.n w.heap.size 0).γ g.n=w.heap.size:=by simp [Env.new]
   rw [this];exact aC.new w T _
 . have:=M.lt s w r.sD _ h; omega
theorem ahF(r:Rep M E s g.at g.n w){c:Nat}{B:AB}{cs:List AV}{nv:Nat}(hc:g.at c=some B)(hro:B.ro=false)(hn:c<1000000)(hcs:∀ k,(dM cs).testBit k=true->k<g.n)
 (hw:ah w w' [E.γ c]) (hB:aC w' (E.γ c) B.T (ay E cs)):jk M E g.at g.n s w E (⟨Tr.set 20 g.hp c (some ⟨B.T,false,false,cs⟩),g.n,nv⟩:G).at g.n s w':=by
 have hat:=at_set g c (some ⟨B.T,false,false,cs⟩) nv hn (dQ hc);have hfr:=Fr.DC hw;have hk:=M.keep s w w' _ r.sD hfr (fun k hk=>by simp at hk; rw [hk]; exact(r.blk c B hc).2);refine⟨fun _ _=>⟨rfl,rfl⟩,rfl,⟨hk.1,fun b C hb=>?_,fun b b' C C' hb hb' hne=>?_,fun b C hb k hk=>?_,fun b C hb=>?_⟩,hfr.more fun k _ hk=>?_,fun d hd=>.inl (hk.2▸hd),fun b C hb hbn=>?_,fun b C hb hbn=>?_,Nat.le_refl _⟩
 . rw [hat] at hb
   rw [hk.2];by_cases e:b=c
   . rw [if_pos e] at hb; injection hb with hb; subst hb e
     exact⟨by unfold kT; simpa using hB,(r.blk b B hc).2⟩
   . rw [if_neg e] at hb
     exact⟨(r.blk b C hb).1.frame hfr (by simpa using r.inj b c C B hb hc e),(r.blk b C hb).2⟩
 . have hex : ∀ b C, (if b=c then some (⟨B.T, false, false, cs⟩ : AB) else g.at b)=some C -> ∃ C0, g.at b=some C0 := fun b C hb=>by
    by_cases e:b=c
    . exact⟨B,e▸hc⟩
    . rw [if_neg e] at hb; exact⟨C,hb⟩
   rw [hat] at hb hb';obtain⟨C0,h0⟩:=hex b C hb;obtain⟨C1,h1⟩:=hex b' C' hb';exact r.inj b b' C0 C1 h0 h1 hne
 . rw [hat] at hb
   by_cases e:b=c
   . rw [if_pos e] at hb; injection hb with hb; subst hb
     exact hcs k hk
   . rw [if_neg e] at hb; exact r.ids b C hb k hk
 . rw [hat] at hb
   by_cases e:b=c
   . rw [e]; exact dQ hc
   . rw [if_neg e] at hb; exact dQ hb
 . simp at hk
   exact .inr ⟨c,B,hc,hro,hk.symm⟩
 . rw [hat] at hb
   by_cases e:b=c
   . exact⟨B,e▸hc,fun _=>hro⟩
   . rw [if_neg e] at hb; exact⟨C,hb,id⟩
 . rw [hat] at hb
   by_cases e:b=c
   . have:=dQ hc; omega
   . rw [if_neg e] at hb; have:=dQ hb; omega
theorem KY(w:World)(gb off:Nat)(t T:TypeId)(cur vs:List Value)(v:Value)(hg:aC w gb t cur)(hv:v.cells=vs.toArray)(hs:(sizeOf T).run P w=.ok vs.length w)(hl:off+vs.length<=cur.length)(h1:∀ v∈vs,v.oneCell'=true) :
 ∃ w',(storeVar T ⟨gb,off,none⟩ v).run P w=.ok () w'/\ah w w' [gb]/\aC w' gb t (cur.take off++vs++cur.drop (off+vs.length)):=by
 have h:=run_storeCells_at P gb off t vs 0 cur.toArray w hg (by simpa using hl) h1;simp only [Nat.add_zero] at h;refine⟨_,?_,?_,setRow_heap w gb _ _ t _ hg⟩
 . unfold storeVar
   rw [Sem.run_bind,hs];simp only [Result.andThen_ok,hv];simp only [List.size_toArray,ne_eq,not_true_eq_false,if_false];exact h
 . refine⟨rfl,rfl,rfl,?_,fun k hk hn=>?_⟩
   . simp [World.setRow]
   . simp at hn
     simp [World.setRow,Array.getElem?_modify,Ne.symm hn]
end
end Xi
namespace Xi
open Go Go.RowKit
def mZ(E:Env)(tm:Tm)(ρ:Operand->Value):Prop:=∀ x u,dD tm x=some u->ρ x=u.aA E
def Low(tm:Tm)(n:Nat):Prop:=∀ x u,dD tm x=some u->u.lt n=true
theorem uq{E:Env}{tm:Tm}{ρ:Operand->Value}(he:mZ E tm ρ):∀ {l:List Operand} {vs:List AV},jO tm l=some vs->l.map ρ=ay E vs
 | [],vs,h=>by simp [jO] at h; subst h; rfl
 | x::l,vs,h=>by
  unfold jO at h
  cases hx:dD tm x with
  | none=>rw [hx] at h; cases h
  | some v =>
   cases hl:jO tm l with
   | none=>rw [hx,hl] at h; cases h
   | some us =>
    rw [hx,hl] at h;injection h with h;subst h;simp only [List.map_cons,ay,he x v hx,uq he hl]
theorem KZ{tm:Tm}{n:Nat}(hl:Low tm n):∀ {l:List Operand} {vs:List AV},jO tm l=some vs->∀ v∈vs,v.lt n=true
 | [],vs,h=>by simp [jO] at h; subst h; simp
 | x::l,vs,h=>by
  unfold jO at h
  cases hx:dD tm x with
  | none=>rw [hx] at h; cases h
  | some v =>
   cases hr:jO tm l with
   | none=>rw [hx,hr] at h; cases h
   | some us =>
    rw [hx,hr] at h;injection h with h;subst h;intro u hu;rcases List.mem_cons.1 hu with rfl | hu
    . exact hl x _ hx
    . exact KZ hl hr u hu
theorem JW{tm:Tm}:∀ {l:List Operand} {vs:List AV},jO tm l=some vs->vs.length=l.length
 | [],vs,h=>by simp [jO] at h; subst h; rfl
 | x::l,vs,h=>by
  unfold jO at h
  cases hx:dD tm x with
  | none=>rw [hx] at h; cases h
  | some v =>
   cases hr:jO tm l with
   | none=>rw [hx,hr] at h; cases h
   | some us =>
    rw [hx,hr] at h;injection h with h;subst h;simp [JW hr]
section
variable {cx:Cx} {M:f_ cx.P} {E:Env} {s:M.σ} {g g':G} {w:World} {tm:Tm} {ρ:Operand->Value} {v:AV} {δ:List Ev}
def Fine (M:f_ cx.P) (E:Env) (s:M.σ) (g:G) (w:World) (x:Sem Next) (v:AV) (g':G) (δ:List Ev):Prop :=
 kH δ=true/\∃ E' w',(x.run cx.P w=.ok (.value (v.aA E')) w'\/(x.run cx.P w=.ok .skip w'/\v.aA E'=undef))/\jk M E g.at g.n s w E' g'.at g'.n s w'
theorem Fine.pure(r:Rep M E s g.at g.n w){x:Sem Next}(hx:x.run cx.P w=.ok (.value (v.aA E)) w):Fine M E s g w x v g [] :=
 ⟨rfl,E,w,.inl hx,r.went⟩
theorem K_(he:mZ E tm ρ)(r:Rep M E s g.at g.n w){x:Operand}(h:MJ tm x g=some (v,g',δ)):Fine M E s g w (Pure.pure (.value (ρ x))) v g' δ:=by
 unfold MJ at h
 cases hx:dD tm x with
 | none=>rw [hx] at h; cases h
 | some u =>
  rw [hx] at h;injection h with h; injection h with h1 h; injection h with h2 h3;subst h1 h2 h3;exact Fine.pure r (by rw [he x u hx]; rfl)
theorem ahG(he:mZ E tm ρ)(r:Rep M E s g.at g.n w){c a b:Operand}(h:aaW tm c a b g=some (v,g',δ)):Fine M E s g w (do pure (.value (if <- asBool (ρ c) then ρ a else ρ b))) v g' δ:=by
 unfold aaW at h
 cases hc:dD tm c with
 | none=>rw [hc] at h; cases h
 | some u =>
  rw [hc] at h;split at h
  . rename_i t heq
    injection heq with heq;subst heq;have h2:=K_ he r h;rw [he c _ hc]
    cases t<;>exact h2
  . cases h
theorem ad4(r:Rep M E s g.at g.n w){T:TypeId}(h:Uk cx T g=some (v,g',δ)):Fine M E s g w (do pure (.value (<- Instr.alloc T true (.tuple #[])))) v g' δ:=by
 unfold Uk at h
 cases ht:bV cx.P T with
 | none=>rw [ht] at h; cases h
 | some i =>
  rw [ht] at h;simp only [yA,jr,dG,dY] at h
  cases hn:Nat.blt g.n 1000000 with
  | false=>rw [hn] at h; cases h
  | true =>
   rw [hn] at h;injection h with h; injection h with h1 h; injection h with h2 h3;subst h1 h2 h3;rw [aI] at hn;obtain⟨z,hz,hzc⟩:=ahE (w:=w) ht;have hw:=KX r T i.zero g.nv hn (by unfold iE; rw [aI,hzc,QI]; exact Nat.two_pow_pos _);refine⟨rfl,_,_,.inl ?_,hw⟩;have hcells:(ay E i.zero).toArray=z.cells:=by rw [hzc,yR]
   rw [hcells];simp [Instr.alloc,Sem.run_bind,hz,newVar,newRow,newObj,Sem.run,AV.aA,Env.new]
theorem alX(he:mZ E tm ρ)(hl:Low tm g.n)(hE:E.one)(r:Rep M E s g.at g.n w){T:TypeId}{x:Operand}(h:ahr tm T x g=some (v,g',δ)):Fine M E s g w (do pure (.value (<- Instr.box T (ρ x)))) v g' δ:=by
 unfold ahr at h
 cases hx:dD tm x with
 | none=>rw [hx] at h; cases h
 | some u =>
  rw [hx] at h;simp only [] at h
  cases hc:oZ u with
  | none=>rw [hc] at h; cases h
  | some cs =>
   rw [hc] at h;simp only [yA,jr,dG,dY] at h
   cases hn:Nat.blt g.n 1000000 with
   | false=>rw [hn] at h; cases h
   | true =>
    rw [hn] at h;injection h with h; injection h with h1 h; injection h with h2 h3;subst h1 h2 h3;rw [aI] at hn;obtain⟨h1,h2,_⟩:=wX hE hc;have hw:=KX r T cs g.nv hn (by have:=hl x u hx; unfold AV.lt at this; unfold iE; rwa [h2]);refine⟨rfl,_,_,.inl ?_,hw⟩;rw [he x u hx];simp [Instr.box,Sem.run_bind,newVar,newRow,newObj,Sem.run,AV.aA,Env.new,h1]
theorem ahH(hvw:tX cx M E.ρ)(he:mZ E tm ρ)(r:Rep M E s g.at g.n w){T:TypeId}{a:Operand}(h:aaX cx tm T a g=some (v,g',δ)):Fine M E s g w (do pure (.value (<- Instr.loadAt T (ρ a)))) v g' δ:=by
 unfold aaX at h
 cases ha:dD tm a with
 | none=>rw [ha] at h; cases h
 | some u =>
  rw [ha] at h;split at h
  . rename_i b off heq
    injection heq with heq;subst heq
    cases hv:IY cx g T b off with
    | none=>rw [hv] at h; cases h
    | some x =>
     rw [hv] at h;injection h with h; injection h with h1 h; injection h with h2 h3;subst h1 h2 h3;refine Fine.pure r ?_;rw [he a _ ha];simp [Instr.loadAt,Instr.sureAddr,AV.aA,Sem.run_bind,MS r hv]
  . rename_i i off heq
    injection heq with heq;subst heq
    cases hv:Ti cx T i off with
    | none=>rw [hv] at h; cases h
    | some x =>
     rw [hv] at h;injection h with h; injection h with h1 h; injection h with h2 h3;subst h1 h2 h3;obtain⟨A,q1,q2⟩:=aa3 hvw r hv;refine Fine.pure r ?_;rw [he a _ ha];simp [Instr.loadAt,Instr.sureAddr,AV.aA,Sem.run_bind,q1,q2]
  . cases h
theorem ad5(he:mZ E tm ρ)(hl:Low tm g.n)(hE:E.one)(r:Rep M E s g.at g.n w){T:TypeId}{a x:Operand}(h:Un cx tm T a x g=some (v,g',δ)):Fine M E s g w (do Instr.storeAt T (ρ a) (ρ x); pure .skip) v g' δ:=by
 unfold Un at h
 cases ha:dD tm a with
 | none=>rw [ha] at h; cases h
 | some u =>
  rw [ha] at h;split at h
  . rename_i b off heq
    injection heq with heq;subst heq
    cases hx:dD tm x with
    | none=>rw [hx] at h; cases h
    | some y =>
     rw [hx] at h;simp only [] at h
     cases hc:oZ y with
     | none=>rw [hc] at h; cases h
     | some vs =>
      rw [hc] at h;simp only [] at h
      cases hb:g.at b with
      | none=>rw [hb] at h; cases h
      | some B =>
       rw [hb] at h;simp only [] at h
       cases ht:bV cx.P T with
       | none=>rw [ht] at h; cases h
       | some i =>
        rw [ht] at h;simp only [Zl,jr,jG,dY] at h
        cases hcond:(!B.ro&&!B.row&&Nat.beq i.size (aF vs)&&Nat.ble (off+aF vs) (aF B.cs)) with
        | false=>rw [hcond] at h; cases h
        | true =>
         rw [hcond] at h;simp only [cond_true] at h
         cases hn:Nat.blt b 1000000 with
         | false=>rw [hn] at h; cases h
         | true =>
          rw [hn] at h;injection h with h; injection h with h1 h; injection h with h2 h3;subst h1 h2 h3;rw [aI] at hn;simp only [Bool.and_eq_true,Bool.not_eq_true',beq_iff,bn] at hcond;obtain⟨⟨⟨h1,h2⟩,h3⟩,h4⟩:=hcond;obtain⟨c1,c2,c3⟩:=wX hE hc;have hB:=(r.blk b B hb).1;unfold kT at hB;rw [if_neg (by rw [h2]; simp)] at hB;unfold aF at h3 h4;obtain⟨w',hrun,hchg,hblk⟩:=KY (P:=cx.P) w (E.γ b) off B.T T (ay E B.cs) (ay E vs) (y.aA E) hB c1 (by rw [jv ht,aV,h3]) (by rw [aV,aV]; exact h4) (by rw [cO]; intro u hu; obtain⟨q,hq,rfl⟩:=List.mem_map.1 hu; exact c3 q hq);refine⟨rfl,E,w',.inr ⟨?_,rfl⟩,ahF r hb h1 hn ?_ hchg ?_⟩
          . rw [he a _ ha,he x _ hx]
            simp [Instr.storeAt,Instr.sureAddr,AV.aA,Sem.run_bind,hrun]
          . intro k hk
            obtain⟨q,hq,hqb⟩:=Dz hk;unfold splice at hq;rcases List.mem_append.1 hq with hq | hq
            . rcases List.mem_append.1 hq with hq | hq
              . exact r.ids b B hb k (fF (List.mem_of_mem_take hq) hqb)
              . have:=fF hq hqb
                rw [c2] at this;exact AV.fQ (hl x y hx) this
            . exact r.ids b B hb k (fF (List.mem_of_mem_drop hq) hqb)
          . unfold splice
            rw [jw,jw,yS,yT]
            simpa [aV] using hblk
  . cases h
end
end Xi
namespace Xi
open Go Go.RowKit
theorem GU{P:Program}:∀ {l:List Field} {pl:List (Nat×Nat)},vV P l=some pl->l.mapM (fun f=>(P.info? f.type).map fun i=>(f.offset,i.size))=some pl
 | [],pl,h=>by simp [vV] at h; subst h; rfl
 | f::l,pl,h=>by
  unfold vV at h
  cases ht:bV P f.type with
  | none=>rw [ht] at h; cases h
  | some j =>
   cases hl:vV P l with
   | none=>rw [ht,hl] at h; cases h
   | some r =>
    rw [ht,hl] at h;injection h with h;subst h;have hs:=Zn ht
    cases hi:P.info? f.type with
    | none=>rw [hi] at hs; cases hs
    | some i =>
     rw [hi] at hs;injection hs with hs;simp [List.mapM_cons,hi,GU hl,hs]
theorem UC(off:Nat):∀(vs:List Value) (k:Nat) (cs:List Value),off+k+vs.length<=cs.length ->
 (vs.zipIdx k).foldl (fun(cs:Array Value) (p:Value×Nat)=>cs.setIfInBounds (off+p.2) p.1) cs.toArray=(cs.take (off+k)++vs++cs.drop (off+k+vs.length)).toArray
 | [],k,cs,h=>by simp
 | v::vs,k,cs,h=>by
  simp only [List.zipIdx_cons,List.foldl_cons];simp only [List.length_cons] at h;rw [List.setIfInBounds_toArray,UC off vs (k+1) (cs.set (off+k) v) (by simp; omega)];have hlt:off+k<cs.length:=by omega
  congr 1
  have e1:(cs.set (off+k) v).take (off+(k+1))=cs.take (off+k)++[v]:=by
   rw [show off+(k+1)=(off+k)+1 by omega,List.take_add_one];simp [hlt,List.take_set_of_le]
  have e2:(cs.set (off+k) v).drop (off+(k+1)+vs.length)=cs.drop (off+k+(vs.length+1)):=by
   rw [show off+(k+1)+vs.length=off+k+(vs.length+1) by omega,List.drop_set_of_lt (by omega)]
  rw [e1,e2];simp
theorem Py{E:Env}(hE:E.one){place:Nat->Option (Nat×Nat)}:∀ {parts:List (Nat×AV)} {cs cs':List AV},tJ place cs parts=some cs' ->
 Instr.fill place (ay E cs).toArray (parts.map fun p=>(p.1,p.2.aA E))=some (ay E cs').toArray
 | [],cs,cs',h=>by unfold tJ at h; injection h with h; subst h; rfl
 | (i,v)::rest,cs,cs',h=>by
  unfold tJ at h
  cases hp:place i with
  | none=>rw [hp] at h; cases h
  | some os =>
   obtain⟨off,size⟩:=os
   cases hc:oZ v with
   | none=>rw [hp,hc] at h; cases h
   | some vs =>
    rw [hp,hc] at h;simp only [] at h
    cases hcond:(Nat.beq (aF vs) size&&Nat.ble (off+aF vs) (aF cs)) with
    | false=>rw [hcond] at h; cases h
    | true =>
     rw [hcond] at h;simp only [cond_true] at h;simp only [Bool.and_eq_true,beq_iff,bn,aF] at hcond;obtain⟨c1,c2,c3⟩:=wX hE hc;have ih:=Py hE h;simp only [List.map_cons];unfold Instr.fill;simp only [hp];have hsz:(v.aA E).cells.size=vs.length:=by rw [c1]; simp [aV]
     have hsz2:(ay E cs).toArray.size=cs.length:=by simp [aV]
     have hno:¬ ((v.aA E).cells.size≠size||off+(v.aA E).cells.size>(ay E cs).toArray.size)=true:=by
      rw [hsz,hsz2];simp;omega
     rw [if_neg hno,<- ih];congr 1;have hf:=UC off (ay E vs) 0 (ay E cs) (by rw [aV,aV]; omega);rw [c1];have hz:(ay E vs).toArray.zipIdx=((ay E vs).zipIdx).toArray:=by simp
     rw [hz,List.foldl_toArray];simp only [Nat.add_zero] at hf;rw [hf];unfold splice;rw [jw,jw,yS,yT,aV]
section
variable {cx:Cx} {M:f_ cx.P} {E:Env} {s:M.σ} {g g':G} {w:World} {tm:Tm} {ρ:Operand->Value} {v:AV} {δ:List Ev}
theorem alY{r:Option (List AV)}(h:Ul r g=some (v,g',δ)):∃ cs,r=some cs/\v=.agg cs/\g'=g/\δ=[]:=by
 unfold Ul at h
 cases r with
 | none=>cases h
 | some cs =>
  simp only [jr] at h;injection h with h; injection h with h1 h; injection h with h2 h3;exact⟨cs,rfl,h1.symm,h2.symm,h3.symm⟩
theorem UD(he:mZ E tm ρ){parts:Array (Nat×Operand)}{vs:List AV}(h:jO tm (parts.toList.map (·.2))=some vs) :
 (parts.map fun(i,x)=>(i,ρ x)).toList=(((parts.toList.map (·.1)).zip vs).map fun p=>(p.1,p.2.aA E)):=by
 have h1:=uq he h;have hlen:=JW h;rw [List.map_map] at h1;simp only [List.length_map] at hlen;rw [Array.toList_map];generalize parts.toList=l at *;clear h
 induction l generalizing vs with
 | nil=>simp
 | cons p l ih =>
  match vs,hlen with
  | u::vs,hlen =>
   simp only [List.map_cons,ay] at h1;injection h1 with h2 h3;simp only [List.map_cons,List.zip_cons_cons];rw [ih h3 (by simpa using hlen)];simp only [Function.comp] at h2;rw [<- h2]
theorem ad6(he:mZ E tm ρ)(hE:E.one)(r:Rep M E s g.at g.n w){T:TypeId}{parts:Array (Nat×Operand)}(h:Um cx tm T parts.toList g=some (v,g',δ)) :
 Fine M E s g w (do pure (.value (<- Instr.build T (parts.map fun(i,x)=>(i,ρ x))))) v g' δ:=by
 unfold Um at h
 cases ht:bV cx.P T with
 | none=>rw [ht] at h; cases h
 | some i =>
  rw [ht] at h;simp only [] at h
  cases hv:jO tm (parts.toList.map (·.2)) with
  | none=>rw [hv] at h; cases h
  | some vs =>
   rw [hv] at h;simp only [Zk] at h;obtain⟨f,z,h1,h2,h3,h4,h5,h6⟩:=lY ht;have hz:(ay E i.zero).toArray=z.cells:=by rw [h6,yR]
   have hp:=UD he hv
   have fin:∀ {pl:Nat->Option (Nat×Nat)},Ul (tJ pl i.zero ((parts.toList.map (·.1)).zip vs)) g=some (v,g',δ)->(∀ cells,Instr.fill pl z.cells (parts.map fun(i,x)=>(i,ρ x)).toList=some cells->cx.P.built T (parts.map fun(i,x)=>(i,ρ x)).toList=some cells) ->
    Fine M E s g w (do pure (.value (<- Instr.build T (parts.map fun(i,x)=>(i,ρ x))))) v g' δ:=fun h hb=>by
    obtain⟨cs,hcs,rfl,rfl,rfl⟩:=alY h;have hf:=Py hE hcs;rw [hz,<- hp] at hf;refine Fine.pure r ?_;rw [Sem.run_bind,run_build w T _ _ (hb _ hf)];rfl
   cases hd:i.d with
   | struct fs =>
    rw [hd] at h h2;simp only [] at h
    cases hpl:vV cx.P fs.toList with
    | none=>rw [hpl] at h; cases h
    | some pl =>
     rw [hpl] at h;refine fin h fun cells hc=>?_;unfold Program.built;simp only [h1,h2,h5,GU hpl];have:(fun x=>pl.toArray[x]?)=nth pl:=by funext x; rw [nD]; simp
     rw [this]; exact hc
   | array n e =>
    rw [hd] at h h2;simp only [] at h
    cases hj:bV cx.P e with
    | none=>rw [hj] at h; cases h
    | some j =>
     rw [hj] at h;refine fin h fun cells hc=>?_;obtain⟨f',z',k1,_,k3,_⟩:=lY hj;unfold Program.built;simp only [h1,h2,h5,k1,k3];exact hc
   | _=>rw [hd] at h; cases h
theorem GV{T e:TypeId}(h:sliceOf cx T=some e):∃ i,bV cx.P T=some i/\i.d=.slice e:=by
 unfold sliceOf at h
 cases ht:bV cx.P T with
 | none=>rw [ht] at h; cases h
 | some i =>
  rw [ht] at h;simp only [] at h
  cases hd:i.d with
  | slice e'=>rw [hd] at h; injection h with h; subst h; exact⟨i,rfl,hd⟩
  | _=>rw [hd] at h; cases h
theorem MW{P:Program}(w:World)(t e:TypeId)(len:Nat)(parts:Array (Nat×Value))(cells:Array Value)(ie:TypeInfo)(z:Value)
 (hu:P.underlying t=some (.slice e)) (hie:P.info? e=some ie) (h0:len*ie.size=0)
 (h:Instr.fill (fun i=>some (i*ie.size,ie.size)) ((Array.range (len*ie.size)).map (z.cells[·%z.cells.size]!)) parts.toList=some cells) :
 (Instr.buildSlice t len parts).run P w=.ok (.slice (some ⟨w.heap.size,0,none⟩) len len) (w.alloc (.cells cells e)):=by
 have hr:∀ f:Nat->Value,(Array.range 0).map f=#[]:=fun f=>by apply Array.ext'; rw [Array.toList_map,Array.toList_range]; rfl
 have h':Instr.fill (fun i=>some (i*ie.size,ie.size)) #[] parts.toList=some cells:=by
  rw [h0,hr] at h; exact h
 have h1:¬ len*ie.size>2 ^ 24:=by omega
 have h2:len=0\/ie.size=0:=Nat.mul_eq_zero.1 h0;simp [Instr.buildSlice,run_underlying hu,sizeOf,typeInfo,hie,h0,hr,h',newRow]
theorem Pz(he:mZ E tm ρ)(hl:Low tm g.n)(hE:E.one)(r:Rep M E s g.at g.n w){T:TypeId}{len:Nat}{parts:Array (Nat×Operand)}(h:CW cx tm T len parts.toList g=some (v,g',δ)) :
 Fine M E s g w (do pure (.value (<- Instr.buildSlice T len (parts.map fun(i,x)=>(i,ρ x))))) v g' δ:=by
 unfold CW at h
 cases hs:sliceOf cx T with
 | none=>rw [hs] at h; cases h
 | some e =>
  rw [hs] at h;simp only [] at h;obtain⟨i,ht,hd⟩:=GV hs
  cases hj:bV cx.P e with
  | none=>rw [hj] at h; cases h
  | some j =>
   rw [hj] at h;simp only [] at h
   cases hv:jO tm (parts.toList.map (·.2)) with
   | none=>rw [hv] at h; cases h
   | some vs =>
    rw [hv] at h;simp only [GK] at h
    cases hcond:(Nat.beq (aF j.zero) j.size&&Nat.blt 0 j.size&&Nat.ble (len*j.size) 1000) with
    | false=>rw [hcond] at h; cases h
    | true =>
     rw [hcond] at h;simp only [cond_true] at h
     cases hc:tJ (Dy j.size) ((List.range (len*j.size)).map (I4 j.zero)) ((parts.toList.map (·.1)).zip vs) with
     | none=>rw [hc] at h; cases h
     | some cs =>
      rw [hc] at h;simp only [yA,jr,dG,dY] at h
      cases hn:Nat.blt g.n 1000000 with
      | false=>rw [hn] at h; cases h
      | true =>
       rw [hn] at h;injection h with h; injection h with h1 h; injection h with h2 h3;subst h1 h2 h3;rw [aI] at hn;simp only [Bool.and_eq_true,beq_iff,bn,aI,aF] at hcond;obtain⟨⟨q1,q2⟩,q3⟩:=hcond;obtain⟨f,z,k1,k2,k3,k4,k5,k6⟩:=lY hj;have hzs:z.cells.size=j.size:=by rw [<- q1,k6]; simp
       have hf:=Py hE hc;rw [<- UD he hv] at hf
       have hz:(ay E ((List.range (len*j.size)).map (I4 j.zero))).toArray=(Array.range (len*f.size)).map (z.cells[·%z.cells.size]!):=by
        apply Array.ext';rw [cO,List.map_map,Array.toList_map,k3];simp only [Array.toList_range];apply List.map_congr_left;intro k _;show(I4 j.zero k).aA E=_;unfold I4 aF;rw [nD,q1,hzs];show(match j.zero[k%j.size]? with | some v=>v | none=>AV.lit default).aA E=_;rw [k6,List.getElem?_map];by_cases hlt:k%j.size<z.cells.size
        . have e1:z.cells.toList[k%j.size]?=some z.cells[k%j.size]:=by simp [hlt]
          rw [e1,getElem!_pos z.cells _ hlt];rfl
        . have e1:z.cells.toList[k%j.size]?=none:=by simp; omega
          rw [e1,getElem!_neg z.cells _ hlt];rfl
       rw [hz] at hf;rw [show Dy j.size=fun i=>some (i*f.size,f.size) from by rw [k3]; rfl] at hf
       have hlow:iE g.n cs=true:=by
        unfold iE;rw [aI,pow_eq];refine dP fun k hk=>?_
        have gen:∀ {parts:List (Nat×AV)} {cs cs':List AV},tJ (Dy j.size) cs parts=some cs'->(∀ p∈parts,p.2.lt g.n=true)->(∀ k,(dM cs).testBit k=true->k<g.n)->∀ k,(dM cs').testBit k=true->k<g.n:=by
         intro parts
         induction parts with
         | nil=>intro cs cs' h _ h2; unfold tJ at h; injection h with h; subst h; exact h2
         | cons p rest ih =>
          intro cs cs' h hp h2;obtain⟨i',u⟩:=p;unfold tJ Dy at h
          cases UE:oZ u with
          | none=>rw [UE] at h; cases h
          | some us =>
           rw [UE] at h;simp only [] at h
           cases hcc:(Nat.beq (aF us) j.size&&Nat.ble (i'*j.size+aF us) (aF cs)) with
           | false=>rw [hcc] at h; cases h
           | true =>
            rw [hcc] at h;refine ih h (fun q hq=>hp q (by simp [hq])) fun k hk=>?_;obtain⟨q,hq,hqb⟩:=Dz hk;unfold splice at hq;rcases List.mem_append.1 hq with hq | hq
            . rcases List.mem_append.1 hq with hq | hq
              . exact h2 k (fF (List.mem_of_mem_take hq) hqb)
              . have:=fF hq hqb
                rw [(wX hE UE).2.1] at this;exact AV.fQ (hp (i',u) (by simp)) this
            . exact h2 k (fF (List.mem_of_mem_drop hq) hqb)
        refine gen hc (fun p hp=>?_) (fun k hk=>?_) k hk
        . exact KZ hl hv p.2 (List.of_mem_zip (show(p.1,p.2)∈_ from hp)).2
        . exfalso
          obtain⟨q,hq,hqb⟩:=Dz hk;obtain⟨x,_,rfl⟩:=List.mem_map.1 hq;unfold I4 at hqb;rw [nD,k6,List.getElem?_map] at hqb
          cases hx:z.cells.toList[Nat.mod x (aF (List.map AV.lit z.cells.toList))]? with
          | none=>rw [hx] at hqb; simp [AV.kL] at hqb
          | some y=>rw [hx] at hqb; simp [AV.kL] at hqb
       have hw:=KX r e cs g.nv hn hlow;have hu:=vW ht;rw [hd] at hu;refine⟨rfl,_,_,.inl ?_,hw⟩
       have hrun:∀ ps,Instr.fill (fun i=>some (i*f.size,f.size)) ((Array.range (len*f.size)).map (z.cells[·%z.cells.size]!)) ps=some (ay E cs).toArray ->
        ∀ qs:Array (Nat×Value),qs.toList=ps->(Instr.buildSlice T len qs).run cx.P w=.ok (.slice (some ⟨w.heap.size,0,none⟩) len len) (w.alloc (.cells (ay E cs).toArray e)):=fun ps hps qs hq=>by
        subst hq;by_cases h0:len*f.size=0
        . exact MW w T e len _ _ f z hu k1 h0 hps
        . exact run_buildSlice w T e len _ _ f z hu k1 k5 (by rw [k3]; omega) h0 hps
       rw [Sem.run_bind,hrun _ hf _ rfl];simp [AV.aA,Env.new]
end
end Xi
namespace Xi
open Go Go.RowKit
section
variable {cx:Cx} {M:f_ cx.P} {E:Env} {s:M.σ} {g g':G} {w:World} {tm:Tm} {ρ:Operand->Value} {v:AV} {δ:List Ev}
theorem Fine.of(r:Rep M E s g.at g.n w){x:Sem Next}(hx:x.run cx.P w=.ok (.value (v.aA E)) w)(hg:g'=g)(hδ:δ=[]):Fine M E s g w x v g' δ:=by
 subst hg hδ; exact Fine.pure r hx
theorem got{a:AV}(h:(some (a,g,([]:List Ev)):bI)=some (v,g',δ)):v=a/\g'=g/\δ=[]:=by
 injection h with h; injection h with h1 h; injection h with h2 h3;exact⟨h1.symm,h2.symm,h3.symm⟩
theorem ahI{a:Option AV}(h:Ur a g=some (v,g',δ)):a=some v/\g'=g/\δ=[]:=by
 unfold Ur at h
 cases a with
 | none=>cases h
 | some a=>obtain⟨rfl,h2,h3⟩:=got h; exact⟨rfl,h2,h3⟩
theorem alZ(he:mZ E tm ρ)(r:Rep M E s g.at g.n w){x:Operand}{o:Oper}(ho:o.op=.nilCheck x)(h:ahs (dD tm x) g=some (v,g',δ)):Fine M E s g w (execOp ρ o) v g' δ:=by
 cases hx:dD tm x with
 | none=>rw [hx] at h; cases h
 | some u =>
  rw [hx] at h;unfold ahs at h;have e:=he x u hx;split at h
  . rename_i b off heq
    injection heq with heq; subst heq;obtain⟨rfl,h2,h3⟩:=got h;refine Fine.of r ?_ h2 h3;simp [execOp,ho,e,AV.aA]
  . rename_i t u heq
    injection heq with heq; subst heq;obtain⟨rfl,h2,h3⟩:=got h;refine Fine.of r ?_ h2 h3;simp [execOp,ho,e,AV.aA]
  . rename_i f a c heq
    injection heq with heq; subst heq;obtain⟨rfl,h2,h3⟩:=got h;refine Fine.of r ?_ h2 h3;simp [execOp,ho,e,AV.aA]
  . rename_i a heq
    injection heq with heq; subst heq;obtain⟨rfl,h2,h3⟩:=got h;refine Fine.of r ?_ h2 h3;simp [execOp,ho,e,AV.aA]
  . cases h
theorem al0{op:BinOp}{x y z:AV}(h:aaV op x y=some z){T:TypeId}{a b:Operand}:(do eqGuard op T a b (x.aA E) (y.aA E); binOp op T (x.aA E) (y.aA E):Sem Value).run cx.P w=.ok (z.aA E) w:=by
 unfold aaV at h;split at h
 . rename_i k a k' b
   cases hsh:vU op with
   | true =>
    rw [hsh] at h;simp only [cond_true] at h;unfold Dx at h
    cases b with
    | negSucc n=>cases h
    | ofNat n =>
     cases op<;>first
      | (simp only [vU,reduceCtorEq] at hsh; done)
      | (injection h with h; subst h; simp [AV.aA,eqGuard,binOp,Op.shift]; omega)
      | (injection h with h; subst h; simp [AV.aA,eqGuard,binOp,Op.shift])
   | false =>
   rw [hsh] at h;simp only [cond_false] at h;split at h
   . rename_i hk
     subst hk
     have dv:∀ {q:Bool} {z':AV},(bif b==0 then none else some z')=some z->b≠0/\z'=z:=fun {q z'} h=>by
      by_cases hb:b=0
      . subst hb; cases h
      . have:(b==0)=false:=by simpa using hb
        rw [this] at h;injection h with h;exact⟨hb,h⟩
     split at h<;>first
      | (injection h with h; subst h; simp [AV.aA,eqGuard,binOp,Op.intArith,Op.intCmp]; done)
      | (injection h with h; subst h; simp [AV.aA,eqGuard,binOp,intBits_and,intBits_or,intBits_xor,intBits_andNot])
      | (obtain⟨hb,rfl⟩:=dv (q:=true) h; simp [AV.aA,eqGuard,binOp,Op.intDiv,hb])
      | cases h
   . cases h
 . cases h
theorem zW(r:Rep M E s g.at g.n w){s':M.σ}{p:Pr}{xs:List AV}{test:Bool}(h:Eh cx g p xs test=some (v,g',δ))(hs:gX M E.ρ δ s s') :
 kH δ=true/\uJ cx.P p (ay E xs) (v.aA E)/\jk M E g.at g.n s w E g'.at g'.n s w:=by
 unfold Eh at h;simp only [dG] at h
 cases h0:iE 0 xs with
 | false=>rw [h0] at h; cases h
 | true =>
  rw [h0] at h;simp only [cond_true] at h;have e1:ay (E0 E.ρ) xs=ay E xs:=iq (E:=E) (E':=E0 E.ρ) rfl xs fun k hk=>by have:=kE h0 hk; omega
  cases test with
  | true =>
   simp only [cond_true] at h
   cases hb:cx.br g.nv with
   | none=>rw [hb] at h; cases h
   | some b =>
    rw [hb] at h;injection h with h; injection h with h1 h; injection h with h2 h3;subst h1 h2 h3;obtain⟨s1,⟨hp,rfl⟩,_⟩:=hs;rw [e1] at hp;exact⟨rfl,hp,r.went⟩
  | false =>
   simp only [cond_false] at h;injection h with h; injection h with h1 h; injection h with h2 h3;subst h1 h2 h3;obtain⟨s1,⟨hp,rfl⟩,_⟩:=hs;rw [e1] at hp;exact⟨rfl,hp,r.went⟩
theorem al1(he:mZ E tm ρ)(r:Rep M E s g.at g.n w){s':M.σ}{op:BinOp}{T U:TypeId}{x y:Operand}{o:Oper}(ho:o.op=.binOp op T x y U)(h:aht cx tm op T x y g=some (v,g',δ))(hs:gX M E.ρ δ s s'):Fine M E s g w (execOp ρ o) v g' δ:=by
 unfold aht at h
 cases hx:dD tm x with
 | none=>rw [hx] at h; cases h
 | some u =>
  cases hy:dD tm y with
  | none=>rw [hx,hy] at h; cases h
  | some u' =>
   rw [hx,hy] at h;simp only [] at h
   have fin:∀ {z:AV},(do eqGuard op T x y (u.aA E) (u'.aA E); binOp op T (u.aA E) (u'.aA E):Sem Value).run cx.P w=.ok (z.aA E) w->(execOp ρ o).run cx.P w=.ok (.value (z.aA E)) w:=fun {z} hz=>by
    simp only [execOp,ho,he x u hx,he y u' hy,Sem.run_bind] at hz ⊢;rw [hz];rfl
   cases hb:aaV op u u' with
   | none =>
    rw [hb] at h;obtain⟨hq,hp,hw⟩:=zW r h hs;exact⟨hq,E,w,.inl (fin (hp x y w)),hw⟩
   | some z =>
    rw [hb] at h;obtain⟨rfl,h2,h3⟩:=got h;exact Fine.of r (fin (al0 hb)) h2 h3
theorem aoy(he:mZ E tm ρ)(r:Rep M E s g.at g.n w){s':M.σ}{op:UnOp}{T:TypeId}{x:Operand}{o:Oper}(ho:o.op=.unOp op T x)(h:oUn cx op (dD tm x) g=some (v,g',δ))(hs:gX M E.ρ δ s s'):Fine M E s g w (execOp ρ o) v g' δ:=by
 cases hx:dD tm x with
 | none=>rw [hx] at h; cases h
 | some u =>
  rw [hx] at h;unfold oUn at h;split at h
  . rename_i b heq
    injection heq with heq; subst heq;split at h
    . obtain⟨rfl,h2,h3⟩:=got h
      refine Fine.of r ?_ h2 h3;simp [execOp,ho,he x _ hx,AV.aA,Op.unary]
    . cases h
  . rename_i u' _ heq
    injection heq with heq; subst heq;obtain⟨hq,hp,hw⟩:=zW r h hs;refine⟨hq,E,w,.inl ?_,hw⟩;simp only [execOp,ho,he x _ hx,Sem.run_bind,hp w];rfl
  . rename_i heq; cases heq
theorem wY{T:TypeId}{k:IntKind}(h:kindOf cx T=some k):(underlying T).run cx.P w=.ok (.int k) w:=by
 unfold kindOf at h
 cases ht:bV cx.P T with
 | none=>rw [ht] at h; cases h
 | some i =>
  rw [ht] at h;simp only [] at h;have hu:=lZ (w:=w) ht
  cases hd:i.d with
  | int k'=>rw [hd] at h hu; injection h with h; subst h; exact hu
  | _=>rw [hd] at h; cases h
theorem al2(he:mZ E tm ρ)(r:Rep M E s g.at g.n w){T:TypeId}{x:Operand}{o:Oper}(ho:o.op=.makeInterface T x)(h:ahu cx tm T x g=some (v,g',δ)):Fine M E s g w (execOp ρ o) v g' δ:=by
 unfold ahu at h
 cases ht:bV cx.P T with
 | none=>rw [ht] at h; cases h
 | some i =>
  rw [ht] at h;simp only [] at h;have hu:=lZ (w:=w) ht
  have main:(match dD tm x with | some v=>some (AV.qC T v,g,([]:List Ev)) | none=>none)=some (v,g',δ)->(∀ ms,i.d≠.interface ms)->Fine M E s g w (execOp ρ o) v g' δ:=fun h hne=>by
   cases hx:dD tm x with
   | none=>rw [hx] at h; cases h
   | some u =>
    rw [hx] at h;obtain⟨rfl,h2,h3⟩:=got h;refine Fine.of r ?_ h2 h3;simp only [execOp,ho,Instr.makeInterface,Sem.run_bind,hu,Result.andThen_ok]
    cases hd:i.d<;>first | (exact absurd hd (hne _)) | simp [he x u hx,AV.aA]
  split at h
  . cases h
  . rename_i hne
    exact main h (fun ms=>hne ms)
theorem al3(he:mZ E tm ρ)(r:Rep M E s g.at g.n w){f:Fn}{a c:Array Operand}{o:Oper}(ho:o.op=.makeFunc f a c)(h:ahv tm f a.toList c.toList g=some (v,g',δ)):Fine M E s g w (execOp ρ o) v g' δ:=by
 unfold ahv at h
 cases ha:jO tm a.toList with
 | none=>rw [ha] at h; cases h
 | some u =>
  cases hc:jO tm c.toList with
  | none=>rw [ha,hc] at h; cases h
  | some u' =>
   rw [ha,hc] at h;obtain⟨rfl,h2,h3⟩:=got h;refine Fine.of r ?_ h2 h3;have e1:a.map ρ=(ay E u).toArray:=by apply Array.ext'; rw [Array.toList_map,uq he ha]
   have e2:c.map ρ=(ay E u').toArray:=by apply Array.ext'; rw [Array.toList_map,uq he hc]
   simp [execOp,ho,Instr.makeFunc,AV.aA,e1,e2]
theorem UF{T:TypeId}{cs:List AV}{off:Nat}(h:apart cx T cs off=some v):(part T (ay E cs).toArray off).run cx.P w=.ok (v.aA E) w:=by
 unfold apart at h
 cases ht:bV cx.P T with
 | none=>rw [ht] at h; cases h
 | some i =>
  rw [ht] at h;simp only [jr,nD] at h;unfold part;rw [Sem.run_bind,Px ht];simp only [Result.andThen_ok]
  cases ha:i.agg with
  | true =>
   rw [ha] at h;simp only [cond_true] at h
   cases hl:Nat.ble (off+i.size) (aF cs) with
   | false=>rw [hl] at h; cases h
   | true =>
    rw [hl] at h;injection h with h;subst h;simp only [if_true,Sem.run_bind,jv ht,Result.andThen_ok,Sem.run_pure,AV.aA];congr 2;apply Array.ext';rw [yS,yT];simp
  | false =>
   rw [ha] at h;simp only [cond_false] at h;simp only [Bool.false_eq_true,if_false];have:(ay E cs).toArray[off]?=some (v.aA E):=by rw [cO]; simp [h]
   rw [this];rfl
theorem GX{T:TypeId}{k:Nat}{f:Field}(h:nC cx T k=some f):∃ i fs,bV cx.P T=some i/\i.d=.struct fs/\fs[k]?=some f:=by
 unfold nC at h
 cases ht:bV cx.P T with
 | none=>rw [ht] at h; cases h
 | some i =>
  rw [ht] at h;simp only [] at h
  cases hd:i.d with
  | struct fs=>rw [hd] at h; exact⟨i,fs,rfl,hd,h⟩
  | _=>rw [hd] at h; cases h
theorem Sz(he:mZ E tm ρ)(r:Rep M E s g.at g.n w){T:TypeId}{x:Operand}{k:Nat}{o:Oper}(ho:o.op=.fieldAddr T x k)(h:Ei cx tm T x k g=some (v,g',δ)):Fine M E s g w (execOp ρ o) v g' δ:=by
 unfold Ei at h
 cases hf:nC cx T k with
 | none=>rw [hf] at h; cases h
 | some f =>
  rw [hf] at h;obtain⟨i,fs,ht,hd,hk⟩:=GX hf;simp only [] at h
  cases hx:dD tm x with
  | none=>rw [hx] at h; cases h
  | some u =>
   rw [hx] at h;split at h
   . rename_i b off heq
     injection heq with heq; subst heq
     cases hj:bV cx.P f.type with
     | none=>rw [hj] at h; cases h
     | some j =>
      rw [hj] at h;simp only [] at h
      cases h0:Nat.beq j.size 0 with
      | true=>rw [h0] at h; cases h
      | false =>
       rw [h0] at h;obtain⟨rfl,h2,h3⟩:=got h;refine Fine.of r ?_ h2 h3;have hne:¬ j.size=0:=fun e=>by rw [e] at h0; cases h0
       have hu:=lZ (w:=w) ht;rw [hd] at hu;simp only [execOp,ho,Instr.fieldAt,Sem.run_bind,hu,Result.andThen_ok,hk,he x _ hx,AV.aA,Instr.sureAddr,Sem.run_pure,fieldPlace,jv hj,if_neg hne];rw [add_plain]
   . cases h
theorem ad7(he:mZ E tm ρ)(r:Rep M E s g.at g.n w){T:TypeId}{x:Operand}{k:Nat}{o:Oper}(ho:o.op=.field T x k)(h:Us cx tm T x k g=some (v,g',δ)):Fine M E s g w (execOp ρ o) v g' δ:=by
 unfold Us at h
 cases hf:nC cx T k with
 | none=>rw [hf] at h; cases h
 | some f =>
  rw [hf] at h;obtain⟨i,fs,ht,hd,hk⟩:=GX hf;simp only [] at h
  cases hx:dD tm x with
  | none=>rw [hx] at h; cases h
  | some u =>
   rw [hx] at h;split at h
   . rename_i cs heq
     injection heq with heq; subst heq;obtain⟨ha,h2,h3⟩:=ahI h;refine Fine.of r ?_ h2 h3;have hu:=lZ (w:=w) ht;rw [hd] at hu;simp only [execOp,ho,Instr.field,Sem.run_bind,hu,Result.andThen_ok,hk,he x _ hx,AV.aA,asAgg,Sem.run_pure,UF (cx:=cx) (w:=w) (E:=E) ha]
   . cases h
theorem vY{n:Nat}{i:AV}{j:Nat}(h:Bz n i=some j):∃ k,i=.lit (.int k (j:Int))/\j<n:=by
 unfold Bz at h;split at h
 . rename_i k i
   cases hl:Nat.blt i n with
   | false=>rw [hl] at h; cases h
   | true =>
    rw [hl] at h;injection h with h;subst h;exact⟨k,rfl,aI.1 hl⟩
 . cases h
theorem CY{T e:TypeId}{arr:Option Nat}(h:elemOf cx T=some (e,arr)):∃ i,bV cx.P T=some i/\i.d=(match arr with | some n=>.array n e | none=>.slice e):=by
 unfold elemOf at h
 cases ht:bV cx.P T with
 | none=>rw [ht] at h; cases h
 | some i =>
  rw [ht] at h;simp only [] at h
  cases hd:i.d with
  | array n e'=>rw [hd] at h; injection h with h; injection h with h1 h2; subst h1 h2; exact⟨i,rfl,hd⟩
  | slice e'=>rw [hd] at h; injection h with h; injection h with h1 h2; subst h1 h2; exact⟨i,rfl,hd⟩
  | _=>rw [hd] at h; cases h
theorem SA(hvw:tX cx M E.ρ)(he:mZ E tm ρ)(r:Rep M E s g.at g.n w){T:TypeId}{x y:Operand}{o:Oper}(ho:o.op=.indexAddr T x y)(h:Ej cx tm T x y g=some (v,g',δ)):Fine M E s g w (execOp ρ o) v g' δ:=by
 unfold Ej at h
 cases hel:elemOf cx T with
 | none=>rw [hel] at h; cases h
 | some p =>
  obtain⟨e,arr⟩:=p;rw [hel] at h;obtain⟨i,ht,hd⟩:=CY hel;simp only [] at h
  cases hx:dD tm x with
  | none=>rw [hx] at h; cases h
  | some u =>
   cases hy:dD tm y with
   | none=>rw [hx,hy] at h; cases h
   | some iv =>
    cases hj:bV cx.P e with
    | none=>rw [hx,hy,hj] at h; cases h
    | some j =>
     rw [hx,hy,hj] at h;simp only [] at h;have hu:=lZ (w:=w) ht;rw [hd] at hu;unfold akH at h;split at h
     . rename_i b off
       cases arr with
       | none=>cases h
       | some n =>
        simp only [] at h
        cases ha:Bz n iv with
        | none=>rw [ha] at h; cases h
        | some q =>
         rw [ha] at h;obtain⟨rfl,h2,h3⟩:=got h;obtain⟨k,rfl,hq⟩:=vY ha;refine Fine.of r ?_ h2 h3;have hc:(0:Int)<=(q:Int)/\(q:Int)<(n:Int):=⟨by omega,by omega⟩
         simp only [execOp,ho,Instr.indexAt,Sem.run_bind,he x _ hx,he y _ hy,AV.aA,asIntOf,Sem.run_pure,Result.andThen_ok,hu,Instr.sureAddr,jv hj,if_pos hc,Int.toNat_natCast];rw [add_plain]
     . rename_i b off n c
       cases arr with
       | some n=>cases h
       | none =>
        simp only [] at h
        cases ha:Bz n iv with
        | none=>rw [ha] at h; cases h
        | some q =>
         rw [ha] at h;obtain⟨rfl,h2,h3⟩:=got h;obtain⟨k,rfl,hq⟩:=vY ha;refine Fine.of r ?_ h2 h3;have hc:(0:Int)<=(q:Int)/\(q:Int)<(n:Int):=⟨by omega,by omega⟩
         simp only [execOp,ho,Instr.indexAt,Sem.run_bind,he x _ hx,he y _ hy,AV.aA,asIntOf,Sem.run_pure,Result.andThen_ok,hu,jv hj,if_pos hc,Int.toNat_natCast];rw [add_plain]
     . rename_i b n
       cases arr with
       | some n=>cases h
       | none =>
        simp only [] at h
        cases ha:Bz n iv with
        | none=>rw [ha] at h; cases h
        | some q =>
         rw [ha] at h;obtain⟨rfl,h2,h3⟩:=got h;obtain⟨k,rfl,hq⟩:=vY ha;refine Fine.of r ?_ h2 h3;have hc:(0:Int)<=(q:Int)/\(q:Int)<(n:Int):=⟨by omega,by omega⟩
         simp only [execOp,ho,Instr.indexAt,Sem.run_bind,he x _ hx,he y _ hy,AV.aA,asIntOf,Sem.run_pure,Result.andThen_ok,hu,jv hj,if_pos hc,Int.toNat_natCast];rw [add_plain,Nat.zero_add]
     . rename_i b off n
       cases arr with
       | some n=>cases h
       | none =>
        simp only [] at h
        cases ha:Bz n iv with
        | none=>rw [ha] at h; cases h
        | some q =>
         rw [ha] at h;obtain⟨rfl,h2,h3⟩:=got h;obtain⟨k,rfl,hq⟩:=vY ha;refine Fine.of r ?_ h2 h3;have hc:(0:Int)<=(q:Int)/\(q:Int)<(n:Int):=⟨by omega,by omega⟩
         simp only [execOp,ho,Instr.indexAt,Sem.run_bind,he x _ hx,he y _ hy,AV.aA,asIntOf,Sem.run_pure,Result.andThen_ok,hu,jv hj,if_pos hc,Int.toNat_natCast];rw [add_plain]
     . rename_i k0 off n
       cases arr with
       | some n=>cases h
       | none =>
        simp only [] at h
        cases hcs:cx.vw k0 with
        | none=>rw [hcs] at h; cases h
        | some cs =>
        rw [hcs] at h;simp only [] at h;obtain⟨b0,a0,m0,c0,hρ0,_⟩:=hvw k0 cs hcs
        cases ha:Bz n iv with
        | none=>rw [ha] at h; cases h
        | some q =>
         rw [ha] at h;obtain⟨rfl,h2,h3⟩:=got h;obtain⟨k,rfl,hq⟩:=vY ha;refine Fine.of r ?_ h2 h3;have hc:(0:Int)<=(q:Int)/\(q:Int)<(n:Int):=⟨by omega,by omega⟩
         simp only [execOp,ho,Instr.indexAt,Sem.run_bind,he x _ hx,he y _ hy,AV.aA,hρ0,MI,vpV,asIntOf,Sem.run_pure,Result.andThen_ok,hu,jv hj,if_pos hc,Int.toNat_natCast];rw [add_plain,Nat.add_assoc]
     . cases h
theorem ad8(he:mZ E tm ρ)(r:Rep M E s g.at g.n w){T:TypeId}{x y:Operand}{o:Oper}(ho:o.op=.index T x y)(h:Ut cx tm T x y g=some (v,g',δ)):Fine M E s g w (execOp ρ o) v g' δ:=by
 unfold Ut at h;split at h
 . rename_i e n hel
   obtain⟨i,ht,hd⟩:=CY hel;split at h
   . rename_i cs hx
     cases hy:dD tm y with
     | none=>rw [hy] at h; cases h
     | some iv =>
      rw [hy] at h;unfold Zm at h
      cases hj:bV cx.P e with
      | none=>simp only [hj] at h; cases h
      | some j =>
       simp only [hj] at h
       cases ha:Bz n iv with
       | none=>rw [ha] at h; cases h
       | some q =>
        rw [ha] at h;obtain⟨hp,h2,h3⟩:=ahI h;obtain⟨k,rfl,hq⟩:=vY ha;refine Fine.of r ?_ h2 h3;have hu:=lZ (w:=w) ht;rw [hd] at hu;have hc:(0:Int)<=(q:Int)/\(q:Int)<(n:Int):=⟨by omega,by omega⟩
        simp only [execOp,ho,Instr.index,Sem.run_bind,he x _ hx,he y _ hy,AV.aA,asIntOf,Sem.run_pure,Result.andThen_ok,hu,jv hj,if_pos hc,Int.toNat_natCast,UF (cx:=cx) (w:=w) (E:=E) hp]
   . cases h
 . cases h
theorem Yq(he:mZ E tm ρ)(r:Rep M E s g.at g.n w){x:Operand}{k:Nat}{o:Oper}(ho:o.op=.extract x k)(h:KT (dD tm x) k g=some (v,g',δ)):Fine M E s g w (execOp ρ o) v g' δ:=by
 cases hx:dD tm x with
 | none=>rw [hx] at h; cases h
 | some u =>
  rw [hx] at h;unfold KT at h;split at h
  . rename_i vs heq
    injection heq with heq; subst heq;obtain⟨ha,h2,h3⟩:=ahI h;refine Fine.of r ?_ h2 h3;rw [nD] at ha;have:(ay E vs).toArray[k]?=some (v.aA E):=by rw [cO]; simp [ha]
    simp [execOp,ho,he x _ hx,AV.aA,Instr.extract,this]
  . cases h
theorem Zo(he:mZ E tm ρ){x:Option Operand}{d i:Nat}(h:uH tm x d=some i):(x=none/\i=d)\/∃ o k,x=some o/\ρ o=.int k (Int.ofNat i):=by
 unfold uH at h
 cases x with
 | none=>injection h with h; exact .inl ⟨rfl,h.symm⟩
 | some o =>
  right;simp only [] at h
  cases ho:dD tm o with
  | none=>rw [ho] at h; cases h
  | some v =>
   rw [ho] at h;split at h
   . rename_i k q heq
     injection heq with heq;injection h with h;subst h heq;exact⟨o,k,rfl,he o _ ho⟩
   . cases h
theorem uK{P:Program}(he:mZ E tm ρ){lo hi:Option Operand}{len cap l h:Nat}(isS:Bool)(hl:uH tm lo 0=some l)(hh:uH tm hi len=some h)(h1:l<=h)(h2:h<=cap) :
 (Instr.sliceBounds isS len cap (lo.map ρ) (hi.map ρ) none).run P w=.ok (l,h,cap) w:=by
 have c1:∀ q:Nat,(0:Int)<=Int.ofNat q:=fun q=>by simp
 have c2:(Int.ofNat l:Int)<=(h:Int):=by simp; omega
 have c3:(Int.ofNat h:Int)<=(cap:Int):=by simp; omega
 rcases Zo he hl with⟨rfl,rfl⟩ | ⟨o,k,rfl,e1⟩<;>rcases Zo he hh with⟨rfl,rfl⟩ | ⟨o',k',rfl,e2⟩
 . simp [Instr.sliceBounds,Sem.run_bind,Sem.run_pure,Result.andThen_ok]
 . simp only [Instr.sliceBounds,Sem.run_bind,Sem.run_pure,Result.andThen_ok,Option.map_none,Option.map_some,e2,Instr.sliceBound,asIntOf,if_pos (And.intro (c1 h) c3)]
   rfl
 . simp only [Instr.sliceBounds,Sem.run_bind,Sem.run_pure,Result.andThen_ok,Option.map_none,Option.map_some,e1,Instr.sliceBound,asIntOf,if_pos (And.intro (c1 l) c2)]
   rfl
 . simp only [Instr.sliceBounds,Sem.run_bind,Sem.run_pure,Result.andThen_ok,Option.map_none,Option.map_some,e1,e2,Instr.sliceBound,asIntOf,if_pos (And.intro (c1 h) c3),show(Int.ofNat h).toNat=h from rfl,if_pos (And.intro (c1 l) c2)]
   rfl
theorem ad9{e:Option TI}{hh ll:Option Nat}{b off c:Nat}(h:oSl e hh ll b off c g=some (v,g',δ)):∃ j h l,e=some j/\hh=some h/\ll=some l/\l<=h/\h<=c/\v=.slc b (if c=l then off else off+l*j.size) (h - l) (c - l)/\g'=g/\δ=[]:=by
 unfold oSl at h;split at h
 . rename_i j h' l
   unfold aou at h;simp only [dG] at h
   cases hc:(Nat.ble l h'&&Nat.ble h' c) with
   | false=>rw [hc] at h; cases h
   | true =>
    rw [hc] at h;simp only [cond_true] at h;simp only [Bool.and_eq_true,bn] at hc;injection h with h; injection h with k1 h; injection h with k2 k3;refine⟨j,h',l,rfl,rfl,rfl,hc.1,hc.2,?_,k2.symm,k3.symm⟩;rw [<- k1];by_cases q:c=l
    . subst q; simp [rE]
    . rw [if_neg q,rE,decide_eq_false q]; rfl
 . cases h
theorem al4{e:Option TI}{hh ll:Option Nat}{cs:Option (List AV)}{k off n:Nat}(h:ahw e hh ll cs k off n g=some (v,g',δ)):∃ j h l cs',e=some j/\hh=some h/\ll=some l/\cs=some cs'/\j.size=1/\l<=h/\h<=n/\l<n/\off+n<=cs'.length/\v=.vw k (off+l) (h - l)/\g'=g/\δ=[]:=by
 unfold ahw at h;split at h
 . rename_i j h' l cs'
   cases hc:(Nat.beq j.size 1&&Nat.ble l h'&&Nat.ble h' n&&Nat.blt l n&&Nat.ble (off+n) (aF cs')) with
   | false=>rw [hc] at h; cases h
   | true =>
    rw [hc] at h;simp only [cond_true,dG] at h;simp only [Bool.and_eq_true,bn,aI,beq_iff,aF] at hc;obtain⟨⟨⟨⟨c1,c2⟩,c3⟩,c4⟩,c5⟩:=hc;injection h with h; injection h with k1 h; injection h with k2 k3;exact⟨j,h',l,cs',rfl,rfl,rfl,rfl,c1,c2,c3,c4,c5,k1.symm,k2.symm,k3.symm⟩
 . cases h
theorem Zp{e:Option TI}{hh ll:Option Nat}{B:Option AB}{b off n:Nat}(h:aaZ e hh ll B b off n g=some (v,g',δ)):∃ j h l B',e=some j/\hh=some h/\ll=some l/\B=some B'/\j.size=1/\l<=h/\h<=n/\l<n/\off+n<=B'.cs.length/\B'.row=true/\v=.Dw b (off+l) (h - l)/\g'=g/\δ=[]:=by
 unfold aaZ at h;split at h
 . rename_i j h' l B'
   cases hc:(Nat.beq j.size 1&&Nat.ble l h'&&Nat.ble h' n&&Nat.blt l n&&Nat.ble (off+n) (aF B'.cs)&&B'.row) with
   | false=>rw [hc] at h; cases h
   | true =>
    rw [hc] at h;simp only [cond_true,dG] at h;simp only [Bool.and_eq_true,bn,aI,beq_iff,aF] at hc;obtain⟨⟨⟨⟨⟨c1,c2⟩,c3⟩,c4⟩,c5⟩,c6⟩:=hc;injection h with h; injection h with k1 h; injection h with k2 k3;exact⟨j,h',l,B',rfl,rfl,rfl,rfl,c1,c2,c3,c4,c5,c6,k1.symm,k2.symm,k3.symm⟩
 . cases h
theorem Zq(r:Rep M E s g.at g.n w){b:Nat}{B:AB}(hB:g.at b=some B)(hr:B.row=true):B.cs.length<=E.κ b:=by
 have hb:=(r.blk b B hB).1;unfold kT at hb;rw [if_pos hr] at hb;rcases hb.2 with⟨h1,_⟩ | ⟨g',cap,cur,h1,_,_,h2,_⟩
 . cases h1
 . injection h1 with _ _ h3
   omega
theorem ad_(hvw:tX cx M E.ρ)(he:mZ E tm ρ)(r:Rep M E s g.at g.n w){T:TypeId}{x:Operand}{lo hi mx:Option Operand}{o:Oper}(ho:o.op=.slice T x lo hi mx)(h:Uo cx tm T x lo hi mx g=some (v,g',δ)):Fine M E s g w (execOp ρ o) v g' δ:=by
 unfold Uo at h
 cases mx with
 | some _=>cases h
 | none =>
  simp only [] at h
  cases ht:bV cx.P T with
  | none=>rw [ht] at h; cases h
  | some i =>
   rw [ht] at h;simp only [] at h;have hu:=lZ (w:=w) ht;split at h
   . rename_i n e b off hd hx
     obtain⟨j,h',l,e1,e2,e3,q1,q2,rfl,rfl,rfl⟩:=ad9 h;refine Fine.of r ?_ rfl rfl;rw [hd] at hu;have hb:=uK (P:=cx.P) (w:=w) (cap:=n) he false e3 e2 q1 q2;simp only [execOp,ho,Instr.sliceAt,Sem.run_bind,hu,Result.andThen_ok,he x _ hx,AV.aA,Instr.sureAddr,Sem.run_pure,hb,jv e1,Option.map_none];by_cases q:n=l
     . rw [if_pos q,if_pos q]
     . rw [if_neg q,if_neg q]; simp only [Option.map_some,add_plain]
   . rename_i e b off n c hd hx
     obtain⟨j,h',l,e1,e2,e3,q1,q2,rfl,rfl,rfl⟩:=ad9 h;refine Fine.of r ?_ rfl rfl;rw [hd] at hu;have hb:=uK (P:=cx.P) (w:=w) (cap:=c) he true e3 e2 q1 q2;simp only [execOp,ho,Instr.sliceAt,Sem.run_bind,hu,Result.andThen_ok,he x _ hx,AV.aA,Sem.run_pure,Instr.slice,hb,jv e1,Option.map_none];by_cases q:c=l
     . rw [if_pos q,if_pos q]
     . rw [if_neg q,if_neg q]; simp only [Option.map_some,add_plain]
   . rename_i e b n hd hx
     obtain⟨j,h',l,B,e1,e2,e3,e4,c1,q1,q2,q3,q4,q5,rfl,rfl,rfl⟩:=Zp h;refine Fine.of r ?_ rfl rfl;rw [hd] at hu;have hcap:=Zq r e4 q5;have hb:=uK (P:=cx.P) (w:=w) (cap:=E.κ b) he true e3 e2 q1 (by omega);simp only [execOp,ho,Instr.sliceAt,Sem.run_bind,hu,Result.andThen_ok,he x _ hx,AV.aA,Sem.run_pure,Instr.slice,hb,jv e1,Option.map_none];rw [if_neg (by omega),c1];simp only [Option.map_some,add_plain,Nat.mul_one,Nat.zero_add]
   . rename_i e b off n hd hx
     obtain⟨j,h',l,B,e1,e2,e3,e4,c1,q1,q2,q3,q4,q5,rfl,rfl,rfl⟩:=Zp h;refine Fine.of r ?_ rfl rfl;rw [hd] at hu;have hcap:=Zq r e4 q5;have hb:=uK (P:=cx.P) (w:=w) (cap:=E.κ b - off) he true e3 e2 q1 (by omega);simp only [execOp,ho,Instr.sliceAt,Sem.run_bind,hu,Result.andThen_ok,he x _ hx,AV.aA,Sem.run_pure,Instr.slice,hb,jv e1,Option.map_none];rw [if_neg (by omega),c1];simp only [Option.map_some,add_plain,Nat.mul_one,Nat.sub_sub]
   . rename_i e k off n hd hx
     obtain⟨j,h',l,cs,e1,e2,e3,e4,c1,q1,q2,q3,q4,rfl,rfl,rfl⟩:=al4 h;refine Fine.of r ?_ rfl rfl;rw [hd] at hu;obtain⟨b0,a0,m0,c0,hρ0,hlen,_⟩:=hvw k cs e4;have hb:=uK (P:=cx.P) (w:=w) (cap:=c0 - off) he true e3 e2 q1 (by omega);simp only [execOp,ho,Instr.sliceAt,Sem.run_bind,hu,Result.andThen_ok,he x _ hx,AV.aA,hρ0,MI,Sem.run_pure,Instr.slice,hb,jv e1,Option.map_none];rw [if_neg (by omega),c1];simp only [Option.map_some,add_plain,Nat.mul_one,Nat.add_assoc,Nat.sub_sub]
   . cases h
theorem al5(he:mZ E tm ρ)(r:Rep M E s g.at g.n w){s':M.σ}{c:Call}{o:Oper}(ho:o.op=.call c)(hc:c.callee=.builtin .min)(h:ahy tm c.args.toList cx g=some (v,g',δ))(hs:gX M E.ρ δ s s'):Fine M E s g w (execOp ρ o) v g' δ:=by
 unfold ahy at h;split at h
 . rename_i a b has
   cases hx:dD tm a with
   | none=>rw [hx] at h; cases h
   | some x =>
    cases hy:dD tm b with
    | none=>rw [hx,hy] at h; cases h
    | some y =>
     rw [hx,hy] at h;have e2:c.args=#[a,b]:=by apply Array.ext'; rw [has]
     obtain⟨hq,hp,hw⟩:=zW r h hs;refine⟨hq,E,w,.inl ?_,hw⟩;have hp':=hp w;simp only [execOp,ho,resolve,hc,Sem.run_bind,Sem.run_pure,Result.andThen_ok,invoke,builtin,Builtin.min_,e2];simp [he a _ hx,he b _ hy,hp']
 . cases h
theorem al6(hvw:tX cx M E.ρ)(he:mZ E tm ρ)(r:Rep M E s g.at g.n w){c:Call}{o:Oper}(ho:o.op=.call c)(hc:c.callee=.builtin .len)(h:ahx cx tm c.argTypes.toList c.args.toList g=some (v,g',δ)):Fine M E s g w (execOp ρ o) v g' δ:=by
 unfold ahx at h;split at h
 . rename_i t a hts has
   cases hx:dD tm a with
   | none=>rw [hx] at h; cases h
   | some u =>
    cases hel:elemOf cx t with
    | none=>rw [hx,hel] at h; cases h
    | some p =>
     obtain⟨e,arr⟩:=p;rw [hx,hel] at h;simp only [] at h;obtain⟨i,ht,hd⟩:=CY hel;have hu:=lZ (w:=w) ht;rw [hd] at hu;have e1:c.argTypes=#[t]:=by apply Array.ext'; rw [hts]
     have e2:c.args=#[a]:=by apply Array.ext'; rw [has]
     unfold akI at h
     cases arr with
     | some n =>
      obtain⟨rfl,h2,h3⟩:=got h;refine Fine.of r ?_ h2 h3;simp only [execOp,ho,resolve,hc,Sem.run_bind,Sem.run_pure,Result.andThen_ok,invoke,builtin,Builtin.len_,e1,e2];simp [hu,AV.aA,goInt]
     | none =>
      simp only [] at h
      have go:∀ {A:Option Addr} {n k:Nat},u.aA E=.slice A n k->v=.lit (.int .i64 n)->g'=g->δ=[]->Fine M E s g w (execOp ρ o) v g' δ:=fun {A n k} hux hv h2 h3=>by
       subst hv;refine Fine.of r ?_ h2 h3;simp only [execOp,ho,resolve,hc,Sem.run_bind,Sem.run_pure,Result.andThen_ok,invoke,builtin,Builtin.len_,e1,e2];simp [hu,AV.aA,goInt,he a _ hx,hux]
      split at h
      . obtain⟨h1,h2,h3⟩:=got h; exact go rfl h1 h2 h3
      . obtain⟨h1,h2,h3⟩:=got h; exact go rfl h1 h2 h3
      . obtain⟨h1,h2,h3⟩:=got h; exact go rfl h1 h2 h3
      . rename_i k off n
        cases hcs:cx.vw k with
        | none=>rw [hcs] at h; cases h
        | some cs =>
         rw [hcs] at h;obtain⟨b0,a0,m0,c0,hρ0,_⟩:=hvw k cs hcs;obtain⟨h1,h2,h3⟩:=got h;exact go (show(AV.vw k off n).aA E=.slice (some ⟨b0,a0+off,none⟩) n (c0 - off) by simp only [AV.aA,hρ0,MI]) h1 h2 h3
      . obtain⟨h1,h2,h3⟩:=got h; exact go (A:=none) (n:=0) (k:=0) rfl h1 h2 h3
      . cases h
 . cases h
