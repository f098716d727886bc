/- A program that is made (emit.Maker), as a Lean state; what its methods do to it. Lists are kept the last one first. No program is in sight. -/
import Derived.Test.YtjmojlhnmkjdkaaGreatDoorAbD
import Derived.Lib.ItoaNum
set_option linter.unusedVariables false
namespace Go.Proofs.YtjmojlhnmkjdkaaGreatDoor.Ab
open Go Go.Proofs.YtjmojlhnmkjdkaaGreatDoor Xi
structure KS where
 rc:List aW
 nc:Nat
 rd:List (Nat×Nat)
 ru:List (Nat×Nat)
 rr:List (Nat×Nat×Bool)
 used:Nat
 rs:Tr Bool
 names:Nat
 data:List (Nat×Int)
 cons:List (Int×Nat)
 rt:List Nat
 nt:Nat
 depth:Nat
 ri:List Nat
 ro:List Nat
def Q5:KS:=⟨[],0,[],[],[],0,.nil,0,[],[],[],0,0,[],[]⟩
def jK(s:KS)(a:Nat):Bool:=match s.rs.get a with | some b=>b | none=>false
def o7 (b:Bool):Nat->Nat->Tr Bool->Tr Bool
 | 0,_,t=>t
 | n+1,a,t=>Tr.jG 20 t a (some b) fun t=>o7 b n (Nat.succ a) t
def KS.room(s:KS)(n:Nat)(sec:Bool):KS:={ s with rr:=(s.names+1,n,sec)::s.rr,used:=s.used+n,rs:=o7 sec n s.used s.rs,names:=s.names+1 }
def KS.ins(s:KS)(i:aW):KS:={ s with rc:=i::s.rc,nc:=s.nc+1 }
def KS.load (s:KS) (r at_:Nat):KS:=s.ins ⟨34,r,0,0,at_⟩
def KS.store (s:KS) (r at_:Nat):KS:=s.ins ⟨35,r,0,0,at_⟩
def KS.kept (s:KS) (r:Nat) (sec:Bool):KS:=(s.room 1 sec).store r s.used
def zl(l:List (Int×Nat))(n:Int):Option Nat:=match l with
 | []=>none
 | (m,a)::l=>if m=n then some a else zl l n
def KS.const(s:KS)(n:Int):Nat×KS:=match zl s.cons n with
 | some a=>(a,s)
 | none=>(s.used,{ (s.room 1 false) with data:=(s.used,n)::s.data,cons:=(n,s.used)::s.cons })
def KS.op (s:KS) (op a b:Nat):KS :=
 let s1:=s.load 1 a
 let s2:=if op<=23 then s1.load 2 b else s1
 (s2.ins ⟨op,3,1,if op<=23 then 2 else 0,0⟩).kept 3 (jK s a||jK s b)
def KS.cell (s:KS) (v:Nat):KS:=(s.load 1 v).kept 1 true
def KS.set (s:KS) (c v:Nat):KS:=(s.load 1 v).store 1 c
def KS.GN (s:KS) (n:Nat):KS :=
 let s1:=s.room 1 false
 { s1 with rc:=⟨35,(8+2*s.depth:Nat),0,0,s.used⟩::⟨31,(9+2*s.depth:Nat),0,0,n⟩::⟨31,(8+2*s.depth:Nat),0,0,0⟩::s1.rc,nc:=s1.nc+3,rd:=(s1.names+1,s1.nc+2)::s1.rd,names:=s1.names+1,depth:=s.depth+1 }
def KS.fin (s:KS) (name:Nat):KS :=
 { s with rc:=⟨38,(6+2*s.depth:Nat),(7+2*s.depth:Nat),0,0⟩::⟨31,(6+2*s.depth:Nat),(6+2*s.depth:Nat),0,1⟩::s.rc,nc:=s.nc+2,ru:=(name,s.nc+1)::s.ru,depth:=s.depth - 1 }
def KS.tab(s:KS)(at_:Nat):KS:={ s with rt:=at_::s.rt,nt:=s.nt+1 }
def qQ:List Int->Nat->List (Nat×Int)->List (Nat×Int)
 | [],_,d=>d
 | x::l,a,d=>qQ l (a+1) ((a,x)::d)
def KS.table (s:KS) (l:List Int):KS:=KS.tab { (s.room l.length false) with data:=qQ l s.used s.data } s.used
def rM:List Nat->Nat->KS->KS
 | [],_,s=>s
 | v::l,a,s=>rM l (a+1) (s.set a v)
def KS.fill (s:KS) (l:List Nat):KS:=(rM l s.used (s.room l.length true)).tab s.used
def KS.at_ (s:KS) (t i:Nat):KS:=((s.load 1 i).ins ⟨34,2,1,0,(s.rt.reverse.getD t 0:Nat)⟩).kept 2 true
def nJ:Nat->Nat->List Nat
 | 0,_=>[]
 | n+1,a=>a::nJ n (a+1)
def KS.given(s:KS)(n:Nat):KS:=KS.tab { (s.room n true) with ri:=(nJ n s.used).reverse++s.ri } s.used
def KS.stays(s:KS)(x:Int):KS:={ (s.room 1 true) with data:=(s.used,x)::s.data }
def KS.answer(s:KS)(l:List Nat):KS:={ s with ro:=l.reverse++s.ro }
def oI (n:Nat):List UInt8:=Go.Lib.itoa (n:Int)
def iL(n:Nat):Nm:=118::oI n
def jg(n:Nat):Nm:=108::oI n
def KS.bm(s:KS):BM:=⟨s.rc.reverse,s.rd.reverse.map fun p=>(jg p.1,(p.2:Int)),s.ru.reverse.map fun p=>(jg p.1,(p.2:Int))⟩
