/- Ab: runs of a core's code with values that are known, or numbered, told by the kernel: each operation that reckons is an event. Code, registers and memory are one number each. No program is in sight. -/
import Derived.Test.YtjcgiddgafjdpaaGreatDoorXiU
namespace Go.Proofs.YtjcgiddgafjdpaaGreatDoor.Ab
open Go Go.Proofs.YtjcgiddgafjdpaaGreatDoor.Xi
set_option linter.unusedVariables false
structure Ev where
 op:Nat
 x:Nat
 y:Nat
structure Mk where
 pc:Nat
 ad:Nat
 co:Nat
inductive St where
 | go (pc ns rg mm:Nat) (T:List Ev) (M:List Mk)
 | done (pc ns mm:Nat) (T:List Ev) (M:List Mk)
 | bad
def fP {β:Type} (n:Nat) (k:Nat→β):β:=match Nat.add n 1 with | 0 => k 0 | m + 1 => k m
@[simp] theorem wH {β:Type} (n:Nat) (k:Nat→β):fP n k = k n:=rfl
def eX (w:Nat):Nat:=Nat.shiftRight w 26
def dN (w:Nat):Nat:=Nat.land (Nat.shiftRight w 21) 31
def aN (w:Nat):Nat:=Nat.land (Nat.shiftRight w 16) 31
def bN (w:Nat):Nat:=Nat.land (Nat.shiftRight w 11) 31
def nN (w:Nat):Nat:=Nat.land w 65535
def dw (N k:Nat):Nat:=Nat.land (Nat.shiftRight N (Nat.mul 34 k)) 17179869183
def Dx (N k v:Nat):Nat:=Nat.xor N (Nat.shiftLeft (Nat.xor (dw N k) v) (Nat.mul 34 k))
def wordAt (code pc:Nat):Nat:=Nat.land (Nat.shiftRight code (Nat.mul 32 pc)) 4294967295
def xQ (c:Nat):Bool:=Nat.beq (Nat.land c 1) 0
def QA (c:Nat) (k:Nat→St):St:=bif xQ c then fP (Nat.div c 2) k else .bad
def oZ (ad:Nat):Nat:=bif Nat.blt ad 1024 then 2 else 3
def QB (nm w pc ns rg mm:Nat) (T:List Ev) (M:List Mk) (sw:Bool):St :=
 fP (dw rg (aN w)) fun ra => QA ra fun v => fP (Nat.add v (nN w)) fun ad => bif Nat.blt ad nm then
  (bif sw then fP (Dx mm ad (dw rg (dN w))) fun mm => fP (Nat.add pc 1) fun pc' => .go pc' ns rg mm T (⟨pc,Nat.succ ad,oZ ad⟩ :: M)
    else fP (dN w) fun d => bif Nat.beq d 0 then .bad else fP (Dx rg d (dw mm ad)) fun rg => fP (Nat.add pc 1) fun pc' => .go pc' ns rg mm T (⟨pc,Nat.succ ad,oZ ad⟩ :: M)) else .bad
def Oy (w pc ns rg mm:Nat) (T:List Ev) (M:List Mk):St :=
 fP (dw rg (aN w)) fun ra => QA ra fun v => fP (Nat.add v (nN w)) fun s => fP (dN w) fun d => bif Nat.blt s 32768 && !Nat.beq d 0 then
  fP (Dx rg d (Nat.mul 2 s)) fun rg => fP (Nat.add pc 1) fun pc' => .go pc' ns rg mm T (⟨pc,0,1⟩ :: M) else .bad
def X3 (w pc ns rg mm:Nat) (T:List Ev) (M:List Mk):St :=
 fP (dw rg (dN w)) fun rd => QA rd fun x => fP (dw rg (aN w)) fun ra => QA ra fun y => bif Nat.blt x 32768 && Nat.blt y 32768 then
  (bif Nat.blt x y then fP (nN w) fun pc' => .go pc' ns rg mm T (⟨pc,0,3⟩ :: M) else fP (Nat.add pc 1) fun pc' => .go pc' ns rg mm T (⟨pc,0,1⟩ :: M)) else .bad
def zy (op:Nat):Bool:=Nat.beq (Nat.land (Nat.shiftRight 0x7717EFFE op) 1) 1
def mZ (op:Nat):Nat:=bif Nat.blt 17 op && Nat.blt op 22 then 3 else 1
def X4 (op w pc ns rg mm:Nat) (T:List Ev) (M:List Mk):St :=
 bif zy op && Nat.blt ns 8000000 then fP (dw rg (aN w)) fun x => fP (dw rg (bN w)) fun y => fP (dN w) fun d => bif Nat.beq d 0 then .bad else
  fP (Dx rg d (Nat.add (Nat.mul 2 ns) 1)) fun rg => fP (Nat.add pc 1) fun pc' => fP (Nat.add ns 1) fun ns' => .go pc' ns' rg mm (⟨op,x,y⟩ :: T) (⟨pc,0,mZ op⟩ :: M) else .bad
def exA (nm w op pc ns rg mm:Nat) (T:List Ev) (M:List Mk):St :=
 bif Nat.beq op 34 then QB nm w pc ns rg mm T M false else
 bif Nat.beq op 35 then QB nm w pc ns rg mm T M true else
 bif Nat.beq op 31 then Oy w pc ns rg mm T M else
 bif Nat.beq op 38 then X3 w pc ns rg mm T M else
 bif Nat.beq op 43 then .done pc ns mm T (⟨pc,0,1⟩ :: M) else
 X4 op w pc ns rg mm T M
def yN (code nc nm:Nat) (s:St):St:=match s with
 | .go pc ns rg mm T M => bif Nat.blt pc nc then fP (wordAt code pc) fun w => fP (eX w) fun op => exA nm w op pc ns rg mm T M else .bad
 | .done pc ns mm T M => .done pc ns mm T M
 | .bad => .bad
def oq (code nc nm:Nat):Nat→St→St
 | 0,s => yN code nc nm s
 | k + 1,s => oq code nc nm k (oq code nc nm k s)
def Bq (code nc nm:Nat):List Nat→St→St
 | [],s => s
 | k :: l,s => Bq code nc nm l (oq code nc nm k s)
def afy (ns mem:Nat):St:=.go 0 ns 0 mem [] []
end Go.Proofs.YtjcgiddgafjdpaaGreatDoor.Ab
