/- A builder of code as lists: names, places, instructions. No program in sight. -/
import Derived.Test.YtjfnpokebaagmaaGreatDoorCodeLaw
namespace Go.Proofs.YtjfnpokebaagmaaGreatDoor
/-- An instruction. -/
structure Ins5 where
  op : Int
  d : Int
  a : Int
  b : Int
  n : Int
  deriving DecidableEq
abbrev Nm := List UInt8
def smallB (c : UInt8) : Bool := decide (97 ≤ c.toNat) && decide (c.toNat ≤ 122)
def otherB (c : UInt8) : Bool := smallB c || (decide (48 ≤ c.toNat) && decide (c.toNat ≤ 57)) || c == 95
/-- A name. -/
def isL (s : Nm) : Bool := match s with
  | [] => false
  | c :: r => decide (r.length < 24) && smallB c && r.all otherB
/-- A builder: code, names' places, uses of names. -/
structure BM where
  code : List Ins5
  defs : List (Nm × Int)
  uses : List (Nm × Int)
def findL (l : List (Nm × Int)) (s : Nm) : Option Int := (l.find? fun p => p.1 == s).map (·.2)
def chkI (i : Ins5) : Int := chk i.op i.d i.a i.b i.n
/-- An instruction more. -/
def insM (m : BM) (i : Ins5) : Int × BM := if chkI i ≠ 0 then (chkI i, m) else (0, { m with code := m.code ++ [i] })
/-- A name's place. -/
def defM (m : BM) (s : Nm) (at_ : Int) : Int × BM := if isL s = false then (8, m) else if (findL m.defs s).isSome then (9, m) else (0, { m with defs := m.defs ++ [(s, at_)] })
def labelM (m : BM) (s : Nm) : Int × BM := defM m s m.code.length
/-- A use of a name. -/
def useM (m : BM) (s : Nm) (at_ : Int) : Int × BM := if isL s = false then (8, m) else (0, { m with uses := m.uses ++ [(s, at_)] })
def goesB (op : Int) : Bool := decide (36 ≤ op) && decide (op ≤ 40)
/-- An instruction that goes to a name. -/
def goM (m : BM) (op d a : Int) (s : Nm) : Int × BM :=
  if goesB op = false then (2, m) else if chkI ⟨op, d, a, 0, 0⟩ ≠ 0 then (chkI ⟨op, d, a, 0, 0⟩, m) else if isL s = false then (8, m) else
    (0, { m with uses := m.uses ++ [(s, (m.code.length : Int))], code := m.code ++ [⟨op, d, a, 0, 0⟩] })
def regB (d : Int) : Bool := decide (0 ≤ d) && decide (d ≤ 31)
/-- A number into a register. -/
def setCode (d n : Int) : List Ins5 := if -32768 ≤ n ∧ n ≤ 32767 then [⟨31, d, 0, 0, n⟩] else [⟨33, d, 0, 0, n % 4294967296 / 65536⟩, ⟨32, d, d, 0, n % 65536⟩]
def setM (m : BM) (d n : Int) : Int × BM := if regB d = false then (6, m) else (0, { m with code := m.code ++ setCode d n })
/-- A loop up to what is inside, and its end. -/
def loopB (c l n : Int) : Bool := regB c && regB l && decide (c ≠ 0) && decide (l ≠ 0) && decide (c ≠ l) && decide (1 ≤ n) && decide (n ≤ 32767)
def openM (m : BM) (c l n : Int) (s : Nm) : Int × BM :=
  if loopB c l n = false then (6, m) else if isL s = false then (8, m) else if (findL m.defs s).isSome then (9, m) else
    (0, { m with defs := m.defs ++ [(s, ((m.code.length : Int) + 2))], code := m.code ++ [⟨31, c, 0, 0, 0⟩, ⟨31, l, 0, 0, n⟩] })
def closeM (m : BM) (c l : Int) (s : Nm) : BM :=
  { m with uses := m.uses ++ [(s, (m.code.length : Int) + 1)], code := m.code ++ [⟨31, c, c, 0, 1⟩, ⟨38, c, l, 0, 0⟩] }
/-- What is to be put where; a name that has no place. -/
def fixM (defs : List (Nm × Int)) : List (Nm × Int) → Except Nm (List (Int × Int))
  | [] => .ok []
  | (s, p) :: r => match findL defs s with
    | none => .error s
    | some t => match fixM defs r with
      | .error e => .error e
      | .ok l => .ok ((p, t) :: l)
/-- The last one that tells of a place. -/
def lastL (l : List (Int × Int)) (k : Int) : Option Int := l.foldl (fun acc p => if p.1 = k then some p.2 else acc) none
def encI (i : Ins5) : Int := if chkI i = 0 then encK i.op i.d i.a i.b i.n 4 else 0
def patched (fx : List (Int × Int)) (k : Nat) (i : Ins5) : Ins5 := match lastL fx k with | some t => { i with n := t } | none => i
def codeM (fx : List (Int × Int)) (code : List Ins5) : List Int := code.mapIdx fun k i => encI (patched fx k i)
/-- The code, or which name lacks. -/
def finM (m : BM) : List Int × Nm × Int := match fixM m.defs m.uses with
  | .error s => ([], s, 10)
  | .ok fx => if 16384 < m.code.length then ([], [], 5) else (codeM fx m.code, [], 0)
end Go.Proofs.YtjfnpokebaagmaaGreatDoor
