/- Texts of this claim, side by side: ModelL, ModelV, ModelM, ModelN. -/
import Derived.Test.YtjcgiddgafjdpaaGreatDoorFQ19
import Derived.Deep.Cut
import Derived.Test.YtjcgiddgafjdpaaGreatDoorFQ1
import Derived.Test.YtjcgiddgafjdpaaGreatDoorFQ18
/- Feed of bytes of another length. -/
namespace Go.Proofs.YtjcgiddgafjdpaaGreatDoor
open Go.RowKit Go.Deep Xi
set_option linter.unusedVariables false
end Go.Proofs.YtjcgiddgafjdpaaGreatDoor

/- What the laws on models share: what Feed and Tell answer as bytes; the first state. -/
namespace Go.Proofs.YtjcgiddgafjdpaaGreatDoor.Xi
open Go Go.RowKit Go.Deep
set_option linter.unusedVariables false
theorem lV (x:St) (fl:Int):(x.frame fl).length = 32:=rfl
theorem aif (a b c d:Wd) (s f g:Int) {fl:Int} (h:0≤fl∧fl≤7):∀ y∈OX a b c d s f g fl,y < 256:=fun y hy => by
 have h1:(fl + (bif pq a b c d then 8 else 0)).toNat < 256:=by cases pq a b c d <;> simp <;> omega
 simp only [OX,b2,b4,List.cons_append,List.nil_append,List.mem_cons,List.not_mem_nil,or_false] at hy
 rcases hy with rfl | rfl | hy
 · decide
 · exact h1
 · rcases hy with rfl | rfl | rfl | rfl | rfl | rfl | rfl | rfl | rfl | rfl | rfl | rfl | rfl | rfl | rfl | rfl | rfl | rfl | rfl | rfl | rfl | rfl | rfl | rfl | rfl | rfl | rfl | rfl <;> exact qG _ _
theorem yB (x:St) {fl:Int} (h:0≤fl∧fl≤7):∀ y∈x.frame fl,y < 256:=TQ (aif _ _ _ _ _ _ _ h)
def St.cells (x:St):List Value:=[.int .i32 x.q.a.v,.int .i32 x.q.b.v,.int .i32 x.q.c.v,.int .i32 x.q.d.v,.int .i64 x.s,.int .i64 x.f,.int .i64 x.g]
end Go.Proofs.YtjcgiddgafjdpaaGreatDoor.Xi
namespace Go.Proofs.YtjcgiddgafjdpaaGreatDoor
open Go.RowKit Go.Deep Xi
set_option linter.unusedVariables false
def q1:Q4:=⟨kW 1073741824,kW 0,kW 0,kW 0⟩
def st0:St:=⟨q1,0,0,0⟩
def z20:List Nat:=List.replicate 20 0
theorem yZ:st0.right:=by unfold St.right st0 vI; simp
theorem WW:Fq z20 18 = false:=by decide +kernel
theorem ae7:st0.next z20 = ⟨q1,1,1,0⟩:=by unfold St.next; rw [WW]; rfl
theorem acn:jf z20 = 1:=by unfold jf; rw [WW]; rfl
theorem aii:pq q1.a q1.b q1.c q1.d = false:=by decide +kernel
end Go.Proofs.YtjcgiddgafjdpaaGreatDoor

/- The reference's Get of a frame. -/
namespace Go.Proofs.YtjcgiddgafjdpaaGreatDoor.Xi
open Go Go.RowKit Go.Deep
set_option linter.unusedVariables false
def gsh:List (FuncId × Sh):=[(213,.one),(40,.one),(70,.one)]
noncomputable def amv:List (TA J7):=[al_.k,ama.k,alD.k]
def O4 (B:Nat→Int) (r:Bool):Ob:=.test (.bin .neq 9) [.string (Bg (OY (front B 30))),.string (Bg (front B 32))] (.bool r)
def h1 (n b:Int):Int:=IntKind.i64.wrap (IntKind.i64.wrap (256 * n) + IntKind.i64.wrap b)
def n2 (B:Nat→Int) (k:Nat):Int:=h1 (IntKind.i64.wrap (B k)) (B (k + 1))
def n4 (B:Nat→Int) (k:Nat):Int:=(kW (h1 (h1 (h1 (h1 0 (B k)) (B (k + 1))) (B (k + 2))) (B (k + 3)))).v
def afa (B:Nat→Int):Value:=.agg #[.int .i64 (IntKind.i64.wrap (B 1)),.int .i64 (n2 B 2),.int .i64 (n2 B 4),.int .i64 (n2 B 6),.int .i32 (n4 B 8),.int .i32 (n4 B 12),.int .i32 (n4 B 16),.int .i32 (n4 B 20),.int .i32 (jS (B 24) (B 25)),.int .i32 (jS (B 26) (B 27)),.int .i32 (jS (B 28) (B 29))]
set_option maxRecDepth 100000 in
theorem ail (B:Nat→Int):YN (cxV [] gsh [(68,false),(69,false),(70,false)] [jZ 32 0]) (TB amv) 3000 18 [jZ 32 0] [.vw 1000000 0 32] (vb B 32) =
 some (true,[.v (afa B),.v (.int .i64 0)],[.test (.bin .gtr 5) [.int .u8 (B 1),.int .u8 15] (.bool false),.test (.bin .neq 5) [.int .u8 (B 0),.int .u8 1] (.bool false),O4 B false]):=by kernel_rfl
def St.rep (x:St) (fl:Int):Value:=.agg #[.int .i64 (fl + (bif pq x.q.a x.q.b x.q.c x.q.d then 8 else 0)),.int .i64 x.s,.int .i64 x.f,.int .i64 x.g,.int .i32 x.q.a.v,.int .i32 x.q.b.v,.int .i32 x.q.c.v,.int .i32 x.q.d.v,
 .int .i32 ((jH x.q.a x.q.b x.q.c x.q.d).a.v / 65536),.int .i32 ((jH x.q.a x.q.b x.q.c x.q.d).b.v / 65536),.int .i32 ((jH x.q.a x.q.b x.q.c x.q.d).c.v / 65536)]
theorem wr (b:Nat) (h:b < 256):IntKind.i64.wrap (b:Int) = b:=wrapN b (by omega)
theorem JZ {n:Int} {b:Nat} (hn:0≤n∧n≤16777216) (hb:b < 256):h1 n b = 256 * n + b:=by
 unfold h1
 rw [wr b hb,show IntKind.i64.wrap (256 * n) = 256 * n by rw [IntKind.wrap_i64]; omega,IntKind.wrap_i64]
 omega
theorem LM {s:Int} (h:vI s):h1 (IntKind.i64.wrap (aV s 256:Nat)) (aV s 1:Nat) = s:=by
 have l1:=qG s 256
 have l2:=qG s 1
 rw [wr _ l1,JZ (by omega) l2]
 unfold vI at h
 unfold aV
 omega
theorem FD (x:Wd):(kW (h1 (h1 (h1 (h1 0 (aV x.v 16777216:Nat)) (aV x.v 65536:Nat)) (aV x.v 256:Nat)) (aV x.v 1:Nat))).v = x.v:=by
 have l0:=qG x.v 16777216
 have l1:=qG x.v 65536
 have l2:=qG x.v 256
 have l3:=qG x.v 1
 have hx:=wdB x
 rw [JZ (n:=0) (by omega) l0,JZ (n:=256 * 0 + ((aV x.v 16777216:Nat):Int)) (by omega) l1,JZ (n:=256 * (256 * 0 + ((aV x.v 16777216:Nat):Int)) + ((aV x.v 65536:Nat):Int)) (by omega) l2,JZ (by omega) l3]
 have e:256 * (256 * (256 * (256 * 0 + ((aV x.v 16777216:Nat):Int)) + ((aV x.v 65536:Nat):Int)) + ((aV x.v 256:Nat):Int)) + ((aV x.v 1:Nat):Int) = x.v % 4294967296:=by
  unfold aV
  omega
 rw [e]
 show wrap32 (x.v % 4294967296) = x.v
 unfold wrap32
 omega
theorem Eo {y:Int} (h:-32768≤y∧y≤32767):jS (aV y 256:Nat) (aV y 1:Nat) = y:=by
 unfold jS aV
 omega
theorem anY {xs:List Nat} (h:xs.length = 32):vb (xI xs) 32 = gX xs∧front (xI xs) 32 = nI xs∧front (xI xs) 30 = nI (xs.take 30):=by
 match xs,h with
 | [x0,x1,x2,x3,x4,x5,x6,x7,x8,x9,x10,x11,x12,x13,x14,x15,x16,x17,x18,x19,x20,x21,x22,x23,x24,x25,x26,x27,x28,x29,x30,x31],_ => exact ⟨rfl,rfl,rfl⟩
theorem anZ {xs:List Nat} (h:xs.length = 32):aA (dL (vb (xI xs) 32)) (jZ 32 0) = gX xs:=by
 match xs,h with
 | [x0,x1,x2,x3,x4,x5,x6,x7,x8,x9,x10,x11,x12,x13,x14,x15,x16,x17,x18,x19,x20,x21,x22,x23,x24,x25,x26,x27,x28,x29,x30,x31],_ => rfl
theorem ain (x:St) (hr:x.right) {fl:Int} (h:0≤fl∧fl≤7):afa (xI (x.frame fl)) = x.rep fl:=by
 have hF:IntKind.i64.wrap (((fl + (bif pq x.q.a x.q.b x.q.c x.q.d then 8 else 0)).toNat:Nat):Int) = fl + (bif pq x.q.a x.q.b x.q.c x.q.d then 8 else 0):=by
  rw [IntKind.wrap_i64]
  cases pq x.q.a x.q.b x.q.c x.q.d <;> simp <;> omega
 have ha:∀ y:Wd,-32768≤y.v / 65536∧y.v / 65536≤32767:=fun y => by have:=wdB y; omega
 have e:afa (xI (x.frame fl)) = .agg #[.int .i64 (IntKind.i64.wrap (((fl + (bif pq x.q.a x.q.b x.q.c x.q.d then 8 else 0)).toNat:Nat):Int)),.int .i64 (h1 (IntKind.i64.wrap (aV x.s 256:Nat)) (aV x.s 1:Nat)),.int .i64 (h1 (IntKind.i64.wrap (aV x.f 256:Nat)) (aV x.f 1:Nat)),.int .i64 (h1 (IntKind.i64.wrap (aV x.g 256:Nat)) (aV x.g 1:Nat)),
  .int .i32 (kW (h1 (h1 (h1 (h1 0 (aV x.q.a.v 16777216:Nat)) (aV x.q.a.v 65536:Nat)) (aV x.q.a.v 256:Nat)) (aV x.q.a.v 1:Nat))).v,.int .i32 (kW (h1 (h1 (h1 (h1 0 (aV x.q.b.v 16777216:Nat)) (aV x.q.b.v 65536:Nat)) (aV x.q.b.v 256:Nat)) (aV x.q.b.v 1:Nat))).v,
  .int .i32 (kW (h1 (h1 (h1 (h1 0 (aV x.q.c.v 16777216:Nat)) (aV x.q.c.v 65536:Nat)) (aV x.q.c.v 256:Nat)) (aV x.q.c.v 1:Nat))).v,.int .i32 (kW (h1 (h1 (h1 (h1 0 (aV x.q.d.v 16777216:Nat)) (aV x.q.d.v 65536:Nat)) (aV x.q.d.v 256:Nat)) (aV x.q.d.v 1:Nat))).v,
  .int .i32 (jS (aV ((jH x.q.a x.q.b x.q.c x.q.d).a.v / 65536) 256:Nat) (aV ((jH x.q.a x.q.b x.q.c x.q.d).a.v / 65536) 1:Nat)),.int .i32 (jS (aV ((jH x.q.a x.q.b x.q.c x.q.d).b.v / 65536) 256:Nat) (aV ((jH x.q.a x.q.b x.q.c x.q.d).b.v / 65536) 1:Nat)),.int .i32 (jS (aV ((jH x.q.a x.q.b x.q.c x.q.d).c.v / 65536) 256:Nat) (aV ((jH x.q.a x.q.b x.q.c x.q.d).c.v / 65536) 1:Nat))]:=by kernel_rfl
 rw [e,hF,LM hr.1,LM hr.2.1,LM hr.2.2,FD,FD,FD,FD,Eo (ha _),Eo (ha _),Eo (ha _)]
 rfl
theorem amw (x:St) (hr:x.right) {fl:Int} (h:0≤fl∧fl≤7) (v:Value) (w:World) (hw:J7 w) (hv:Sl w v (gX (x.frame fl))) :
 Calls Tryz.prog 18 #[v] w fun e w' => e = .returned (.tuple #[x.rep fl,.int .i64 0])∧ah w w' []:=by
 have hl:=lV x fl
 have hlt:=yB x h
 obtain ⟨g1,g2,g3⟩:=anY hl
 have hsum:lX Tryz.prog (O4 (xI (x.frame fl)) false):=by
  have h1:=amc 9 (Bg (OY (front (xI (x.frame fl)) 30))) (Bg (front (xI (x.frame fl)) 32))
  have e3:=aie (l:=wU ((x.frame fl).take 30)) (m:=x.frame fl) (TQ fun y hy => hlt y (List.mem_of_mem_take hy)) hlt
  have e4:wU ((x.frame fl).take 30) = x.frame fl:=rfl
  rw [e4,decide_eq_true rfl] at e3
  rw [g3,g2,NC,e4,e3] at h1
  unfold O4
  rw [g3,g2,NC,e4]
  exact h1
 have t0:xI (x.frame fl) 0 = 1:=rfl
 have t1:xI (x.frame fl) 1 = (((fl + (bif pq x.q.a x.q.b x.q.c x.q.d then 8 else 0)).toNat:Nat):Int):=rfl
 have ap0:∀ ob∈([.test (.bin .gtr 5) [.int .u8 (xI (x.frame fl) 1),.int .u8 15] (.bool false),.test (.bin .neq 5) [.int .u8 (xI (x.frame fl) 0),.int .u8 1] (.bool false),O4 (xI (x.frame fl)) false]:List Ob),qg Tryz.prog J7 ob:=by
  refine Zm (obK ?_) (Zm (obK ?_) (Zm (obK hsum) anU))
  · have:=af0 5 .u8 (xI (x.frame fl) 1) 15
    rw [show decide (15 < xI (x.frame fl) 1) = false by rw [t1]; cases pq x.q.a x.q.b x.q.c x.q.d <;> simp <;> omega] at this
    exact this
  · have:=anT 5 .u8 (xI (x.frame fl) 0) 1
    rw [show (xI (x.frame fl) 0 != 1) = false by rw [t0]; rfl] at this
    exact this
 have hone:∀ u∈([v]:List Value),u.oneCell' = true:=fun u hu => by
  simp at hu
  subst hu
  obtain ⟨A,c,rfl,_⟩:=hv
  rfl
 have an0:aA (E0 (ρS (vb (xI (x.frame fl)) 32) [v])) [.vw 1000000 0 32] = [v]:=by
  obtain ⟨A,c,rfl,hc,hA⟩:=hv
  obtain ⟨b,o,rfl,_⟩:=hA (by rw [oP]; omega)
  have e:aA (E0 (ρS (vb (xI (x.frame fl)) 32) [.slice (some ⟨b,o,none⟩) (gX (x.frame fl)).length c])) [.vw 1000000 0 32] = [.slice (some ⟨b,o + 0,none⟩) 32 (c - 0)]:=rfl
  rw [e,oP,hl]
  rfl
 refine (U6 amv (ail (xI (x.frame fl))) (by rw [g1]; exact ae5 hlt) ap0 w hw [v] (fun i cs hi => ?_) hone an0).mono ?_
 · cases i with
   | succ i => simp at hi
   | zero =>
    simp at hi
    subst hi
    exact ⟨v,rfl,by rw [anZ hl]; exact hv⟩
 · rintro e w' ⟨⟨us,ha,rfl⟩,hc⟩
   match us,ha with
   | [y,z],ha =>
    obtain ⟨rfl,rfl,_⟩:=ha
    rw [ain x hr h]
    exact ⟨rfl,hc⟩
end Go.Proofs.YtjcgiddgafjdpaaGreatDoor.Xi
