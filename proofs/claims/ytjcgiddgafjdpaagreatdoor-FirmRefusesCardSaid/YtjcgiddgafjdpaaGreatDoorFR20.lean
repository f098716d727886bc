/- Texts of this claim, side by side: ModelL, ModelV, ModelM, ModelN. -/
import Derived.Test.YtjcgiddgafjdpaaGreatDoorFR19
import Derived.Deep.Cut
import Derived.Test.YtjcgiddgafjdpaaGreatDoorFR1
import Derived.Test.YtjcgiddgafjdpaaGreatDoorFR18
/- Feed of bytes of another length. -/
namespace Go.Proofs.YtjcgiddgafjdpaaGreatDoor
open Go.RowKit Go.Deep Xi
set_option linter.unusedVariables false
end Go.Proofs.YtjcgiddgafjdpaaGreatDoor

/- What the laws on models share: what Feed and Tell answer as bytes; the first state. -/
namespace Go.Proofs.YtjcgiddgafjdpaaGreatDoor.Xi
open Go Go.RowKit Go.Deep
set_option linter.unusedVariables false
theorem frame_len (x:St) (fl:Int):(x.frame fl).length = 32:=rfl
theorem body_lt (a b c d:Wd) (s f g:Int) {fl:Int} (h:0≤fl∧fl≤7):∀ y∈bodyN a b c d s f g fl,y < 256:=fun y hy => by
 have h1:(fl + (bif lockB a b c d then 8 else 0)).toNat < 256:=by cases lockB a b c d <;> simp <;> omega
 simp only [bodyN,b2,b4,List.cons_append,List.nil_append,List.mem_cons,List.not_mem_nil,or_false] at hy
 rcases hy with rfl | rfl | hy
 · decide
 · exact h1
 · rcases hy with rfl | rfl | rfl | rfl | rfl | rfl | rfl | rfl | rfl | rfl | rfl | rfl | rfl | rfl | rfl | rfl | rfl | rfl | rfl | rfl | rfl | rfl | rfl | rfl | rfl | rfl | rfl | rfl <;> exact byteN_lt _ _
theorem frame_lt (x:St) {fl:Int} (h:0≤fl∧fl≤7):∀ y∈x.frame fl,y < 256:=sealN_lt (body_lt _ _ _ _ _ _ _ h)
def St.cells (x:St):List Value:=[.int .i32 x.q.a.v,.int .i32 x.q.b.v,.int .i32 x.q.c.v,.int .i32 x.q.d.v,.int .i64 x.s,.int .i64 x.f,.int .i64 x.g]
end Go.Proofs.YtjcgiddgafjdpaaGreatDoor.Xi
namespace Go.Proofs.YtjcgiddgafjdpaaGreatDoor
open Go.RowKit Go.Deep Xi
set_option linter.unusedVariables false
def q1:Q4:=⟨kW 1073741824,kW 0,kW 0,kW 0⟩
def st0:St:=⟨q1,0,0,0⟩
def z20:List Nat:=List.replicate 20 0
theorem st0_right:st0.right:=by unfold St.right st0 in16; simp
theorem z20_sum:sumOk z20 18 = false:=by decide +kernel
theorem st0_next:st0.next z20 = ⟨q1,1,1,0⟩:=by unfold St.next; rw [z20_sum]; rfl
theorem z20_flags:flN z20 = 1:=by unfold flN; rw [z20_sum]; rfl
theorem q1_lock:lockB q1.a q1.b q1.c q1.d = false:=by decide +kernel
end Go.Proofs.YtjcgiddgafjdpaaGreatDoor

/- The reference's Get of a frame. -/
namespace Go.Proofs.YtjcgiddgafjdpaaGreatDoor.Xi
open Go Go.RowKit Go.Deep
set_option linter.unusedVariables false
def gsh:List (FuncId × Sh):=[(213,.one),(40,.one),(70,.one)]
noncomputable def gtab:List (EntK FTab):=[rStepE.k,rPairE.k,lowE.k]
def gsumO (B:Nat→Int) (r:Bool):Ob:=.test (.bin .neq 9) [.string (bstr (rSeal (front B 30))),.string (bstr (front B 32))] (.bool r)
def h1 (n b:Int):Int:=IntKind.i64.wrap (IntKind.i64.wrap (256 * n) + IntKind.i64.wrap b)
def n2 (B:Nat→Int) (k:Nat):Int:=h1 (IntKind.i64.wrap (B k)) (B (k + 1))
def n4 (B:Nat→Int) (k:Nat):Int:=(kW (h1 (h1 (h1 (h1 0 (B k)) (B (k + 1))) (B (k + 2))) (B (k + 3)))).v
def getV (B:Nat→Int):Value:=.agg #[.int .i64 (IntKind.i64.wrap (B 1)),.int .i64 (n2 B 2),.int .i64 (n2 B 4),.int .i64 (n2 B 6),.int .i32 (n4 B 8),.int .i32 (n4 B 12),.int .i32 (n4 B 16),.int .i32 (n4 B 20),.int .i32 (pairI (B 24) (B 25)),.int .i32 (pairI (B 26) (B 27)),.int .i32 (pairI (B 28) (B 29))]
set_option maxRecDepth 100000 in
theorem get_run (B:Nat→Int):runS (cxV [] gsh [(68,false),(69,false),(70,false)] [opqs 32 0]) (tabK gtab) 3000 18 [opqs 32 0] [.vw 1000000 0 32] (vb B 32) =
 some (true,[.v (getV B),.v (.int .i64 0)],[.test (.bin .gtr 5) [.int .u8 (B 1),.int .u8 15] (.bool false),.test (.bin .neq 5) [.int .u8 (B 0),.int .u8 1] (.bool false),gsumO B false]):=by kernel_rfl
def St.rep (x:St) (fl:Int):Value:=.agg #[.int .i64 (fl + (bif lockB x.q.a x.q.b x.q.c x.q.d then 8 else 0)),.int .i64 x.s,.int .i64 x.f,.int .i64 x.g,.int .i32 x.q.a.v,.int .i32 x.q.b.v,.int .i32 x.q.c.v,.int .i32 x.q.d.v,
 .int .i32 ((anglesW x.q.a x.q.b x.q.c x.q.d).a.v / 65536),.int .i32 ((anglesW x.q.a x.q.b x.q.c x.q.d).b.v / 65536),.int .i32 ((anglesW x.q.a x.q.b x.q.c x.q.d).c.v / 65536)]
theorem wr (b:Nat) (h:b < 256):IntKind.i64.wrap (b:Int) = b:=wrapN b (by omega)
theorem h1_eq {n:Int} {b:Nat} (hn:0≤n∧n≤16777216) (hb:b < 256):h1 n b = 256 * n + b:=by
 unfold h1
 rw [wr b hb,show IntKind.i64.wrap (256 * n) = 256 * n by rw [IntKind.wrap_i64]; omega,IntKind.wrap_i64]
 omega
theorem n2_back {s:Int} (h:in16 s):h1 (IntKind.i64.wrap (byteN s 256:Nat)) (byteN s 1:Nat) = s:=by
 have l1:=byteN_lt s 256
 have l2:=byteN_lt s 1
 rw [wr _ l1,h1_eq (by omega) l2]
 unfold in16 at h
 unfold byteN
 omega
theorem n4_back (x:Wd):(kW (h1 (h1 (h1 (h1 0 (byteN x.v 16777216:Nat)) (byteN x.v 65536:Nat)) (byteN x.v 256:Nat)) (byteN x.v 1:Nat))).v = x.v:=by
 have l0:=byteN_lt x.v 16777216
 have l1:=byteN_lt x.v 65536
 have l2:=byteN_lt x.v 256
 have l3:=byteN_lt x.v 1
 have hx:=wdB x
 rw [h1_eq (n:=0) (by omega) l0,h1_eq (n:=256 * 0 + ((byteN x.v 16777216:Nat):Int)) (by omega) l1,h1_eq (n:=256 * (256 * 0 + ((byteN x.v 16777216:Nat):Int)) + ((byteN x.v 65536:Nat):Int)) (by omega) l2,h1_eq (by omega) l3]
 have e:256 * (256 * (256 * (256 * 0 + ((byteN x.v 16777216:Nat):Int)) + ((byteN x.v 65536:Nat):Int)) + ((byteN x.v 256:Nat):Int)) + ((byteN x.v 1:Nat):Int) = x.v % 4294967296:=by
  unfold byteN
  omega
 rw [e]
 show wrap32 (x.v % 4294967296) = x.v
 unfold wrap32
 omega
theorem pair_back {y:Int} (h:-32768≤y∧y≤32767):pairI (byteN y 256:Nat) (byteN y 1:Nat) = y:=by
 unfold pairI byteN
 omega
theorem gview {xs:List Nat} (h:xs.length = 32):vb (xI xs) 32 = u8s xs∧front (xI xs) 32 = nI xs∧front (xI xs) 30 = nI (xs.take 30):=by
 match xs,h with
 | [x0,x1,x2,x3,x4,x5,x6,x7,x8,x9,x10,x11,x12,x13,x14,x15,x16,x17,x18,x19,x20,x21,x22,x23,x24,x25,x26,x27,x28,x29,x30,x31],_ => exact ⟨rfl,rfl,rfl⟩
theorem gconc {xs:List Nat} (h:xs.length = 32):concL (getE (vb (xI xs) 32)) (opqs 32 0) = u8s xs:=by
 match xs,h with
 | [x0,x1,x2,x3,x4,x5,x6,x7,x8,x9,x10,x11,x12,x13,x14,x15,x16,x17,x18,x19,x20,x21,x22,x23,x24,x25,x26,x27,x28,x29,x30,x31],_ => rfl
theorem get_rep (x:St) (hr:x.right) {fl:Int} (h:0≤fl∧fl≤7):getV (xI (x.frame fl)) = x.rep fl:=by
 have hF:IntKind.i64.wrap (((fl + (bif lockB x.q.a x.q.b x.q.c x.q.d then 8 else 0)).toNat:Nat):Int) = fl + (bif lockB x.q.a x.q.b x.q.c x.q.d then 8 else 0):=by
  rw [IntKind.wrap_i64]
  cases lockB x.q.a x.q.b x.q.c x.q.d <;> simp <;> omega
 have ha:∀ y:Wd,-32768≤y.v / 65536∧y.v / 65536≤32767:=fun y => by have:=wdB y; omega
 have e:getV (xI (x.frame fl)) = .agg #[.int .i64 (IntKind.i64.wrap (((fl + (bif lockB x.q.a x.q.b x.q.c x.q.d then 8 else 0)).toNat:Nat):Int)),.int .i64 (h1 (IntKind.i64.wrap (byteN x.s 256:Nat)) (byteN x.s 1:Nat)),.int .i64 (h1 (IntKind.i64.wrap (byteN x.f 256:Nat)) (byteN x.f 1:Nat)),.int .i64 (h1 (IntKind.i64.wrap (byteN x.g 256:Nat)) (byteN x.g 1:Nat)),
  .int .i32 (kW (h1 (h1 (h1 (h1 0 (byteN x.q.a.v 16777216:Nat)) (byteN x.q.a.v 65536:Nat)) (byteN x.q.a.v 256:Nat)) (byteN x.q.a.v 1:Nat))).v,.int .i32 (kW (h1 (h1 (h1 (h1 0 (byteN x.q.b.v 16777216:Nat)) (byteN x.q.b.v 65536:Nat)) (byteN x.q.b.v 256:Nat)) (byteN x.q.b.v 1:Nat))).v,
  .int .i32 (kW (h1 (h1 (h1 (h1 0 (byteN x.q.c.v 16777216:Nat)) (byteN x.q.c.v 65536:Nat)) (byteN x.q.c.v 256:Nat)) (byteN x.q.c.v 1:Nat))).v,.int .i32 (kW (h1 (h1 (h1 (h1 0 (byteN x.q.d.v 16777216:Nat)) (byteN x.q.d.v 65536:Nat)) (byteN x.q.d.v 256:Nat)) (byteN x.q.d.v 1:Nat))).v,
  .int .i32 (pairI (byteN ((anglesW x.q.a x.q.b x.q.c x.q.d).a.v / 65536) 256:Nat) (byteN ((anglesW x.q.a x.q.b x.q.c x.q.d).a.v / 65536) 1:Nat)),.int .i32 (pairI (byteN ((anglesW x.q.a x.q.b x.q.c x.q.d).b.v / 65536) 256:Nat) (byteN ((anglesW x.q.a x.q.b x.q.c x.q.d).b.v / 65536) 1:Nat)),.int .i32 (pairI (byteN ((anglesW x.q.a x.q.b x.q.c x.q.d).c.v / 65536) 256:Nat) (byteN ((anglesW x.q.a x.q.b x.q.c x.q.d).c.v / 65536) 1:Nat))]:=by kernel_rfl
 rw [e,hF,n2_back hr.1,n2_back hr.2.1,n2_back hr.2.2,n4_back,n4_back,n4_back,n4_back,pair_back (ha _),pair_back (ha _),pair_back (ha _)]
 rfl
theorem get_ok (x:St) (hr:x.right) {fl:Int} (h:0≤fl∧fl≤7) (v:Value) (w:World) (hw:FTab w) (hv:Sl w v (u8s (x.frame fl))) :
 Calls Tryz.prog 18 #[v] w fun e w' => e = .returned (.tuple #[x.rep fl,.int .i64 0])∧Chg w w' []:=by
 have hl:=frame_len x fl
 have hlt:=frame_lt x h
 obtain ⟨g1,g2,g3⟩:=gview hl
 have hsum:ObOk Tryz.prog (gsumO (xI (x.frame fl)) false):=by
  have h1:=t_sneq 9 (bstr (rSeal (front (xI (x.frame fl)) 30))) (bstr (front (xI (x.frame fl)) 32))
  have e3:=bstr_eq (l:=sealN ((x.frame fl).take 30)) (m:=x.frame fl) (sealN_lt fun y hy => hlt y (List.mem_of_mem_take hy)) hlt
  have e4:sealN ((x.frame fl).take 30) = x.frame fl:=rfl
  rw [e4,decide_eq_true rfl] at e3
  rw [g3,g2,rSeal_nat,e4,e3] at h1
  unfold gsumO
  rw [g3,g2,rSeal_nat,e4]
  exact h1
 have t0:xI (x.frame fl) 0 = 1:=rfl
 have t1:xI (x.frame fl) 1 = (((fl + (bif lockB x.q.a x.q.b x.q.c x.q.d then 8 else 0)).toNat:Nat):Int):=rfl
 have hobs:∀ ob∈([.test (.bin .gtr 5) [.int .u8 (xI (x.frame fl) 1),.int .u8 15] (.bool false),.test (.bin .neq 5) [.int .u8 (xI (x.frame fl) 0),.int .u8 1] (.bool false),gsumO (xI (x.frame fl)) false]:List Ob),ObOkK Tryz.prog FTab ob:=by
  refine obsKC (obK ?_) (obsKC (obK ?_) (obsKC (obK hsum) obsK0))
  · have:=t_gtr 5 .u8 (xI (x.frame fl) 1) 15
    rw [show decide (15 < xI (x.frame fl) 1) = false by rw [t1]; cases lockB x.q.a x.q.b x.q.c x.q.d <;> simp <;> omega] at this
    exact this
  · have:=t_neq 5 .u8 (xI (x.frame fl) 0) 1
    rw [show (xI (x.frame fl) 0 != 1) = false by rw [t0]; rfl] at this
    exact this
 have hone:∀ u∈([v]:List Value),u.oneCell' = true:=fun u hu => by
  simp at hu
  subst hu
  obtain ⟨A,c,rfl,_⟩:=hv
  rfl
 have hconc:concL (E0 (ρS (vb (xI (x.frame fl)) 32) [v])) [.vw 1000000 0 32] = [v]:=by
  obtain ⟨A,c,rfl,hc,hA⟩:=hv
  obtain ⟨b,o,rfl,_⟩:=hA (by rw [u8s_length]; omega)
  have e:concL (E0 (ρS (vb (xI (x.frame fl)) 32) [.slice (some ⟨b,o,none⟩) (u8s (x.frame fl)).length c])) [.vw 1000000 0 32] = [.slice (some ⟨b,o + 0,none⟩) 32 (c - 0)]:=rfl
  rw [e,u8s_length,hl]
  rfl
 refine (seenF_calls gtab (get_run (xI (x.frame fl))) (by rw [g1]; exact good_u8s hlt) hobs w hw [v] (fun i cs hi => ?_) hone hconc).mono ?_
 · cases i with
   | succ i => simp at hi
   | zero =>
    simp at hi
    subst hi
    exact ⟨v,rfl,by rw [gconc hl]; exact hv⟩
 · rintro e w' ⟨⟨us,ha,rfl⟩,hc⟩
   match us,ha with
   | [y,z],ha =>
    obtain ⟨rfl,rfl,_⟩:=ha
    rw [get_rep x hr h]
    exact ⟨rfl,hc⟩
end Go.Proofs.YtjcgiddgafjdpaaGreatDoor.Xi
