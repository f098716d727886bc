/- Texts of this claim, side by side: ModelL, ModelV, ModelM, ModelN, FrGet. -/
import Derived.Test.YtnkmmaijigihpaaGreatDoorTT19
import Derived.Deep.Cut
set_option linter.unusedVariables false
set_option linter.unusedSimpArgs false
set_option maxRecDepth 100000
namespace Go.Proofs.YtnkmmaijigihpaaGreatDoor
section
open Go.RowKit Go.Deep Xi
def l7 (n:Nat):Int:=if n < 20 then 4 else 5
end

namespace Xi
open Go Go.RowKit Go.Deep
theorem iT (x:St) (fl:Int):(x.frame fl).length = 32:=rfl
theorem ai_ (a b c d:Wd) (s f g:Int) {fl:Int} (h:0<=fl/\fl<=7):∀ y∈Qg a b c d s f g fl,y < 256:=fun y hy => by
 have h1:(fl + (bif jy a b c d then 8 else 0)).toNat < 256:=by cases jy a b c d <;> simp <;> omega
 simp only [Qg,b2,b4,List.cons_append,List.nil_append,List.mem_cons,List.not_mem_nil,or_false] at hy;rcases hy with rfl | rfl | hy
 . decide
 . exact h1
 . rcases hy with rfl | rfl | rfl | rfl | rfl | rfl | rfl | rfl | rfl | rfl | rfl | rfl | rfl | rfl | rfl | rfl | rfl | rfl | rfl | rfl | rfl | rfl | rfl | rfl | rfl | rfl | rfl | rfl <;> exact g_ _ _
theorem yO (x:St) {fl:Int} (h:0<=fl/\fl<=7):∀ y∈x.frame fl,y < 256:=UA (ai_ _ _ _ _ _ _ _ h)
def St.cells (x:St):List Value:=[.int .i32 x.q.a.v,.int .i32 x.q.b.v,.int .i32 x.q.c.v,.int .i32 x.q.d.v,.int .i64 x.s,.int .i64 x.f,.int .i64 x.g]
end Xi
section
open Go.RowKit Go.Deep Xi
def q1:Q4:=⟨kW 1073741824,kW 0,kW 0,kW 0⟩
def st0:St:=⟨q1,0,0,0⟩
def z20:List Nat:=List.replicate 20 0
theorem MZ:st0.val = .agg #[.int .i32 1073741824,.int .i32 0,.int .i32 0,.int .i32 0,.int .i64 0,.int .i64 0,.int .i64 0]:=by
 unfold St.val st0 stV q1;rw [show (kW 1073741824).v = 1073741824 by decide +kernel,show (kW 0).v = 0 by decide +kernel]
theorem ES:st0.right:=by unfold St.right st0 rZ; simp
theorem XG:rX z20 18 = false:=by decide +kernel
theorem afS:st0.next z20 = ⟨q1,1,1,0⟩:=by unfold St.next; rw [XG]; rfl
theorem ac5:lJ z20 = 1:=by unfold lJ; rw [XG]; rfl
theorem aja:jy q1.a q1.b q1.c q1.d = false:=by decide +kernel
end

namespace Xi
open Go Go.RowKit Go.Deep
def gsh:List (FuncId × Sh):=[(151,.one),(33,.one),(61,.one)]
noncomputable def amV:List (Uy jq):=[amK.k,amL.k,aqn.k]
def Qj (B:Nat->Int) (r:Bool):Ob:=.test (.bin .neq 9) [.string (BU (Qh (front B 30))),.string (BU (front B 32))] (.bool r)
def h1 (n b:Int):Int:=IntKind.i64.wrap (IntKind.i64.wrap (256 * n) + IntKind.i64.wrap b)
def n2 (B:Nat->Int) (k:Nat):Int:=h1 (IntKind.i64.wrap (B k)) (B (k + 1))
def n4 (B:Nat->Int) (k:Nat):Int:=(kW (h1 (h1 (h1 (h1 0 (B k)) (B (k + 1))) (B (k + 2))) (B (k + 3)))).v
def afV (B:Nat->Int):Value:=.agg #[.int .i64 (IntKind.i64.wrap (B 1)),.int .i64 (n2 B 2),.int .i64 (n2 B 4),.int .i64 (n2 B 6),.int .i32 (n4 B 8),.int .i32 (n4 B 12),.int .i32 (n4 B 16),.int .i32 (n4 B 20),.int .i32 (jA (B 24) (B 25)),.int .i32 (jA (B 26) (B 27)),.int .i32 (jA (B 28) (B 29))]
theorem aje (B:Nat->Int):Tj (cxV [] gsh [(68,false),(69,false),(70,false)] [kH 32 0]) (MW amV) 3000 15 [kH 32 0] [.vw 1000000 0 32] (vb B 32) =
 some (true,[.v (afV B),.v (.int .i64 0)],[.test (.bin .gtr 5) [.int .u8 (B 1),.int .u8 15] (.bool false),.test (.bin .neq 5) [.int .u8 (B 0),.int .u8 1] (.bool false),Qj B false]):=by kernel_rfl
def St.rep (x:St) (fl:Int):Value:=.agg #[.int .i64 (fl + (bif jy x.q.a x.q.b x.q.c x.q.d then 8 else 0)),.int .i64 x.s,.int .i64 x.f,.int .i64 x.g,.int .i32 x.q.a.v,.int .i32 x.q.b.v,.int .i32 x.q.c.v,.int .i32 x.q.d.v,
 .int .i32 ((eY x.q.a x.q.b x.q.c x.q.d).a.v / 65536),.int .i32 ((eY x.q.a x.q.b x.q.c x.q.d).b.v / 65536),.int .i32 ((eY x.q.a x.q.b x.q.c x.q.d).c.v / 65536)]
theorem wr (b:Nat) (h:b < 256):IntKind.i64.wrap (b:Int) = b:=wrapN b (by omega)
theorem KT {n:Int} {b:Nat} (hn:0<=n/\n<=16777216) (hb:b < 256):h1 n b = 256 * n + b:=by
 unfold h1;rw [wr b hb,show IntKind.i64.wrap (256 * n) = 256 * n by rw [IntKind.wrap_i64]; omega,IntKind.wrap_i64];omega
theorem M_ {s:Int} (h:rZ s):h1 (IntKind.i64.wrap (aI s 256:Nat)) (aI s 1:Nat) = s:=by
 have l1:=g_ s 256;have l2:=g_ s 1;rw [wr _ l1,KT (by omega) l2];unfold rZ at h;unfold aI;omega
theorem GH (x:Wd):(kW (h1 (h1 (h1 (h1 0 (aI x.v 16777216:Nat)) (aI x.v 65536:Nat)) (aI x.v 256:Nat)) (aI x.v 1:Nat))).v = x.v:=by
 have l0:=g_ x.v 16777216;have l1:=g_ x.v 65536;have l2:=g_ x.v 256;have l3:=g_ x.v 1;have hx:=wdB x;rw [KT (n:=0) (by omega) l0,KT (n:=256 * 0 + ((aI x.v 16777216:Nat):Int)) (by omega) l1,KT (n:=256 * (256 * 0 + ((aI x.v 16777216:Nat):Int)) + ((aI x.v 65536:Nat):Int)) (by omega) l2,KT (by omega) l3]
 have e:256 * (256 * (256 * (256 * 0 + ((aI x.v 16777216:Nat):Int)) + ((aI x.v 65536:Nat):Int)) + ((aI x.v 256:Nat):Int)) + ((aI x.v 1:Nat):Int) = x.v % 4294967296:=by
  unfold aI;omega
 rw [e];show wrap32 (x.v % 4294967296) = x.v;unfold wrap32;omega
theorem zJ {y:Int} (h:-32768<=y/\y<=32767):jA (aI y 256:Nat) (aI y 1:Nat) = y:=by
 unfold jA aI;omega
theorem aoA {xs:List Nat} (h:xs.length = 32):vb (xI xs) 32 = bU xs/\front (xI xs) 32 = nI xs/\front (xI xs) 30 = nI (xs.take 30):=by
 match xs,h with
 | [x0,x1,x2,x3,x4,x5,x6,x7,x8,x9,x10,x11,x12,x13,x14,x15,x16,x17,x18,x19,x20,x21,x22,x23,x24,x25,x26,x27,x28,x29,x30,x31],_ => exact ⟨rfl,rfl,rfl⟩
theorem aoB {xs:List Nat} (h:xs.length = 32):aB (dY (vb (xI xs) 32)) (kH 32 0) = bU xs:=by
 match xs,h with
 | [x0,x1,x2,x3,x4,x5,x6,x7,x8,x9,x10,x11,x12,x13,x14,x15,x16,x17,x18,x19,x20,x21,x22,x23,x24,x25,x26,x27,x28,x29,x30,x31],_ => rfl
theorem ajf (x:St) (hr:x.right) {fl:Int} (h:0<=fl/\fl<=7):afV (xI (x.frame fl)) = x.rep fl:=by
 have hF:IntKind.i64.wrap (((fl + (bif jy x.q.a x.q.b x.q.c x.q.d then 8 else 0)).toNat:Nat):Int) = fl + (bif jy x.q.a x.q.b x.q.c x.q.d then 8 else 0):=by
  rw [IntKind.wrap_i64]
  cases jy x.q.a x.q.b x.q.c x.q.d <;> simp <;> omega
 have ha:∀ y:Wd,-32768<=y.v / 65536/\y.v / 65536<=32767:=fun y => by have:=wdB y; omega
 have e:afV (xI (x.frame fl)) = .agg #[.int .i64 (IntKind.i64.wrap (((fl + (bif jy x.q.a x.q.b x.q.c x.q.d then 8 else 0)).toNat:Nat):Int)),.int .i64 (h1 (IntKind.i64.wrap (aI x.s 256:Nat)) (aI x.s 1:Nat)),.int .i64 (h1 (IntKind.i64.wrap (aI x.f 256:Nat)) (aI x.f 1:Nat)),.int .i64 (h1 (IntKind.i64.wrap (aI x.g 256:Nat)) (aI x.g 1:Nat)),
  .int .i32 (kW (h1 (h1 (h1 (h1 0 (aI x.q.a.v 16777216:Nat)) (aI x.q.a.v 65536:Nat)) (aI x.q.a.v 256:Nat)) (aI x.q.a.v 1:Nat))).v,.int .i32 (kW (h1 (h1 (h1 (h1 0 (aI x.q.b.v 16777216:Nat)) (aI x.q.b.v 65536:Nat)) (aI x.q.b.v 256:Nat)) (aI x.q.b.v 1:Nat))).v,
  .int .i32 (kW (h1 (h1 (h1 (h1 0 (aI x.q.c.v 16777216:Nat)) (aI x.q.c.v 65536:Nat)) (aI x.q.c.v 256:Nat)) (aI x.q.c.v 1:Nat))).v,.int .i32 (kW (h1 (h1 (h1 (h1 0 (aI x.q.d.v 16777216:Nat)) (aI x.q.d.v 65536:Nat)) (aI x.q.d.v 256:Nat)) (aI x.q.d.v 1:Nat))).v,
  .int .i32 (jA (aI ((eY x.q.a x.q.b x.q.c x.q.d).a.v / 65536) 256:Nat) (aI ((eY x.q.a x.q.b x.q.c x.q.d).a.v / 65536) 1:Nat)),.int .i32 (jA (aI ((eY x.q.a x.q.b x.q.c x.q.d).b.v / 65536) 256:Nat) (aI ((eY x.q.a x.q.b x.q.c x.q.d).b.v / 65536) 1:Nat)),.int .i32 (jA (aI ((eY x.q.a x.q.b x.q.c x.q.d).c.v / 65536) 256:Nat) (aI ((eY x.q.a x.q.b x.q.c x.q.d).c.v / 65536) 1:Nat))]:=by kernel_rfl
 rw [e,hF,M_ hr.1,M_ hr.2.1,M_ hr.2.2,GH,GH,GH,GH,zJ (ha _),zJ (ha _),zJ (ha _)];rfl
theorem amW (x:St) (hr:x.right) {fl:Int} (h:0<=fl/\fl<=7) (v:Value) (w:World) (hw:jq w) (hv:Sl w v (bU (x.frame fl))) :
 Calls Tryz.prog 15 #[v] w fun e w' => e = .returned (.tuple #[x.rep fl,.int .i64 0])/\ah w w' []:=by
 have hl:=iT x fl;have hlt:=yO x h;obtain ⟨g1,g2,g3⟩:=aoA hl
 have hsum:BR Tryz.prog (Qj (xI (x.frame fl)) false):=by
  have h1:=amN 9 (BU (Qh (front (xI (x.frame fl)) 30))) (BU (front (xI (x.frame fl)) 32));have e3:=ai9 (l:=xw ((x.frame fl).take 30)) (m:=x.frame fl) (UA fun y hy => hlt y (List.mem_of_mem_take hy)) hlt;have e4:xw ((x.frame fl).take 30) = x.frame fl:=rfl;rw [e4,decide_eq_true rfl] at e3;rw [g3,g2,OC,e4,e3] at h1;unfold Qj;rw [g3,g2,OC,e4];exact h1
 have t0:xI (x.frame fl) 0 = 1:=rfl;have t1:xI (x.frame fl) 1 = (((fl + (bif jy x.q.a x.q.b x.q.c x.q.d then 8 else 0)).toNat:Nat):Int):=rfl
 have afW:∀ ob∈([.test (.bin .gtr 5) [.int .u8 (xI (x.frame fl) 1),.int .u8 15] (.bool false),.test (.bin .neq 5) [.int .u8 (xI (x.frame fl) 0),.int .u8 1] (.bool false),Qj (xI (x.frame fl)) false]:List Ob),o9 Tryz.prog jq ob:=by
  refine KL (obK ?_) (KL (obK ?_) (KL (obK hsum) ag7))
  . have:=aow 5 .u8 (xI (x.frame fl) 1) 15
    rw [show decide (15 < xI (x.frame fl) 1) = false by rw [t1]; cases jy x.q.a x.q.b x.q.c x.q.d <;> simp <;> omega] at this;exact this
  . have:=ZV 5 .u8 (xI (x.frame fl) 0) 1
    rw [show (xI (x.frame fl) 0 != 1) = false by rw [t0]; rfl] at this;exact this
 have hone:∀ u∈([v]:List Value),u.oneCell' = true:=fun u hu => by
  simp at hu;subst hu;obtain ⟨A,c,rfl,_⟩:=hv;rfl
 have Z9:aB (E0 (ρS (vb (xI (x.frame fl)) 32) [v])) [.vw 1000000 0 32] = [v]:=by
  obtain ⟨A,c,rfl,hc,hA⟩:=hv;obtain ⟨b,o,rfl,_⟩:=hA (by rw [fV]; omega);have e:aB (E0 (ρS (vb (xI (x.frame fl)) 32) [.slice (some ⟨b,o,none⟩) (bU (x.frame fl)).length c])) [.vw 1000000 0 32] = [.slice (some ⟨b,o + 0,none⟩) 32 (c - 0)]:=rfl;rw [e,fV,hl];rfl
 refine (Hr amV (aje (xI (x.frame fl))) (by rw [g1]; exact UC hlt) afW w hw [v] (fun i cs hi => ?_) hone Z9).mono ?_
 . cases i with
   | succ i => simp at hi
   | zero =>
    simp at hi;subst hi;exact ⟨v,rfl,by rw [aoB hl]; exact hv⟩
 . rintro e w' ⟨⟨us,ha,rfl⟩,hc⟩
   match us,ha with
   | [y,z],ha =>
    obtain ⟨rfl,rfl,_⟩:=ha;rw [ajf x hr h];exact ⟨rfl,hc⟩
end Xi

namespace Xi
open Go Go.RowKit Go.Deep
attribute [local go_sem] Oper.semAt_some
theorem or8 (h l:Nat) (hl:l < 256):256 * h ||| l = 256 * h + l:=by
 rw [show 256 * h = 2 ^ 8 * h by omega,Nat.two_pow_add_eq_or_of_lt (i:=8) (by omega) h]
theorem aqt (h l:Nat) (hh:h < 256) (hl:l < 256):bits .or .i64 ((256 * h:Nat):Int) (l:Int) = ((256 * h + l:Nat):Int):=by
 show IntKind.i64.wrap (((BitVec.ofInt 64 ((256 * h:Nat):Int)) ||| (BitVec.ofInt 64 (l:Int))).toNat:Int) = _;rw [BitVec.ofInt_natCast,BitVec.ofInt_natCast,BitVec.toNat_or,BitVec.toNat_ofNat,BitVec.toNat_ofNat,Nat.mod_eq_of_lt (by omega:256 * h < 2 ^ 64),Nat.mod_eq_of_lt (by omega:l < 2 ^ 64),or8 h l hl,IntKind.wrap_i64];omega
theorem aqu (h l:Nat) (hh:h < 256) (hl:l < 256):bits .or .u16 ((256 * h:Nat):Int) (l:Int) = ((256 * h + l:Nat):Int):=by
 show IntKind.u16.wrap (((BitVec.ofInt 16 ((256 * h:Nat):Int)) ||| (BitVec.ofInt 16 (l:Int))).toNat:Int) = _;rw [BitVec.ofInt_natCast,BitVec.ofInt_natCast,BitVec.toNat_or,BitVec.toNat_ofNat,BitVec.toNat_ofNat,Nat.mod_eq_of_lt (by omega:256 * h < 2 ^ 16),Nat.mod_eq_of_lt (by omega:l < 2 ^ 16),or8 h l hl,IntKind.wrap_u16];omega
theorem amY (h l:Nat) (hh:h < 16777216) (hl:l < 256):bits .or .u32 ((256 * h:Nat):Int) (l:Int) = ((256 * h + l:Nat):Int):=by
 show IntKind.u32.wrap (((BitVec.ofInt 32 ((256 * h:Nat):Int)) ||| (BitVec.ofInt 32 (l:Int))).toNat:Int) = _;rw [BitVec.ofInt_natCast,BitVec.ofInt_natCast,BitVec.toNat_or,BitVec.toNat_ofNat,BitVec.toNat_ofNat,Nat.mod_eq_of_lt (by omega:256 * h < 2 ^ 32),Nat.mod_eq_of_lt (by omega:l < 2 ^ 32),or8 h l hl,IntKind.wrap_u32];omega
def j64 (a b:Int):Int:=bits .or .i64 (IntKind.i64.wrap (IntKind.i64.wrap a * 2 ^ 8)) (IntKind.i64.wrap b)
def j32 (a b:Int):Int:=bits .or .u32 (IntKind.u32.wrap (a * 2 ^ 8)) (IntKind.u32.wrap b)
def f32 (a b c d:Int):Int:=IntKind.i32.wrap (j32 (j32 (j32 (bits .or .u32 0 (IntKind.u32.wrap a)) b) c) d)
def p16 (a b:Int):Int:=IntKind.i32.wrap (IntKind.i16.wrap (bits .or .u16 (IntKind.u16.wrap (IntKind.u16.wrap a * 2 ^ 8)) (IntKind.u16.wrap b)))
theorem amZ {a b:Nat} (ha:a < 256) (hb:b < 256):j64 (a:Int) (b:Int) = ((256 * a + b:Nat):Int):=by
 unfold j64;rw [show IntKind.i64.wrap (IntKind.i64.wrap (a:Int) * 2 ^ 8) = ((256 * a:Nat):Int) by rw [IntKind.wrap_i64,IntKind.wrap_i64]; omega,wr b hb,aqt a b ha hb]
theorem UN {a b:Nat} (ha:a < 16777216) (hb:b < 256):j32 (a:Int) (b:Int) = ((256 * a + b:Nat):Int):=by
 unfold j32;rw [show IntKind.u32.wrap ((a:Int) * 2 ^ 8) = ((256 * a:Nat):Int) by rw [IntKind.wrap_u32]; omega,show IntKind.u32.wrap (b:Int) = (b:Int) by rw [IntKind.wrap_u32]; omega,amY a b ha hb]
theorem am0 {a b c d:Nat} (ha:a < 256) (hb:b < 256) (hc:c < 256) (hd:d < 256):f32 (a:Int) (b:Int) (c:Int) (d:Int) = IntKind.i32.wrap ((256 * (256 * (256 * a + b) + c) + d:Nat):Int):=by
 unfold f32
 have h0:bits .or .u32 0 (IntKind.u32.wrap (a:Int)) = (a:Int):=by
  rw [show IntKind.u32.wrap (a:Int) = (a:Int) by rw [IntKind.wrap_u32]; omega];have:=amY 0 a (by decide) ha
  simpa using this
 rw [h0,UN (by omega) hb,UN (by omega) hc,UN (by omega) hd]
theorem am1 {a b:Nat} (ha:a < 256) (hb:b < 256):p16 (a:Int) (b:Int) = jA (a:Int) (b:Int):=by
 unfold p16;rw [show IntKind.u16.wrap (IntKind.u16.wrap (a:Int) * 2 ^ 8) = ((256 * a:Nat):Int) by rw [IntKind.wrap_u16,IntKind.wrap_u16]; omega,show IntKind.u16.wrap (b:Int) = (b:Int) by rw [IntKind.wrap_u16]; omega,aqu a b ha hb,show ∀ n:Int,IntKind.i16.wrap n = (n + 32768) % 65536 - 32768 from fun n => by simp [IntKind.wrap,IntKind.bits,IntKind.signed]; omega,IntKind.wrap_i32];unfold jA;omega
def Z_ (B:Nat->Int):Value:=.agg #[.int .i64 (IntKind.i64.wrap (B 1)),.int .i64 (j64 (B 2) (B 3)),.int .i64 (j64 (B 4) (B 5)),.int .i64 (j64 (B 6) (B 7)),.int .i32 (f32 (B 8) (B 9) (B 10) (B 11)),.int .i32 (f32 (B 12) (B 13) (B 14) (B 15)),.int .i32 (f32 (B 16) (B 17) (B 18) (B 19)),.int .i32 (f32 (B 20) (B 21) (B 22) (B 23)),.int .i32 (p16 (B 24) (B 25)),.int .i32 (p16 (B 26) (B 27)),.int .i32 (p16 (B 28) (B 29))]
theorem afX (B:Nat->Int):Tj (cxV [] [] [(31,false),(33,false)] [kH 30 0]) (MW (K:=jq) []) 3000 55 [kH 30 0] [.vw 1000000 0 30] (vb B 30) =
 some (true,[.v (Z_ B),.v .nilIface],[.test (.bin .neq 3) [.int .i64 (bits .andNot .i64 (IntKind.i64.wrap (B 1)) 15),.int .i64 0] (.bool false),.test (.bin .neq 5) [.int .u8 (B 0),.int .u8 1] (.bool false)]):=by kernel_rfl
theorem aoC {xs:List Nat} (h:xs.length = 30):vb (xI xs) 30 = bU xs/\aB (dY (vb (xI xs) 30)) (kH 30 0) = bU xs:=by
 match xs,h with
 | [x0,x1,x2,x3,x4,x5,x6,x7,x8,x9,x10,x11,x12,x13,x14,x15,x16,x17,x18,x19,x20,x21,x22,x23,x24,x25,x26,x27,x28,x29],_ => exact ⟨rfl,rfl⟩
theorem GI (x:Wd):f32 (aI x.v 16777216:Nat) (aI x.v 65536:Nat) (aI x.v 256:Nat) (aI x.v 1:Nat) = x.v:=by
 rw [am0 (g_ _ _) (g_ _ _) (g_ _ _) (g_ _ _),IntKind.wrap_i32];have hx:=wdB x;unfold aI;omega
theorem Na {s:Int} (h:rZ s):j64 (aI s 256:Nat) (aI s 1:Nat) = s:=by
 rw [amZ (g_ _ _) (g_ _ _)];unfold rZ at h;unfold aI;omega
theorem Nb {y:Int} (h:-32768<=y/\y<=32767):p16 (aI y 256:Nat) (aI y 1:Nat) = y:=by
 rw [am1 (g_ _ _) (g_ _ _),zJ h]
theorem afY (x:St) (hr:x.right) {fl:Int} (h:0<=fl/\fl<=7):Z_ (xI ((x.frame fl).take 30)) = x.rep fl:=by
 have hF:IntKind.i64.wrap (((fl + (bif jy x.q.a x.q.b x.q.c x.q.d then 8 else 0)).toNat:Nat):Int) = fl + (bif jy x.q.a x.q.b x.q.c x.q.d then 8 else 0):=by
  rw [IntKind.wrap_i64]
  cases jy x.q.a x.q.b x.q.c x.q.d <;> simp <;> omega
 have ha:∀ y:Wd,-32768<=y.v / 65536/\y.v / 65536<=32767:=fun y => by have:=wdB y; omega
 have e:Z_ (xI ((x.frame fl).take 30)) = .agg #[.int .i64 (IntKind.i64.wrap (((fl + (bif jy x.q.a x.q.b x.q.c x.q.d then 8 else 0)).toNat:Nat):Int)),.int .i64 (j64 (aI x.s 256:Nat) (aI x.s 1:Nat)),.int .i64 (j64 (aI x.f 256:Nat) (aI x.f 1:Nat)),.int .i64 (j64 (aI x.g 256:Nat) (aI x.g 1:Nat)),
  .int .i32 (f32 (aI x.q.a.v 16777216:Nat) (aI x.q.a.v 65536:Nat) (aI x.q.a.v 256:Nat) (aI x.q.a.v 1:Nat)),.int .i32 (f32 (aI x.q.b.v 16777216:Nat) (aI x.q.b.v 65536:Nat) (aI x.q.b.v 256:Nat) (aI x.q.b.v 1:Nat)),
  .int .i32 (f32 (aI x.q.c.v 16777216:Nat) (aI x.q.c.v 65536:Nat) (aI x.q.c.v 256:Nat) (aI x.q.c.v 1:Nat)),.int .i32 (f32 (aI x.q.d.v 16777216:Nat) (aI x.q.d.v 65536:Nat) (aI x.q.d.v 256:Nat) (aI x.q.d.v 1:Nat)),
  .int .i32 (p16 (aI ((eY x.q.a x.q.b x.q.c x.q.d).a.v / 65536) 256:Nat) (aI ((eY x.q.a x.q.b x.q.c x.q.d).a.v / 65536) 1:Nat)),.int .i32 (p16 (aI ((eY x.q.a x.q.b x.q.c x.q.d).b.v / 65536) 256:Nat) (aI ((eY x.q.a x.q.b x.q.c x.q.d).b.v / 65536) 1:Nat)),.int .i32 (p16 (aI ((eY x.q.a x.q.b x.q.c x.q.d).c.v / 65536) 256:Nat) (aI ((eY x.q.a x.q.b x.q.c x.q.d).c.v / 65536) 1:Nat))]:=by kernel_rfl
 rw [e,hF,Na hr.1,Na hr.2.1,Na hr.2.2,GI,GI,GI,GI,Nb (ha _),Nb (ha _),Nb (ha _)];rfl
theorem aac (x:St) (hr:x.right) {fl:Int} (h:0<=fl/\fl<=7) (v:Value) (w:World) (hw:jq w) (hv:Sl w v (bU ((x.frame fl).take 30))) :
 Calls Tryz.prog 55 #[v] w fun e w' => e = .returned (.tuple #[x.rep fl,.nilIface])/\ah w w' []:=by
 have hl:((x.frame fl).take 30).length = 30:=by rw [List.length_take,iT]; rfl
 have hlt:∀ y∈(x.frame fl).take 30,y < 256:=fun y hy => yO x h y (List.mem_of_mem_take hy);obtain ⟨g1,g2⟩:=aoC hl;have t0:xI ((x.frame fl).take 30) 0 = 1:=rfl;have t1:xI ((x.frame fl).take 30) 1 = (((fl + (bif jy x.q.a x.q.b x.q.c x.q.d then 8 else 0)).toNat:Nat):Int):=rfl
 have aoD:(bits .andNot .i64 (IntKind.i64.wrap (xI ((x.frame fl).take 30) 1)) 15 != 0) = false:=by
  have hall:∀ n:Nat,n < 16->(bits .andNot .i64 (IntKind.i64.wrap (n:Int)) 15 != 0) = false:=by decide
  rw [t1];exact hall _ (by cases jy x.q.a x.q.b x.q.c x.q.d <;> simp <;> omega)
 have afW:∀ ob∈([.test (.bin .neq 3) [.int .i64 (bits .andNot .i64 (IntKind.i64.wrap (xI ((x.frame fl).take 30) 1)) 15),.int .i64 0] (.bool false),.test (.bin .neq 5) [.int .u8 (xI ((x.frame fl).take 30) 0),.int .u8 1] (.bool false)]:List Ob),o9 Tryz.prog jq ob:=by
  refine KL (obK ?_) (KL (obK ?_) ag7)
  . have:=ZV 3 .i64 (bits .andNot .i64 (IntKind.i64.wrap (xI ((x.frame fl).take 30) 1)) 15) 0
    rw [aoD] at this;exact this
  . have:=ZV 5 .u8 (xI ((x.frame fl).take 30) 0) 1
    rw [show (xI ((x.frame fl).take 30) 0 != 1) = false by rw [t0]; rfl] at this;exact this
 have hone:∀ u∈([v]:List Value),u.oneCell' = true:=fun u hu => by
  simp at hu;subst hu;obtain ⟨A,c,rfl,_⟩:=hv;rfl
 have Z9:aB (E0 (ρS (vb (xI ((x.frame fl).take 30)) 30) [v])) [.vw 1000000 0 30] = [v]:=by
  obtain ⟨A,c,rfl,hc,hA⟩:=hv;obtain ⟨b,o,rfl,_⟩:=hA (by rw [fV]; omega);have e:aB (E0 (ρS (vb (xI ((x.frame fl).take 30)) 30) [.slice (some ⟨b,o,none⟩) (bU ((x.frame fl).take 30)).length c])) [.vw 1000000 0 30] = [.slice (some ⟨b,o + 0,none⟩) 30 (c - 0)]:=rfl;rw [e,fV,hl];rfl
 refine (Hr [] (afX (xI ((x.frame fl).take 30))) (by rw [g1]; exact UC hlt) afW w hw [v] (fun i cs hi => ?_) hone Z9).mono ?_
 . cases i with
   | succ i => simp at hi
   | zero =>
    simp at hi;subst hi;exact ⟨v,rfl,by rw [g2]; exact hv⟩
 . rintro e w' ⟨⟨us,ha,rfl⟩,hc⟩
   match us,ha with
   | [y,z],ha =>
    obtain ⟨rfl,rfl,_⟩:=ha;rw [afY x hr h];exact ⟨rfl,hc⟩
theorem aad (w:World):Calls Tryz.prog 56 #[.nilIface] w fun e w' => e = .returned (.int .i64 0)/\w = w':=by
 go_enter Tryz.func56,Tryz.ntmps56
 go_wp2;go_ret;exact ⟨rfl,rfl⟩
theorem afZ (x:St) (fl:Int):rX (x.frame fl) 30 = true:=by
 have e:rX (x.frame fl) 30 = (bP 65535 ((x.frame fl).take 30) / 256 == bP 65535 ((x.frame fl).take 30) / 256 && bP 65535 ((x.frame fl).take 30) % 256 == bP 65535 ((x.frame fl).take 30) % 256):=rfl;rw [e];simp
theorem KU {fn:Func} {c t:Tmp} {T:TypeId} (h:fn.results = #[.cell c T,.tmp t]) (tmps:Array Value) (P:Program) (w:World) {A:Addr} {v:Value} (ha:tmps.getD c undef = .pointer (some A)) (hl:(loadVar T A).run P w = .ok v w) :
 (results fn tmps).run P w = .ok (.tuple #[v,tmps.getD t undef]) w:=by
 have e:results fn tmps = (do let vs <- fn.results.mapM (Xi.LJ tmps); pure (if h:vs.size = 1 then vs[0] else .tuple vs)):=rfl;rw [e,h,Array.mapM_eq_mapM_toList];simp [Xi.LJ,ha,asAddr,hl]
set_option maxHeartbeats 2000000 in
theorem aae (x:St) (hr:x.right) {fl:Int} (h:0<=fl/\fl<=7) (v:Value) (w:World) (hw:∀ w',ah w w' []->jq w') (hv:Sl w v (bU (x.frame fl))) :
 Calls Tryz.prog 24 #[v] w fun e w' => e = .returned (.tuple #[x.rep fl,.int .i64 0])/\ah w w' []:=by
 obtain ⟨A,m,rfl,hc,hA⟩:=id hv;obtain ⟨g,off,rfl,_⟩:=hA (by rw [fV,iT]; decide);rw [show (bU (x.frame fl)).length = 32 by rw [fV,iT]] at hv ⊢
 have HO:=hide (show ∀ w1,ah w w1 []->Calls Tryz.prog 54 #[.slice (some ⟨g,off,none⟩) 32 m] w1 fun e w' => ah w1 w' []/\∃ y,e = .returned (.tuple #[y,.int .i64 0])/\Sl w' y (bU ((x.frame fl).take 30)) from fun w1 h1 => by
  have:=Pj (x.frame fl) 30 g off m w1 (iT x fl) (yO x h) (hv.keep h1) (by decide) (hw w1 h1);rw [afZ] at this
  exact this)
 have HRD:=hide (show ∀ w1 y,ah w w1 []->Sl w1 y (bU ((x.frame fl).take 30))->Calls Tryz.prog 55 #[y] w1 fun e w' => e = .returned (.tuple #[x.rep fl,.nilIface])/\ah w1 w' [] from fun w1 y h1 h2 => aac x hr h y w1 (hw w1 h1) h2);have b0:=aA.new w 48 [.int .i64 0,.int .i64 0,.int .i64 0,.int .i64 0,.int .i32 0,.int .i32 0,.int .i32 0,.int .i32 0,.int .i32 0,.int .i32 0,.int .i32 0];have hcA:=(ah.refl w []).alloc (.cells #[.int .i64 0,.int .i64 0,.int .i64 0,.int .i64 0,.int .i32 0,.int .i32 0,.int .i32 0,.int .i32 0,.int .i32 0,.int .i32 0,.int .i32 0] 48);have hn:=aad;have aqv:(bU ((x.frame fl).take 30)).length = 30:=by rw [fV,List.length_take,iT]; rfl
 obtain ⟨r0,r1,r2,r3,r4,r5,r6,r7,r8,r9,r10,hrep⟩:∃ r0 r1 r2 r3 r4 r5 r6 r7 r8 r9 r10:Int,x.rep fl = .agg #[.int .i64 r0,.int .i64 r1,.int .i64 r2,.int .i64 r3,.int .i32 r4,.int .i32 r5,.int .i32 r6,.int .i32 r7,.int .i32 r8,.int .i32 r9,.int .i32 r10]:=⟨_,_,_,_,_,_,_,_,_,_,_,rfl⟩
 rw [hrep] at HRD ⊢;clear hc hA hv hw hrep;generalize bU ((x.frame fl).take 30) = bs at *;go_enter Tryz.func24,Tryz.ntmps24
 go_wp2_with fail
 go_at_call 54;refine (HO.out _ hcA).mono ?_;rintro e w1 ⟨hc1,y,rfl,hy⟩;have hrd:=HRD.out w1 y (hcA.trans hc1 (by simp)) hy;obtain ⟨Ay,cy,rfl,_⟩:=id hy;rw [aqv] at hrd ⊢;have hcB:=hcA.trans hc1 (D:=[]) (by simp);replace b0:=b0.aj hc1 (by simp);have HR:=hide hrd;clear hc1 hy hrd HO HRD hcA;go_wp2_with fail
 go_at_call 55;refine HR.out.mono ?_;rintro e w2 ⟨rfl,hc2⟩;replace hcB:=hcB.trans hc2 (D:=[]) (by simp);replace b0:=b0.aj hc2 (by simp);have b1:=aA.new w2 48 [.int .i64 r0,.int .i64 r1,.int .i64 r2,.int .i64 r3,.int .i32 r4,.int .i32 r5,.int .i32 r6,.int .i32 r7,.int .i32 r8,.int .i32 r9,.int .i32 r10];have hl0:=b0.lt;clear HR hc2;go_wp2_with fail
 go_at_call 56;refine (hn _).mono ?_;rintro e w3 ⟨rfl,hw3⟩
 have hb1:aA w3 w2.heap.size 48 [.int .i64 r0,.int .i64 r1,.int .i64 r2,.int .i64 r3,.int .i32 r4,.int .i32 r5,.int .i32 r6,.int .i32 r7,.int .i32 r8,.int .i32 r9,.int .i32 r10]:=by
  rw [<- hw3];exact b1
 have hb0:aA w3 w.heap.size 48 [.int .i64 0,.int .i64 0,.int .i64 0,.int .i64 0,.int .i32 0,.int .i32 0,.int .i32 0,.int .i32 0,.int .i32 0,.int .i32 0,.int .i32 0]:=by
  rw [<- hw3];exact b0.alloc _
 have hcC:ah w w3 []:=by
  rw [<- hw3];exact hcB.alloc _
 clear hcB b0 b1 hl0 hw3 hn;have f0:=hb0.frozen 0;have y0:=hb0.cell' (i:=0) rfl;have z0:=hb1.cell' (i:=0) rfl;have f1:=hb0.frozen 1;have y1:=hb0.cell' (i:=1) rfl;have z1:=hb1.cell' (i:=1) rfl;have f2:=hb0.frozen 2;have y2:=hb0.cell' (i:=2) rfl;have z2:=hb1.cell' (i:=2) rfl;have f3:=hb0.frozen 3;have y3:=hb0.cell' (i:=3) rfl;have z3:=hb1.cell' (i:=3) rfl;have f4:=hb0.frozen 4;have y4:=hb0.cell' (i:=4) rfl;have z4:=hb1.cell' (i:=4) rfl;have f5:=hb0.frozen 5;have y5:=hb0.cell' (i:=5) rfl;have z5:=hb1.cell' (i:=5) rfl;have f6:=hb0.frozen 6;have y6:=hb0.cell' (i:=6) rfl;have z6:=hb1.cell' (i:=6) rfl;have f7:=hb0.frozen 7;have y7:=hb0.cell' (i:=7) rfl;have z7:=hb1.cell' (i:=7) rfl;have f8:=hb0.frozen 8;have y8:=hb0.cell' (i:=8) rfl;have z8:=hb1.cell' (i:=8) rfl;have f9:=hb0.frozen 9;have y9:=hb0.cell' (i:=9) rfl;have z9:=hb1.cell' (i:=9) rfl;have f10:=hb0.frozen 10;have y10:=hb0.cell' (i:=10) rfl;have z10:=hb1.cell' (i:=10) rfl;have hbf:=(((((((((((hb0.aK 0 (.int .i64 r0)).aK 1 (.int .i64 r1)).aK 2 (.int .i64 r2)).aK 3 (.int .i64 r3)).aK 4 (.int .i32 r4)).aK 5 (.int .i32 r5)).aK 6 (.int .i32 r6)).aK 7 (.int .i32 r7)).aK 8 (.int .i32 r8)).aK 9 (.int .i32 r9)).aK 10 (.int .i32 r10))
 have DF:=(show ah _ _ [w.heap.size] from ((((((((((((ah.refl w3 [w.heap.size]).setCell ⟨w.heap.size,0,none⟩ (.int .i64 r0) (.inl (List.mem_singleton.2 rfl))).setCell ⟨w.heap.size,1,none⟩ (.int .i64 r1) (.inl (List.mem_singleton.2 rfl))).setCell ⟨w.heap.size,2,none⟩ (.int .i64 r2) (.inl (List.mem_singleton.2 rfl))).setCell ⟨w.heap.size,3,none⟩ (.int .i64 r3) (.inl (List.mem_singleton.2 rfl))).setCell ⟨w.heap.size,4,none⟩ (.int .i32 r4) (.inl (List.mem_singleton.2 rfl))).setCell ⟨w.heap.size,5,none⟩ (.int .i32 r5) (.inl (List.mem_singleton.2 rfl))).setCell ⟨w.heap.size,6,none⟩ (.int .i32 r6) (.inl (List.mem_singleton.2 rfl))).setCell ⟨w.heap.size,7,none⟩ (.int .i32 r7) (.inl (List.mem_singleton.2 rfl))).setCell ⟨w.heap.size,8,none⟩ (.int .i32 r8) (.inl (List.mem_singleton.2 rfl))).setCell ⟨w.heap.size,9,none⟩ (.int .i32 r9) (.inl (List.mem_singleton.2 rfl))).setCell ⟨w.heap.size,10,none⟩ (.int .i32 r10) (.inl (List.mem_singleton.2 rfl))))
 have q0:=hbf.cell' (i:=0) rfl;have q1:=hbf.cell' (i:=1) rfl;have q2:=hbf.cell' (i:=2) rfl;have q3:=hbf.cell' (i:=3) rfl;have q4:=hbf.cell' (i:=4) rfl;have q5:=hbf.cell' (i:=5) rfl;have q6:=hbf.cell' (i:=6) rfl;have q7:=hbf.cell' (i:=7) rfl;have q8:=hbf.cell' (i:=8) rfl;have q9:=hbf.cell' (i:=9) rfl;have q10:=hbf.cell' (i:=10) rfl;go_wp2;refine bodyPost_ret (KU rfl _ _ _ (A:=⟨w.heap.size,0,none⟩) rfl (v:=.agg #[.int .i64 r0,.int .i64 r1,.int .i64 r2,.int .i64 r3,.int .i32 r4,.int .i32 r5,.int .i32 r6,.int .i32 r7,.int .i32 r8,.int .i32 r9,.int .i32 r10]) ?_) rfl ?_
 . clear f0 y0 z0 f1 y1 z1 f2 y2 z2 f3 y3 z3 f4 y4 z4 f5 y5 z5 f6 y6 z6 f7 y7 z7 f8 y8 z8 f9 y9 z9 f10 y10 z10
   go_simp
 . exact ⟨rfl,hcC.trans DF (fun k hk => .inr (by simp at hk; omega))⟩
end Xi
end Go.Proofs.YtnkmmaijigihpaaGreatDoor
