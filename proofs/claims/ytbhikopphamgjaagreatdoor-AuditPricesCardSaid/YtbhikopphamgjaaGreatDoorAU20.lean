/- Texts of this claim, side by side: ModelL, ModelV, ModelM, ModelN, FrGet. -/
import Derived.Test.YtbhikopphamgjaaGreatDoorAU19
import Derived.Deep.Cut
set_option linter.unusedVariables false
set_option linter.unusedSimpArgs false
namespace Go.Proofs.YtbhikopphamgjaaGreatDoor
section
open Go.RowKit Go.Deep Xi
def ql (n:Nat):Int:=if n < 20 then 4 else 5
end

namespace Xi
open Go Go.RowKit Go.Deep
theorem jr (x:St) (fl:Int):(x.frame fl).length = 32:=rfl
theorem aiy (a b c d:Wd) (s f g:Int) {fl:Int} (h:0<=fl/\fl<=7):∀ y∈Qc a b c d s f g fl,y < 256:=fun y hy => by
 have h1:(fl + (bif pO a b c d then 8 else 0)).toNat < 256:=by cases pO a b c d <;> simp <;> omega
 simp only [Qc,b2,b4,List.cons_append,List.nil_append,List.mem_cons,List.not_mem_nil,or_false] at hy;rcases hy with rfl | rfl | hy
 . decide
 . exact h1
 . rcases hy with rfl | rfl | rfl | rfl | rfl | rfl | rfl | rfl | rfl | rfl | rfl | rfl | rfl | rfl | rfl | rfl | rfl | rfl | rfl | rfl | rfl | rfl | rfl | rfl | rfl | rfl | rfl | rfl <;> exact mZ _ _
theorem Dx (x:St) {fl:Int} (h:0<=fl/\fl<=7):∀ y∈x.frame fl,y < 256:=afA (aiy _ _ _ _ _ _ _ h)
def St.cells (x:St):List Value:=[.int .i32 x.q.a.v,.int .i32 x.q.b.v,.int .i32 x.q.c.v,.int .i32 x.q.d.v,.int .i64 x.s,.int .i64 x.f,.int .i64 x.g]
end Xi
section
open Go.RowKit Go.Deep Xi
def q1:Q4:=⟨kW 1073741824,kW 0,kW 0,kW 0⟩
def st0:St:=⟨q1,0,0,0⟩
def z20:List Nat:=List.replicate 20 0
theorem Nr:st0.val = .agg #[.int .i32 1073741824,.int .i32 0,.int .i32 0,.int .i32 0,.int .i64 0,.int .i64 0,.int .i64 0]:=by
 unfold St.val st0 stV q1;rw [show (kW 1073741824).v = 1073741824 by decide +kernel,show (kW 0).v = 0 by decide +kernel]
theorem OE:st0.right:=by unfold St.right st0 vS; simp
end

namespace Xi
open Go Go.RowKit Go.Deep
def h1 (n b:Int):Int:=IntKind.i64.wrap (IntKind.i64.wrap (256 * n) + IntKind.i64.wrap b)
def n2 (B:Nat->Int) (k:Nat):Int:=h1 (IntKind.i64.wrap (B k)) (B (k + 1))
def n4 (B:Nat->Int) (k:Nat):Int:=(kW (h1 (h1 (h1 (h1 0 (B k)) (B (k + 1))) (B (k + 2))) (B (k + 3)))).v
def St.rep (x:St) (fl:Int):Value:=.agg #[.int .i64 (fl + (bif pO x.q.a x.q.b x.q.c x.q.d then 8 else 0)),.int .i64 x.s,.int .i64 x.f,.int .i64 x.g,.int .i32 x.q.a.v,.int .i32 x.q.b.v,.int .i32 x.q.c.v,.int .i32 x.q.d.v,
 .int .i32 ((iM x.q.a x.q.b x.q.c x.q.d).a.v / 65536),.int .i32 ((iM x.q.a x.q.b x.q.c x.q.d).b.v / 65536),.int .i32 ((iM x.q.a x.q.b x.q.c x.q.d).c.v / 65536)]
theorem wr (b:Nat) (h:b < 256):IntKind.i64.wrap (b:Int) = b:=wrapN b (by omega)
theorem acX {y:Int} (h:-32768<=y/\y<=32767):Lm (aZ y 256:Nat) (aZ y 1:Nat) = y:=by
 unfold Lm aZ;omega
end Xi

namespace Xi
open Go Go.RowKit Go.Deep
attribute [local go_sem] Oper.semAt_some
theorem or8 (h l:Nat) (hl:l < 256):256 * h ||| l = 256 * h + l:=by
 rw [show 256 * h = 2 ^ 8 * h by omega,Nat.two_pow_add_eq_or_of_lt (i:=8) (by omega) h]
theorem apH (h l:Nat) (hh:h < 256) (hl:l < 256):bits .or .i64 ((256 * h:Nat):Int) (l:Int) = ((256 * h + l:Nat):Int):=by
 show IntKind.i64.wrap (((BitVec.ofInt 64 ((256 * h:Nat):Int)) ||| (BitVec.ofInt 64 (l:Int))).toNat:Int) = _;rw [BitVec.ofInt_natCast,BitVec.ofInt_natCast,BitVec.toNat_or,BitVec.toNat_ofNat,BitVec.toNat_ofNat,Nat.mod_eq_of_lt (by omega:256 * h < 2 ^ 64),Nat.mod_eq_of_lt (by omega:l < 2 ^ 64),or8 h l hl,IntKind.wrap_i64];omega
theorem apI (h l:Nat) (hh:h < 256) (hl:l < 256):bits .or .u16 ((256 * h:Nat):Int) (l:Int) = ((256 * h + l:Nat):Int):=by
 show IntKind.u16.wrap (((BitVec.ofInt 16 ((256 * h:Nat):Int)) ||| (BitVec.ofInt 16 (l:Int))).toNat:Int) = _;rw [BitVec.ofInt_natCast,BitVec.ofInt_natCast,BitVec.toNat_or,BitVec.toNat_ofNat,BitVec.toNat_ofNat,Nat.mod_eq_of_lt (by omega:256 * h < 2 ^ 16),Nat.mod_eq_of_lt (by omega:l < 2 ^ 16),or8 h l hl,IntKind.wrap_u16];omega
theorem amb (h l:Nat) (hh:h < 16777216) (hl:l < 256):bits .or .u32 ((256 * h:Nat):Int) (l:Int) = ((256 * h + l:Nat):Int):=by
 show IntKind.u32.wrap (((BitVec.ofInt 32 ((256 * h:Nat):Int)) ||| (BitVec.ofInt 32 (l:Int))).toNat:Int) = _;rw [BitVec.ofInt_natCast,BitVec.ofInt_natCast,BitVec.toNat_or,BitVec.toNat_ofNat,BitVec.toNat_ofNat,Nat.mod_eq_of_lt (by omega:256 * h < 2 ^ 32),Nat.mod_eq_of_lt (by omega:l < 2 ^ 32),or8 h l hl,IntKind.wrap_u32];omega
def j64 (a b:Int):Int:=bits .or .i64 (IntKind.i64.wrap (IntKind.i64.wrap a * 2 ^ 8)) (IntKind.i64.wrap b)
def j32 (a b:Int):Int:=bits .or .u32 (IntKind.u32.wrap (a * 2 ^ 8)) (IntKind.u32.wrap b)
def f32 (a b c d:Int):Int:=IntKind.i32.wrap (j32 (j32 (j32 (bits .or .u32 0 (IntKind.u32.wrap a)) b) c) d)
def p16 (a b:Int):Int:=IntKind.i32.wrap (IntKind.i16.wrap (bits .or .u16 (IntKind.u16.wrap (IntKind.u16.wrap a * 2 ^ 8)) (IntKind.u16.wrap b)))
theorem amc {a b:Nat} (ha:a < 256) (hb:b < 256):j64 (a:Int) (b:Int) = ((256 * a + b:Nat):Int):=by
 unfold j64;rw [show IntKind.i64.wrap (IntKind.i64.wrap (a:Int) * 2 ^ 8) = ((256 * a:Nat):Int) by rw [IntKind.wrap_i64,IntKind.wrap_i64]; omega,wr b hb,apH a b ha hb]
theorem Ux {a b:Nat} (ha:a < 16777216) (hb:b < 256):j32 (a:Int) (b:Int) = ((256 * a + b:Nat):Int):=by
 unfold j32;rw [show IntKind.u32.wrap ((a:Int) * 2 ^ 8) = ((256 * a:Nat):Int) by rw [IntKind.wrap_u32]; omega,show IntKind.u32.wrap (b:Int) = (b:Int) by rw [IntKind.wrap_u32]; omega,amb a b ha hb]
theorem amd {a b c d:Nat} (ha:a < 256) (hb:b < 256) (hc:c < 256) (hd:d < 256):f32 (a:Int) (b:Int) (c:Int) (d:Int) = IntKind.i32.wrap ((256 * (256 * (256 * a + b) + c) + d:Nat):Int):=by
 unfold f32
 have h0:bits .or .u32 0 (IntKind.u32.wrap (a:Int)) = (a:Int):=by
  rw [show IntKind.u32.wrap (a:Int) = (a:Int) by rw [IntKind.wrap_u32]; omega];have:=amb 0 a (by decide) ha
  simpa using this
 rw [h0,Ux (by omega) hb,Ux (by omega) hc,Ux (by omega) hd]
theorem ame {a b:Nat} (ha:a < 256) (hb:b < 256):p16 (a:Int) (b:Int) = Lm (a:Int) (b:Int):=by
 unfold p16;rw [show IntKind.u16.wrap (IntKind.u16.wrap (a:Int) * 2 ^ 8) = ((256 * a:Nat):Int) by rw [IntKind.wrap_u16,IntKind.wrap_u16]; omega,show IntKind.u16.wrap (b:Int) = (b:Int) by rw [IntKind.wrap_u16]; omega,apI a b ha hb,show ∀ n:Int,IntKind.i16.wrap n = (n + 32768) % 65536 - 32768 from fun n => by simp [IntKind.wrap,IntKind.bits,IntKind.signed]; omega,IntKind.wrap_i32];unfold Lm;omega
def ZQ (B:Nat->Int):Value:=.agg #[.int .i64 (IntKind.i64.wrap (B 1)),.int .i64 (j64 (B 2) (B 3)),.int .i64 (j64 (B 4) (B 5)),.int .i64 (j64 (B 6) (B 7)),.int .i32 (f32 (B 8) (B 9) (B 10) (B 11)),.int .i32 (f32 (B 12) (B 13) (B 14) (B 15)),.int .i32 (f32 (B 16) (B 17) (B 18) (B 19)),.int .i32 (f32 (B 20) (B 21) (B 22) (B 23)),.int .i32 (p16 (B 24) (B 25)),.int .i32 (p16 (B 26) (B 27)),.int .i32 (p16 (B 28) (B 29))]
set_option maxRecDepth 100000 in
theorem afF (B:Nat->Int):Zd (cxV [] [] [(31,false),(33,false)] [mW 30 0]) (Uk (K:=jU) []) 3000 56 [mW 30 0] [.vw 1000000 0 30] (vb B 30) =
 some (true,[.v (ZQ B),.v .nilIface],[.test (.bin .neq 3) [.int .i64 (bits .andNot .i64 (IntKind.i64.wrap (B 1)) 15),.int .i64 0] (.bool false),.test (.bin .neq 5) [.int .u8 (B 0),.int .u8 1] (.bool false)]):=by kernel_rfl
theorem anL {xs:List Nat} (h:xs.length = 30):vb (xI xs) 30 = dB xs/\aB (jd (vb (xI xs) 30)) (mW 30 0) = dB xs:=by
 match xs,h with
 | [x0,x1,x2,x3,x4,x5,x6,x7,x8,x9,x10,x11,x12,x13,x14,x15,x16,x17,x18,x19,x20,x21,x22,x23,x24,x25,x26,x27,x28,x29],_ => exact ⟨rfl,rfl⟩
theorem GY (x:Wd):f32 (aZ x.v 16777216:Nat) (aZ x.v 65536:Nat) (aZ x.v 256:Nat) (aZ x.v 1:Nat) = x.v:=by
 rw [amd (mZ _ _) (mZ _ _) (mZ _ _) (mZ _ _),IntKind.wrap_i32];have hx:=wdB x;unfold aZ;omega
theorem Ns {s:Int} (h:vS s):j64 (aZ s 256:Nat) (aZ s 1:Nat) = s:=by
 rw [amc (mZ _ _) (mZ _ _)];unfold vS at h;unfold aZ;omega
theorem Nu {y:Int} (h:-32768<=y/\y<=32767):p16 (aZ y 256:Nat) (aZ y 1:Nat) = y:=by
 rw [ame (mZ _ _) (mZ _ _),acX h]
theorem afG (x:St) (hr:x.right) {fl:Int} (h:0<=fl/\fl<=7):ZQ (xI ((x.frame fl).take 30)) = x.rep fl:=by
 have hF:IntKind.i64.wrap (((fl + (bif pO x.q.a x.q.b x.q.c x.q.d then 8 else 0)).toNat:Nat):Int) = fl + (bif pO x.q.a x.q.b x.q.c x.q.d then 8 else 0):=by
  rw [IntKind.wrap_i64]
  cases pO x.q.a x.q.b x.q.c x.q.d <;> simp <;> omega
 have ha:∀ y:Wd,-32768<=y.v / 65536/\y.v / 65536<=32767:=fun y => by have:=wdB y; omega
 have e:ZQ (xI ((x.frame fl).take 30)) = .agg #[.int .i64 (IntKind.i64.wrap (((fl + (bif pO x.q.a x.q.b x.q.c x.q.d then 8 else 0)).toNat:Nat):Int)),.int .i64 (j64 (aZ x.s 256:Nat) (aZ x.s 1:Nat)),.int .i64 (j64 (aZ x.f 256:Nat) (aZ x.f 1:Nat)),.int .i64 (j64 (aZ x.g 256:Nat) (aZ x.g 1:Nat)),
  .int .i32 (f32 (aZ x.q.a.v 16777216:Nat) (aZ x.q.a.v 65536:Nat) (aZ x.q.a.v 256:Nat) (aZ x.q.a.v 1:Nat)),.int .i32 (f32 (aZ x.q.b.v 16777216:Nat) (aZ x.q.b.v 65536:Nat) (aZ x.q.b.v 256:Nat) (aZ x.q.b.v 1:Nat)),
  .int .i32 (f32 (aZ x.q.c.v 16777216:Nat) (aZ x.q.c.v 65536:Nat) (aZ x.q.c.v 256:Nat) (aZ x.q.c.v 1:Nat)),.int .i32 (f32 (aZ x.q.d.v 16777216:Nat) (aZ x.q.d.v 65536:Nat) (aZ x.q.d.v 256:Nat) (aZ x.q.d.v 1:Nat)),
  .int .i32 (p16 (aZ ((iM x.q.a x.q.b x.q.c x.q.d).a.v / 65536) 256:Nat) (aZ ((iM x.q.a x.q.b x.q.c x.q.d).a.v / 65536) 1:Nat)),.int .i32 (p16 (aZ ((iM x.q.a x.q.b x.q.c x.q.d).b.v / 65536) 256:Nat) (aZ ((iM x.q.a x.q.b x.q.c x.q.d).b.v / 65536) 1:Nat)),.int .i32 (p16 (aZ ((iM x.q.a x.q.b x.q.c x.q.d).c.v / 65536) 256:Nat) (aZ ((iM x.q.a x.q.b x.q.c x.q.d).c.v / 65536) 1:Nat))]:=by kernel_rfl
 rw [e,hF,Ns hr.1,Ns hr.2.1,Ns hr.2.2,GY,GY,GY,GY,Nu (ha _),Nu (ha _),Nu (ha _)];rfl
theorem ZR (x:St) (hr:x.right) {fl:Int} (h:0<=fl/\fl<=7) (v:Value) (w:World) (hw:jU w) (hv:Sl w v (dB ((x.frame fl).take 30))) :
 Calls Tryz.prog 56 #[v] w fun e w' => e = .returned (.tuple #[x.rep fl,.nilIface])/\ah w w' []:=by
 have hl:((x.frame fl).take 30).length = 30:=by rw [List.length_take,jr]; rfl
 have hlt:∀ y∈(x.frame fl).take 30,y < 256:=fun y hy => Dx x h y (List.mem_of_mem_take hy);obtain ⟨g1,g2⟩:=anL hl;have t0:xI ((x.frame fl).take 30) 0 = 1:=rfl;have t1:xI ((x.frame fl).take 30) 1 = (((fl + (bif pO x.q.a x.q.b x.q.c x.q.d then 8 else 0)).toNat:Nat):Int):=rfl
 have anM:(bits .andNot .i64 (IntKind.i64.wrap (xI ((x.frame fl).take 30) 1)) 15 != 0) = false:=by
  have hall:∀ n:Nat,n < 16->(bits .andNot .i64 (IntKind.i64.wrap (n:Int)) 15 != 0) = false:=by decide
  rw [t1];exact hall _ (by cases pO x.q.a x.q.b x.q.c x.q.d <;> simp <;> omega)
 have apJ:∀ ob∈([.test (.bin .neq 3) [.int .i64 (bits .andNot .i64 (IntKind.i64.wrap (xI ((x.frame fl).take 30) 1)) 15),.int .i64 0] (.bool false),.test (.bin .neq 5) [.int .u8 (xI ((x.frame fl).take 30) 0),.int .u8 1] (.bool false)]:List Ob),qA Tryz.prog jU ob:=by
  refine agL (obK ?_) (agL (obK ?_) anK)
  . have:=agK 3 .i64 (bits .andNot .i64 (IntKind.i64.wrap (xI ((x.frame fl).take 30) 1)) 15) 0
    rw [anM] at this;exact this
  . have:=agK 5 .u8 (xI ((x.frame fl).take 30) 0) 1
    rw [show (xI ((x.frame fl).take 30) 0 != 1) = false by rw [t0]; rfl] at this;exact this
 have hone:∀ u∈([v]:List Value),u.oneCell' = true:=fun u hu => by
  simp at hu;subst hu;obtain ⟨A,c,rfl,_⟩:=hv;rfl
 have anN:aB (E0 (ρS (vb (xI ((x.frame fl).take 30)) 30) [v])) [.vw 1000000 0 30] = [v]:=by
  obtain ⟨A,c,rfl,hc,hA⟩:=hv;obtain ⟨b,o,rfl,_⟩:=hA (by rw [gV]; omega);have e:aB (E0 (ρS (vb (xI ((x.frame fl).take 30)) 30) [.slice (some ⟨b,o,none⟩) (dB ((x.frame fl).take 30)).length c])) [.vw 1000000 0 30] = [.slice (some ⟨b,o + 0,none⟩) 30 (c - 0)]:=rfl;rw [e,gV,hl];rfl
 refine (VK [] (afF (xI ((x.frame fl).take 30))) (by rw [g1]; exact afB hlt) apJ w hw [v] (fun i cs hi => ?_) hone anN).mono ?_
 . cases i with
   | succ i => simp at hi
   | zero =>
    simp at hi;subst hi;exact ⟨v,rfl,by rw [g2]; exact hv⟩
 . rintro e w' ⟨⟨us,ha,rfl⟩,hc⟩
   match us,ha with
   | [y,z],ha =>
    obtain ⟨rfl,rfl,_⟩:=ha;rw [afG x hr h];exact ⟨rfl,hc⟩
theorem ZT (w:World):Calls Tryz.prog 57 #[.nilIface] w fun e w' => e = .returned (.int .i64 0)/\w = w':=by
 go_enter Tryz.func57,Tryz.ntmps57
 go_wp2;go_ret;exact ⟨rfl,rfl⟩
theorem afH (x:St) (fl:Int):uK (x.frame fl) 30 = true:=by
 have e:uK (x.frame fl) 30 = (dR 65535 ((x.frame fl).take 30) / 256 == dR 65535 ((x.frame fl).take 30) / 256 && dR 65535 ((x.frame fl).take 30) % 256 == dR 65535 ((x.frame fl).take 30) % 256):=rfl;rw [e];simp
theorem rZ {fn:Func} {c t:Tmp} {T:TypeId} (h:fn.results = #[.cell c T,.tmp t]) (tmps:Array Value) (P:Program) (w:World) {A:Addr} {v:Value} (ha:tmps.getD c undef = .pointer (some A)) (hl:(loadVar T A).run P w = .ok v w) :
 (results fn tmps).run P w = .ok (.tuple #[v,tmps.getD t undef]) w:=by
 have e:results fn tmps = (do let vs <- fn.results.mapM (Xi.L_ tmps); pure (if h:vs.size = 1 then vs[0] else .tuple vs)):=rfl;rw [e,h,Array.mapM_eq_mapM_toList];simp [Xi.L_,ha,asAddr,hl]
set_option maxRecDepth 100000 in
set_option maxHeartbeats 2000000 in
theorem ZU (x:St) (hr:x.right) {fl:Int} (h:0<=fl/\fl<=7) (v:Value) (w:World) (hw:∀ w',ah w w' []->jU w') (hv:Sl w v (dB (x.frame fl))) :
 Calls Tryz.prog 31 #[v] w fun e w' => e = .returned (.tuple #[x.rep fl,.int .i64 0])/\ah w w' []:=by
 obtain ⟨A,m,rfl,hc,hA⟩:=id hv;obtain ⟨g,off,rfl,_⟩:=hA (by rw [gV,jr]; decide);rw [show (dB (x.frame fl)).length = 32 by rw [gV,jr]] at hv ⊢
 have HO:=hide (show ∀ w1,ah w w1 []->Calls Tryz.prog 55 #[.slice (some ⟨g,off,none⟩) 32 m] w1 fun e w' => ah w1 w' []/\∃ y,e = .returned (.tuple #[y,.int .i64 0])/\Sl w' y (dB ((x.frame fl).take 30)) from fun w1 h1 => by
  have:=Pg (x.frame fl) 30 g off m w1 (jr x fl) (Dx x h) (hv.keep h1) (by decide) (hw w1 h1);rw [afH] at this
  exact this)
 have HRD:=hide (show ∀ w1 y,ah w w1 []->Sl w1 y (dB ((x.frame fl).take 30))->Calls Tryz.prog 56 #[y] w1 fun e w' => e = .returned (.tuple #[x.rep fl,.nilIface])/\ah w1 w' [] from fun w1 y h1 h2 => ZR x hr h y w1 (hw w1 h1) h2);have b0:=ay.new w 76 [.int .i64 0,.int .i64 0,.int .i64 0,.int .i64 0,.int .i32 0,.int .i32 0,.int .i32 0,.int .i32 0,.int .i32 0,.int .i32 0,.int .i32 0];have hcA:=(ah.refl w []).alloc (.cells #[.int .i64 0,.int .i64 0,.int .i64 0,.int .i64 0,.int .i32 0,.int .i32 0,.int .i32 0,.int .i32 0,.int .i32 0,.int .i32 0,.int .i32 0] 76);have hn:=ZT;have apK:(dB ((x.frame fl).take 30)).length = 30:=by rw [gV,List.length_take,jr]; rfl
 obtain ⟨r0,r1,r2,r3,r4,r5,r6,r7,r8,r9,r10,hrep⟩:∃ r0 r1 r2 r3 r4 r5 r6 r7 r8 r9 r10:Int,x.rep fl = .agg #[.int .i64 r0,.int .i64 r1,.int .i64 r2,.int .i64 r3,.int .i32 r4,.int .i32 r5,.int .i32 r6,.int .i32 r7,.int .i32 r8,.int .i32 r9,.int .i32 r10]:=⟨_,_,_,_,_,_,_,_,_,_,_,rfl⟩
 rw [hrep] at HRD ⊢;clear hc hA hv hw hrep;generalize dB ((x.frame fl).take 30) = bs at *;go_enter Tryz.func31,Tryz.ntmps31
 go_wp2_with fail
 go_at_call 55;refine (HO.out _ hcA).mono ?_;rintro e w1 ⟨hc1,y,rfl,hy⟩;have hrd:=HRD.out w1 y (hcA.trans hc1 (by simp)) hy;obtain ⟨Ay,cy,rfl,_⟩:=id hy;rw [apK] at hrd ⊢;have hcB:=hcA.trans hc1 (D:=[]) (by simp);replace b0:=b0.aj hc1 (by simp);have HR:=hide hrd;clear hc1 hy hrd HO HRD hcA;go_wp2_with fail
 go_at_call 56;refine HR.out.mono ?_;rintro e w2 ⟨rfl,hc2⟩;replace hcB:=hcB.trans hc2 (D:=[]) (by simp);replace b0:=b0.aj hc2 (by simp);have b1:=ay.new w2 76 [.int .i64 r0,.int .i64 r1,.int .i64 r2,.int .i64 r3,.int .i32 r4,.int .i32 r5,.int .i32 r6,.int .i32 r7,.int .i32 r8,.int .i32 r9,.int .i32 r10];have hl0:=b0.lt;clear HR hc2;go_wp2_with fail
 go_at_call 57;refine (hn _).mono ?_;rintro e w3 ⟨rfl,hw3⟩
 have hb1:ay w3 w2.heap.size 76 [.int .i64 r0,.int .i64 r1,.int .i64 r2,.int .i64 r3,.int .i32 r4,.int .i32 r5,.int .i32 r6,.int .i32 r7,.int .i32 r8,.int .i32 r9,.int .i32 r10]:=by
  rw [<- hw3];exact b1
 have hb0:ay w3 w.heap.size 76 [.int .i64 0,.int .i64 0,.int .i64 0,.int .i64 0,.int .i32 0,.int .i32 0,.int .i32 0,.int .i32 0,.int .i32 0,.int .i32 0,.int .i32 0]:=by
  rw [<- hw3];exact b0.alloc _
 have hcC:ah w w3 []:=by
  rw [<- hw3];exact hcB.alloc _
 clear hcB b0 b1 hl0 hw3 hn;have f0:=hb0.frozen 0;have y0:=hb0.cell' (i:=0) rfl;have z0:=hb1.cell' (i:=0) rfl;have f1:=hb0.frozen 1;have y1:=hb0.cell' (i:=1) rfl;have z1:=hb1.cell' (i:=1) rfl;have f2:=hb0.frozen 2;have y2:=hb0.cell' (i:=2) rfl;have z2:=hb1.cell' (i:=2) rfl;have f3:=hb0.frozen 3;have y3:=hb0.cell' (i:=3) rfl;have z3:=hb1.cell' (i:=3) rfl;have f4:=hb0.frozen 4;have y4:=hb0.cell' (i:=4) rfl;have z4:=hb1.cell' (i:=4) rfl;have f5:=hb0.frozen 5;have y5:=hb0.cell' (i:=5) rfl;have z5:=hb1.cell' (i:=5) rfl;have f6:=hb0.frozen 6;have y6:=hb0.cell' (i:=6) rfl;have z6:=hb1.cell' (i:=6) rfl;have f7:=hb0.frozen 7;have y7:=hb0.cell' (i:=7) rfl;have z7:=hb1.cell' (i:=7) rfl;have f8:=hb0.frozen 8;have y8:=hb0.cell' (i:=8) rfl;have z8:=hb1.cell' (i:=8) rfl;have f9:=hb0.frozen 9;have y9:=hb0.cell' (i:=9) rfl;have z9:=hb1.cell' (i:=9) rfl;have f10:=hb0.frozen 10;have y10:=hb0.cell' (i:=10) rfl;have z10:=hb1.cell' (i:=10) rfl;have hbf:=(((((((((((hb0.aJ 0 (.int .i64 r0)).aJ 1 (.int .i64 r1)).aJ 2 (.int .i64 r2)).aJ 3 (.int .i64 r3)).aJ 4 (.int .i32 r4)).aJ 5 (.int .i32 r5)).aJ 6 (.int .i32 r6)).aJ 7 (.int .i32 r7)).aJ 8 (.int .i32 r8)).aJ 9 (.int .i32 r9)).aJ 10 (.int .i32 r10))
 have DW:=(show ah _ _ [w.heap.size] from ((((((((((((ah.refl w3 [w.heap.size]).setCell ⟨w.heap.size,0,none⟩ (.int .i64 r0) (.inl (List.mem_singleton.2 rfl))).setCell ⟨w.heap.size,1,none⟩ (.int .i64 r1) (.inl (List.mem_singleton.2 rfl))).setCell ⟨w.heap.size,2,none⟩ (.int .i64 r2) (.inl (List.mem_singleton.2 rfl))).setCell ⟨w.heap.size,3,none⟩ (.int .i64 r3) (.inl (List.mem_singleton.2 rfl))).setCell ⟨w.heap.size,4,none⟩ (.int .i32 r4) (.inl (List.mem_singleton.2 rfl))).setCell ⟨w.heap.size,5,none⟩ (.int .i32 r5) (.inl (List.mem_singleton.2 rfl))).setCell ⟨w.heap.size,6,none⟩ (.int .i32 r6) (.inl (List.mem_singleton.2 rfl))).setCell ⟨w.heap.size,7,none⟩ (.int .i32 r7) (.inl (List.mem_singleton.2 rfl))).setCell ⟨w.heap.size,8,none⟩ (.int .i32 r8) (.inl (List.mem_singleton.2 rfl))).setCell ⟨w.heap.size,9,none⟩ (.int .i32 r9) (.inl (List.mem_singleton.2 rfl))).setCell ⟨w.heap.size,10,none⟩ (.int .i32 r10) (.inl (List.mem_singleton.2 rfl))))
 have q0:=hbf.cell' (i:=0) rfl;have q1:=hbf.cell' (i:=1) rfl;have q2:=hbf.cell' (i:=2) rfl;have q3:=hbf.cell' (i:=3) rfl;have q4:=hbf.cell' (i:=4) rfl;have q5:=hbf.cell' (i:=5) rfl;have q6:=hbf.cell' (i:=6) rfl;have q7:=hbf.cell' (i:=7) rfl;have q8:=hbf.cell' (i:=8) rfl;have q9:=hbf.cell' (i:=9) rfl;have q10:=hbf.cell' (i:=10) rfl;go_wp2;refine bodyPost_ret (rZ rfl _ _ _ (A:=⟨w.heap.size,0,none⟩) rfl (v:=.agg #[.int .i64 r0,.int .i64 r1,.int .i64 r2,.int .i64 r3,.int .i32 r4,.int .i32 r5,.int .i32 r6,.int .i32 r7,.int .i32 r8,.int .i32 r9,.int .i32 r10]) ?_) rfl ?_
 . clear f0 y0 z0 f1 y1 z1 f2 y2 z2 f3 y3 z3 f4 y4 z4 f5 y5 z5 f6 y6 z6 f7 y7 z7 f8 y8 z8 f9 y9 z9 f10 y10 z10
   go_simp
 . exact ⟨rfl,hcC.trans DW (fun k hk => .inr (by simp at hk; omega))⟩
end Xi
end Go.Proofs.YtbhikopphamgjaaGreatDoor
