/- BuildPlays: the law's walk. -/
import Derived.Test.YtjfnpokebaagmaaGreatDoorDoD
import Derived.Test.YtjfnpokebaagmaaGreatDoorAwkB
namespace Go.Proofs.YtjfnpokebaagmaaGreatDoor
open Go Go.RowKit Go.Deep Go.Maps Go.Proofs.YtjfnpokebaagmaaGreatDoor.Xi
set_option linter.unusedVariables false
attribute [local go_sem] Oper.semAt_some
def vP14 (tb b x : Nat) (va vb : Value) (us : List UInt8) (e0 : Int) (ln : Nat) (Ac : Option Addr) (cc : Nat) : Nat → Value
  | 0 => .pointer (some ⟨tb, 0, none⟩)
  | 1 => .pointer (some ⟨tb, 0, none⟩)
  | 2 => .pointer (some ⟨tb, 2, none⟩)
  | 3 => .bool true
  | 4 => .bool true
  | 5 => va
  | 6 => vb
  | 7 => .bool true
  | 8 => .bool true
  | 9 => .bool true
  | 10 => .string ⟨us.toArray⟩
  | 11 => .string ⟨us.toArray⟩
  | 12 => .bool true
  | 13 => .bool true
  | 14 => .bool true
  | 15 => .int .i64 e0
  | 16 => .int .i64 e0
  | 17 => .bool true
  | 18 => .bool true
  | 19 => .bool true
  | 20 => .pointer (some ⟨tb, 0, none⟩)
  | 21 => .pointer (some ⟨tb, 0, none⟩)
  | 22 => .pointer (some ⟨tb, 0, none⟩)
  | 23 => .pointer (some ⟨b, 0, none⟩)
  | 24 => .int .i64 ln
  | 25 => .pointer (some ⟨tb, 0, none⟩)
  | 26 => .pointer (some ⟨tb, 0, none⟩)
  | 27 => .pointer (some ⟨tb, 1, none⟩)
  | 28 => .pointer (some ⟨x, 0, none⟩)
  | 29 => .pointer (some ⟨x, 0, none⟩)
  | 30 => .pointer (some ⟨x, 0, none⟩)
  | 31 => .slice Ac ln cc
  | 32 => .int .i64 ln
  | 33 => .bool true
  | 34 => .bool true
  | 35 => .bool true
  | 36 => .bool true
  | 37 => .bool true
  | 38 => .bool true
  | _ => undef
theorem putsP14 (v : Nat → Value) (t0 t1 t2 t3 t4 t5 t6 t7 t8 t9 t10 t11 t12 t13 t14 t15 t16 t17 t18 t19 t20 t21 t22 t23 t24 t25 t26 t27 t28 t29 t30 t31 t32 t33 t34 t35 t36 t37 t38 t39 t40 t41 t42 t43 t44 t45 t46 t47 t48 t49 t50 t51 t52 t53 t54 t55 t56 t57 t58 t59 t60 t61 t62 t63 t64 t65 t66 t67 t68 t69 t70 t71 t72 t73 t74 t75 t76 t77 t78 t79 t80 t81 t82 t83 t84 t85 t86 t87 t88 t89 t90 t91 t92 t93 t94 t95 t96 t97 : Value) : putsD v (some 60 :: some 61 :: some 62 :: some 63 :: some 64 :: some 65 :: some 66 :: some 67 :: some 68 :: some 69 :: some 70 :: some 71 :: some 72 :: some 73 :: some 74 :: some 75 :: some 76 :: some 77 :: some 78 :: some 79 :: some 80 :: some 81 :: some 82 :: some 83 :: some 84 :: some 85 :: some 86 :: some 87 :: some 88 :: some 89 :: some 90 :: some 91 :: some 92 :: some 93 :: some 94 :: some 95 :: some 96 :: some 97 :: some 2 :: []) 0 (t0 :: t1 :: t2 :: t3 :: t4 :: t5 :: t6 :: t7 :: t8 :: t9 :: t10 :: t11 :: t12 :: t13 :: t14 :: t15 :: t16 :: t17 :: t18 :: t19 :: t20 :: t21 :: t22 :: t23 :: t24 :: t25 :: t26 :: t27 :: t28 :: t29 :: t30 :: t31 :: t32 :: t33 :: t34 :: t35 :: t36 :: t37 :: t38 :: t39 :: t40 :: t41 :: t42 :: t43 :: t44 :: t45 :: t46 :: t47 :: t48 :: t49 :: t50 :: t51 :: t52 :: t53 :: t54 :: t55 :: t56 :: t57 :: t58 :: t59 :: t60 :: t61 :: t62 :: t63 :: t64 :: t65 :: t66 :: t67 :: t68 :: t69 :: t70 :: t71 :: t72 :: t73 :: t74 :: t75 :: t76 :: t77 :: t78 :: t79 :: t80 :: t81 :: t82 :: t83 :: t84 :: t85 :: t86 :: t87 :: t88 :: t89 :: t90 :: t91 :: t92 :: t93 :: t94 :: t95 :: t96 :: t97 :: []) = (t0 :: t1 :: v 38 :: t3 :: t4 :: t5 :: t6 :: t7 :: t8 :: t9 :: t10 :: t11 :: t12 :: t13 :: t14 :: t15 :: t16 :: t17 :: t18 :: t19 :: t20 :: t21 :: t22 :: t23 :: t24 :: t25 :: t26 :: t27 :: t28 :: t29 :: t30 :: t31 :: t32 :: t33 :: t34 :: t35 :: t36 :: t37 :: t38 :: t39 :: t40 :: t41 :: t42 :: t43 :: t44 :: t45 :: t46 :: t47 :: t48 :: t49 :: t50 :: t51 :: t52 :: t53 :: t54 :: t55 :: t56 :: t57 :: t58 :: t59 :: v 0 :: v 1 :: v 2 :: v 3 :: v 4 :: v 5 :: v 6 :: v 7 :: v 8 :: v 9 :: v 10 :: v 11 :: v 12 :: v 13 :: v 14 :: v 15 :: v 16 :: v 17 :: v 18 :: v 19 :: v 20 :: v 21 :: v 22 :: v 23 :: v 24 :: v 25 :: v 26 :: v 27 :: v 28 :: v 29 :: v 30 :: v 31 :: v 32 :: v 33 :: v 34 :: v 35 :: v 36 :: v 37 :: []) := by kernel_rfl
set_option maxRecDepth 100000 in
set_option maxHeartbeats 4000000 in
theorem buildPlays_calls (A : Option Addr) (c : Nat) (l : List ActL) (W : World) (hE : ErT W) (hsl : ASl W A l) (hlen : l.length ≤ maxLen) (hr : ∀ a ∈ l, (-2147483648 ≤ a.n ∧ a.n ≤ 2147483647) ∧ a.name.length ≤ maxLen) :
    Calls Tryz.prog 3 #[.slice A l.length c] W fun e w' => e = .returned (.bool true) ∧ Chg W w' [] := by
  have HE := hide hE
  have HSL := hide hsl
  have HR := hide hr
  have hawk := awake21_calls hE
  have hmix : Tryz.prog.follows .mixedOrders = true := by kernel_rfl
  replace hmix := hide hmix
  have heg : 0 < W.heap.size := World.block_lt_of_cell? _ _ hE
  have HEG := hide heg
  clear hE hsl hr heg
  unfold maxLen at hlen HR
  by_cases h60 : 60 < l.length
  · have x1 : decide ((60 : Int) < (l.length : Int)) = true := by simp; omega
    go_enter Tryz.func3, Tryz.ntmps3
    go_wp2_with fail
    go_at_call 5
    refine hawk.mono ?_
    rintro e w1 ⟨rfl, hc⟩
    go_wp2
    go_ret
    exact ⟨rfl, hc⟩
  · have x1 : decide ((60 : Int) < (l.length : Int)) = false := by simp; omega
    go_enter Tryz.func3, Tryz.ntmps3
    go_wp2
    go_loopw [3] (fun i wr => ∃ k : Nat, k ≤ l.length ∧ i = .int .i64 k ∧ Hid (∀ j a, j < k → l[j]? = some a → a.name.length ≤ 100) ∧ W = wr) (fun i _ => l.length - (intOf i).toNat)
    case atStart => exact ⟨0, Nat.zero_le _, rfl, hide (fun j a h => by omega), rfl⟩
    case round =>
      obtain ⟨k, hk, rfl, HT, rfl⟩ := hrel
      by_cases hlt : k < l.length
      · have hlt' : decide ((k : Int) < (l.length : Int)) = true := by simpa using hlt
        obtain ⟨lb, off, rfl, hx⟩ := HSL.out (by omega)
        have hkk : l[k]? = some l[k] := List.getElem?_eq_getElem hlt
        have d6 : W.cell? ⟨lb, off + k * 10 + 6, none⟩ = some (.string ⟨l[k].name.toArray⟩) := hx k l[k] hkk 6 _ rfl
        have hra := HR.out l[k] (List.getElem_mem hlt)
        have HN : Hid (l[k].name.length ≤ 100 → ∀ j a, j < k + 1 → l[j]? = some a → a.name.length ≤ 100) := hide (fun h j a hj ha => by
          by_cases e : j = k
          · subst e
            rw [hkk] at ha
            injection ha with ha
            rw [← ha]
            exact h
          · exact HT.out j a (by omega) ha)
        have hz := hra.2
        clear hx hkk hra
        generalize l[k].name = nm at *
        by_cases h100 : 100 < nm.length
        · have x2 : decide ((100 : Int) < (nm.length : Int)) = true := by simp; omega
          clear HN
          go_wp2_with fail
          go_at_call 5
          refine hawk.mono ?_
          rintro e w1 ⟨rfl, hc⟩
          go_wp2
          go_ret
          exact ⟨rfl, hc⟩
        · have x2 : decide ((100 : Int) < (nm.length : Int)) = false := by simp; omega
          have HN2 := hide (HN.out (by omega))
          clear HN
          go_wp2
          go_roundw
          case rel => exact ⟨k + 1, by omega, by go_num, HN2, by trivial⟩
          case measure => simp [intOf]; omega
      · have hlt' : decide ((k : Int) < (l.length : Int)) = false := by simpa using hlt
        have hk2 : k = l.length := by omega
        have HOK : Hid (∀ a ∈ l, ActOk a) := hide (fun a ha => by
          obtain ⟨j, hj, rfl⟩ := List.mem_iff_getElem.1 ha
          exact ⟨(HR.out _ ha).1, HT.out j _ (by omega) (List.getElem?_eq_getElem hj)⟩)
        have hnew := new_calls W
        clear HT hk2 hawk
        go_wp2_with fail
        go_at_call 6
        refine hnew.mono ?_
        rintro e w1 ⟨b, F, rfl, hc1, hp1, hF⟩
        have hc2 : Chg w1 ((w1.alloc (.cells #[.slice none 0 0, .slice none 0 0, .slice none 0 0] 37)).alloc (.cells #[.pointer (some ⟨b, 0, none⟩), .pointer (some ⟨w1.heap.size, 0, none⟩), .bool true] 39)) [] := ((Chg.refl w1 []).alloc _).alloc _
        have hbx : Blk ((w1.alloc (.cells #[.slice none 0 0, .slice none 0 0, .slice none 0 0] 37)).alloc (.cells #[.pointer (some ⟨b, 0, none⟩), .pointer (some ⟨w1.heap.size, 0, none⟩), .bool true] 39)) w1.heap.size 37 [.slice none 0 0, .slice none 0 0, .slice none 0 0] := (Blk.new w1 37 [.slice none 0 0, .slice none 0 0, .slice none 0 0]).alloc _
        have hbt : Blk ((w1.alloc (.cells #[.slice none 0 0, .slice none 0 0, .slice none 0 0] 37)).alloc (.cells #[.pointer (some ⟨b, 0, none⟩), .pointer (some ⟨w1.heap.size, 0, none⟩), .bool true] 39)) (w1.heap.size + 1) 39 [.pointer (some ⟨b, 0, none⟩), .pointer (some ⟨w1.heap.size, 0, none⟩), .bool true] := by
          have h := Blk.new (w1.alloc (.cells #[.slice none 0 0, .slice none 0 0, .slice none 0 0] 37)) 39 [.pointer (some ⟨b, 0, none⟩), .pointer (some ⟨w1.heap.size, 0, none⟩), .bool true]
          rw [size_alloc] at h
          exact h
        have hst : ST ((w1.alloc (.cells #[.slice none 0 0, .slice none 0 0, .slice none 0 0] 37)).alloc (.cells #[.pointer (some ⟨b, 0, none⟩), .pointer (some ⟨w1.heap.size, 0, none⟩), .bool true] 39)) (w1.heap.size + 1) b w1.heap.size ⟨[], [], []⟩ ⟨[], [], []⟩ ([w1.heap.size + 1] ++ (F ++ [w1.heap.size])) := by
          refine ⟨F, [w1.heap.size], hp1.chg hc2 (by simp), ⟨.slice none 0 0, .slice none 0 0, .slice none 0 0, ⟨hbx, World.ownsRow_nil _ _ _ _, World.ownsRow_nil _ _ _ _, World.ownsRow_nil _ _ _ _, fun g hg => by simp [Value.ownBlock] at hg⟩, rfl⟩, hbt, rfl, fun y hy hm => ?_, fun hm => ?_, by simp⟩
          · have := hp1.lt y hy
            simp at hm
            omega
          · have := hp1.lt _ hm
            omega
        have hFl : ∀ y ∈ [w1.heap.size + 1] ++ (F ++ [w1.heap.size]), W.heap.size ≤ y := fun y hy => by
          have := hc1.size
          simp only [List.mem_append, List.mem_singleton] at hy
          rcases hy with rfl | hy | rfl
          · omega
          · exact hF y hy
          · exact this
        have hsl2 := (HSL.out.chg hc1 (by simp)).chg hc2 (by simp)
        have hAF : 0 < l.length → ∀ a, A = some a → a.block ∉ [w1.heap.size + 1] ++ (F ++ [w1.heap.size]) := fun h0 a ha hm => by
          have h1 := hFl _ hm
          obtain ⟨lb, off, e, hx⟩ := HSL.out h0
          rw [ha] at e
          injection e with e
          subst e
          have hkk : l[0]? = some l[0] := List.getElem?_eq_getElem h0
          have h2 := World.block_lt_of_cell? _ _ (hx 0 _ hkk 0 _ rfl)
          have h3 : lb < W.heap.size := h2
          have h4 : W.heap.size ≤ lb := h1
          omega
        have hdo := does_all (w1.heap.size + 1) b w1.heap.size A c l (by omega) HOK.out l.length 0 0 0 _ _ _ (by omega) (Nat.zero_le _) (by omega) hst ⟨by simp, by simp, by simp, by simp [Fine]⟩ hsl2 hAF
        rw [show ((0 : Nat) : Int) = 0 from rfl] at hdo
        have HDO := hide hdo
        have HFL := hide hFl
        have HC2 := hide (hc1.trans hc2 (by simp))
        clear hdo hFl hst hsl2 hAF hbx hbt hc1 hc2 hp1 hF hnew HOK HR HSL
        go_wp2_with fail
        go_at_call 7
        refine HDO.out.mono ?_
        rintro e w3 ⟨j, bm, rfl, hj1, hj2, ⟨hc3, F3, hs3, hst3⟩, hsz⟩
        have hc03 : Chg W w3 [] := HC2.out.trans hc3 (fun y hy => .inr (HFL.out y hy))
        have hE3 : ErT w3 := HE.out.chg hc03 (by simp)
        obtain ⟨FP, FR, hp3, hr3, hF3, d1, d2, d3⟩ := hst3.parts
        have hb3 := hst3.blk
        have z1 := hsz.code
        have z2 := hsz.uses
        have z3 := hsz.defs
        have hfin := finish_calls hp3 hsz.fine (by omega) (by omega) hE3
        have hrfin : ∀ w4, Chg w3 w4 [] → Calls Tryz.prog 9 #[.pointer (some ⟨w1.heap.size, 0, none⟩)] w4 (FinP (finM bm) w4) := fun w4 hc => rfinish_calls (hr3.chg hc (by simp)) hsz.fine (by omega) (by omega) (by omega)
        have hws : (finM bm).1.length ≤ 1000000 := by
          unfold finM
          split
          · simp
          · split
            · simp
            · rw [codeM_len]; omega
        have HRF := hide hrfin
        have HP3 := hide hp3
        have HB3 := hide hb3
        have HC03 := hide hc03
        have HE3 := hide hE3
        obtain ⟨cv, dv, uv, hrs, _⟩ := hr3
        have HRS := hide hrs
        have c30 := hb3.cell' (i := 0) rfl
        have c31 := hb3.cell' (i := 1) rfl
        clear hj1 hj2 hc3 hs3 hst3 hsz hc03 hE3 hp3 hF3 d1 d2 d3 hb3 hrfin hrs z1 z2 z3 HDO HFL HC2
        generalize finM bm = r at *
        obtain ⟨ws, us, e0⟩ := r
        unfold FinP strV at hfin HRF
        simp only [] at hfin HRF hws
        go_wp2_with fail
        go_at_call 8
        refine hfin.mono ?_
        rintro e w4 ⟨hc4, va, rfl, hsa⟩
        have c40 := hc4.cell c30 (by simp)
        have c41 := hc4.cell c31 (by simp)
        have HC4 := hide hc4
        have HSA4 := hide hsa
        have hrf := HRF.out w4 hc4
        clear hc4 hsa hfin c30 c31
        go_wp2_with fail
        go_at_call 9
        refine hrf.mono ?_
        rintro e w5 ⟨hc5, vb, rfl, hsb⟩
        have hc35 : Chg w3 w5 [] := HC4.out.trans hc5 (by simp)
        have HSA := hide (HSA4.out.keep hc5)
        have HSB := hide hsb
        have HPB := hide (HP3.out.chg hc35 (by simp))
        have HEE := hide (HE3.out.chg hc35 (by simp))
        have hb5 := HB3.out.chg hc35 (by simp)
        have KB0 := hb5.cell' (i := 0) rfl
        have KB1 := hb5.cell' (i := 1) rfl
        have KB2 := hb5.cell' (i := 2) rfl
        have KX0 := (HRS.out.blk.chg hc35 (by simp)).cell' (i := 0) rfl
        obtain ⟨Ac, cc, rfl⟩ := own_slice HRS.out.rc
        have HC5 := hide (HC03.out.trans hc35 (by simp))
        clear hrf hc5 hsb hc35 hb5 c40 c41 HSA4 HRF HP3 HE3 HB3 HRS HC4 HC03
        go_upto_region 14 with (fail)
        generalize w1.heap.size + 1 = tb at *
        generalize w1.heap.size = x at *
        have hwl := hws
        refine wp_regionJ hmix.out _ _ (fun _ => vP14 tb b x va vb us e0 bm.code.length Ac cc) (fun (_ : Unit) L w' => Chg w5 w' []) () (by kernel_rfl) [(4, true), (9, true), (14, true), (19, true), (35, true)] (by kernel_rfl) (fun p hp γ => by simp at hp; rcases hp with rfl | rfl | rfl | rfl | rfl <;> rfl) (by kernel_rfl) ?step ?start ?fin ?ext
        case start => exact (Chg.refl w5 []).drew
        case ext => exact fun γ L L' w' h hw => hw
        case step =>
          generalize hln : bm.code.length = ln at *
          intro i o ho L av w1 γ hdn htm hW hL hpre K Q hK
          match i, ho with
          | 0, ho =>
           injection ho with ho; subst ho
           have b4 : av.tmps.getD 4 undef = .pointer (some ⟨tb, 0, none⟩) := slB htm 4 (by kernel_rfl)
           clear htm
           refine val_now ?_ (hK () w1 (fun _ _ => rfl) hW); go_simp; rfl
          | 1, ho =>
           injection ho with ho; subst ho
           have s0 := slA htm 60 0 (by kernel_rfl) (hpre ⟨0, .data⟩ (by simp) rfl)
           simp only [vP14] at s0
           clear htm
           refine val_now ?_ (hK () w1 (fun _ _ => rfl) hW); go_simp; rfl
          | 2, ho =>
           injection ho with ho; subst ho
           have s1 := slA htm 61 1 (by kernel_rfl) (hpre ⟨1, .data⟩ (by simp) rfl)
           simp only [vP14] at s1
           clear htm
           refine val_now ?_ (hK () w1 (fun _ _ => rfl) hW); go_simp; rfl
          | 3, ho =>
           injection ho with ho; subst ho
           have s2 := slA htm 62 2 (by kernel_rfl) (hpre ⟨2, .data⟩ (by simp) rfl)
           simp only [vP14] at s2
           clear htm
           have y := hW.cell KB2 (by simp)
           refine val_now ?_ (hK () w1 (fun _ _ => rfl) hW); go_simp; rfl
          | 4, ho =>
           injection ho with ho; subst ho
           have s3 := slA htm 63 3 (by kernel_rfl) (hpre ⟨3, .data⟩ (by simp) rfl)
           simp only [vP14] at s3
           clear htm
           refine val_now ?_ (hK () w1 (fun _ _ => rfl) hW); go_simp; rfl
          | 5, ho =>
           injection ho with ho; subst ho
           have b5 : av.tmps.getD 5 undef = va := slB htm 5 (by kernel_rfl)
           clear htm
           refine val_now ?_ (hK () w1 (fun _ _ => rfl) hW); go_simp; rfl
          | 6, ho =>
           injection ho with ho; subst ho
           have b8 : av.tmps.getD 8 undef = vb := slB htm 8 (by kernel_rfl)
           clear htm
           refine val_now ?_ (hK () w1 (fun _ _ => rfl) hW); go_simp; rfl
          | 7, ho =>
           injection ho with ho; subst ho
           have s5 := slA htm 65 5 (by kernel_rfl) (hpre ⟨5, .data⟩ (by simp) rfl)
           have s6 := slA htm 66 6 (by kernel_rfl) (hpre ⟨6, .data⟩ (by simp) rfl)
           simp only [vP14] at s5 s6
           clear htm
           refine call_now (f := 10) (args := #[va, vb]) ?_ (words_calls ws hwl (HSA.out.keep hW) (HSB.out.keep hW)) ?_
           · go_simp
           · rintro e w2 ⟨rfl, hc⟩
             exact ⟨_, rfl, hK () w2 (fun _ _ => rfl) (hW.trans hc (by simp))⟩
          | 8, ho =>
           injection ho with ho; subst ho
           have s4 := slA htm 64 4 (by kernel_rfl) (hpre ⟨4, .data⟩ (by simp) rfl)
           have s7 := slA htm 67 7 (by kernel_rfl) (hpre ⟨7, .data⟩ (by simp) rfl)
           simp only [vP14] at s4 s7
           clear htm
           refine val_now ?_ (hK () w1 (fun _ _ => rfl) hW); go_simp; rfl
          | 9, ho =>
           injection ho with ho; subst ho
           have s8 := slA htm 68 8 (by kernel_rfl) (hpre ⟨8, .data⟩ (by simp) rfl)
           simp only [vP14] at s8
           clear htm
           refine val_now ?_ (hK () w1 (fun _ _ => rfl) hW); go_simp; rfl
          | 10, ho =>
           injection ho with ho; subst ho
           have b6 : av.tmps.getD 6 undef = .string ⟨us.toArray⟩ := slB htm 6 (by kernel_rfl)
           clear htm
           refine val_now ?_ (hK () w1 (fun _ _ => rfl) hW); go_simp; rfl
          | 11, ho =>
           injection ho with ho; subst ho
           have b9 : av.tmps.getD 9 undef = .string ⟨us.toArray⟩ := slB htm 9 (by kernel_rfl)
           clear htm
           refine val_now ?_ (hK () w1 (fun _ _ => rfl) hW); go_simp; rfl
          | 12, ho =>
           injection ho with ho; subst ho
           have s10 := slA htm 70 10 (by kernel_rfl) (hpre ⟨10, .data⟩ (by simp) rfl)
           have s11 := slA htm 71 11 (by kernel_rfl) (hpre ⟨11, .data⟩ (by simp) rfl)
           simp only [vP14] at s10 s11
           clear htm
           have hss : (us == us) = true := by simp
           refine val_now ?_ (hK () w1 (fun _ _ => rfl) hW); go_simp; rfl
          | 13, ho =>
           injection ho with ho; subst ho
           have s9 := slA htm 69 9 (by kernel_rfl) (hpre ⟨9, .data⟩ (by simp) rfl)
           have s12 := slA htm 72 12 (by kernel_rfl) (hpre ⟨12, .data⟩ (by simp) rfl)
           simp only [vP14] at s9 s12
           clear htm
           refine val_now ?_ (hK () w1 (fun _ _ => rfl) hW); go_simp; rfl
          | 14, ho =>
           injection ho with ho; subst ho
           have s13 := slA htm 73 13 (by kernel_rfl) (hpre ⟨13, .data⟩ (by simp) rfl)
           simp only [vP14] at s13
           clear htm
           refine val_now ?_ (hK () w1 (fun _ _ => rfl) hW); go_simp; rfl
          | 15, ho =>
           injection ho with ho; subst ho
           have b7 : av.tmps.getD 7 undef = .int .i64 e0 := slB htm 7 (by kernel_rfl)
           clear htm
           refine val_now ?_ (hK () w1 (fun _ _ => rfl) hW); go_simp; rfl
          | 16, ho =>
           injection ho with ho; subst ho
           have b10 : av.tmps.getD 10 undef = .int .i64 e0 := slB htm 10 (by kernel_rfl)
           clear htm
           refine val_now ?_ (hK () w1 (fun _ _ => rfl) hW); go_simp; rfl
          | 17, ho =>
           injection ho with ho; subst ho
           have s15 := slA htm 75 15 (by kernel_rfl) (hpre ⟨15, .data⟩ (by simp) rfl)
           have s16 := slA htm 76 16 (by kernel_rfl) (hpre ⟨16, .data⟩ (by simp) rfl)
           simp only [vP14] at s15 s16
           clear htm
           refine val_now ?_ (hK () w1 (fun _ _ => rfl) hW); go_simp; rfl
          | 18, ho =>
           injection ho with ho; subst ho
           have s14 := slA htm 74 14 (by kernel_rfl) (hpre ⟨14, .data⟩ (by simp) rfl)
           have s17 := slA htm 77 17 (by kernel_rfl) (hpre ⟨17, .data⟩ (by simp) rfl)
           simp only [vP14] at s14 s17
           clear htm
           refine val_now ?_ (hK () w1 (fun _ _ => rfl) hW); go_simp; rfl
          | 19, ho =>
           injection ho with ho; subst ho
           have s18 := slA htm 78 18 (by kernel_rfl) (hpre ⟨18, .data⟩ (by simp) rfl)
           simp only [vP14] at s18
           clear htm
           refine val_now ?_ (hK () w1 (fun _ _ => rfl) hW); go_simp; rfl
          | 20, ho =>
           injection ho with ho; subst ho
           have b4 : av.tmps.getD 4 undef = .pointer (some ⟨tb, 0, none⟩) := slB htm 4 (by kernel_rfl)
           clear htm
           refine val_now ?_ (hK () w1 (fun _ _ => rfl) hW); go_simp; rfl
          | 21, ho =>
           injection ho with ho; subst ho
           have s20 := slA htm 80 20 (by kernel_rfl) (hpre ⟨20, .data⟩ (by simp) rfl)
           simp only [vP14] at s20
           clear htm
           refine val_now ?_ (hK () w1 (fun _ _ => rfl) hW); go_simp; rfl
          | 22, ho =>
           injection ho with ho; subst ho
           have s21 := slA htm 81 21 (by kernel_rfl) (hpre ⟨21, .data⟩ (by simp) rfl)
           simp only [vP14] at s21
           clear htm
           refine val_now ?_ (hK () w1 (fun _ _ => rfl) hW); go_simp; rfl
          | 23, ho =>
           injection ho with ho; subst ho
           have s22 := slA htm 82 22 (by kernel_rfl) (hpre ⟨22, .data⟩ (by simp) rfl)
           simp only [vP14] at s22
           clear htm
           have y := hW.cell KB0 (by simp)
           refine val_now ?_ (hK () w1 (fun _ _ => rfl) hW); go_simp; rfl
          | 24, ho =>
           injection ho with ho; subst ho
           have s23 := slA htm 83 23 (by kernel_rfl) (hpre ⟨23, .data⟩ (by simp) rfl)
           simp only [vP14] at s23
           clear htm
           refine call_now (f := 11) (args := #[.pointer (some ⟨b, 0, none⟩)]) ?_ (hln ▸ len_calls (HPB.out.chg hW (by simp))) ?_
           · go_simp
           · rintro e w2 ⟨rfl, rfl⟩
             exact ⟨_, rfl, hK () _ (fun _ _ => rfl) hW⟩
          | 25, ho =>
           injection ho with ho; subst ho
           have b4 : av.tmps.getD 4 undef = .pointer (some ⟨tb, 0, none⟩) := slB htm 4 (by kernel_rfl)
           clear htm
           refine val_now ?_ (hK () w1 (fun _ _ => rfl) hW); go_simp; rfl
          | 26, ho =>
           injection ho with ho; subst ho
           have s25 := slA htm 85 25 (by kernel_rfl) (hpre ⟨25, .data⟩ (by simp) rfl)
           simp only [vP14] at s25
           clear htm
           refine val_now ?_ (hK () w1 (fun _ _ => rfl) hW); go_simp; rfl
          | 27, ho =>
           injection ho with ho; subst ho
           have s26 := slA htm 86 26 (by kernel_rfl) (hpre ⟨26, .data⟩ (by simp) rfl)
           simp only [vP14] at s26
           clear htm
           refine val_now ?_ (hK () w1 (fun _ _ => rfl) hW); go_simp; rfl
          | 28, ho =>
           injection ho with ho; subst ho
           have s27 := slA htm 87 27 (by kernel_rfl) (hpre ⟨27, .data⟩ (by simp) rfl)
           simp only [vP14] at s27
           clear htm
           have y := hW.cell KB1 (by simp)
           refine val_now ?_ (hK () w1 (fun _ _ => rfl) hW); go_simp; rfl
          | 29, ho =>
           injection ho with ho; subst ho
           have s28 := slA htm 88 28 (by kernel_rfl) (hpre ⟨28, .data⟩ (by simp) rfl)
           simp only [vP14] at s28
           clear htm
           refine val_now ?_ (hK () w1 (fun _ _ => rfl) hW); go_simp; rfl
          | 30, ho =>
           injection ho with ho; subst ho
           have s29 := slA htm 89 29 (by kernel_rfl) (hpre ⟨29, .data⟩ (by simp) rfl)
           simp only [vP14] at s29
           clear htm
           refine val_now ?_ (hK () w1 (fun _ _ => rfl) hW); go_simp; rfl
          | 31, ho =>
           injection ho with ho; subst ho
           have s30 := slA htm 90 30 (by kernel_rfl) (hpre ⟨30, .data⟩ (by simp) rfl)
           simp only [vP14] at s30
           clear htm
           have y := hW.cell KX0 (by simp)
           refine val_now ?_ (hK () w1 (fun _ _ => rfl) hW); go_simp; rfl
          | 32, ho =>
           injection ho with ho; subst ho
           have s31 := slA htm 91 31 (by kernel_rfl) (hpre ⟨31, .data⟩ (by simp) rfl)
           simp only [vP14] at s31
           clear htm
           refine val_now ?_ (hK () w1 (fun _ _ => rfl) hW); go_simp; rfl
          | 33, ho =>
           injection ho with ho; subst ho
           have s24 := slA htm 84 24 (by kernel_rfl) (hpre ⟨24, .data⟩ (by simp) rfl)
           have s32 := slA htm 92 32 (by kernel_rfl) (hpre ⟨32, .data⟩ (by simp) rfl)
           simp only [vP14] at s24 s32
           clear htm
           refine val_now ?_ (hK () w1 (fun _ _ => rfl) hW); go_simp; rfl
          | 34, ho =>
           injection ho with ho; subst ho
           have s19 := slA htm 79 19 (by kernel_rfl) (hpre ⟨19, .data⟩ (by simp) rfl)
           have s33 := slA htm 93 33 (by kernel_rfl) (hpre ⟨33, .data⟩ (by simp) rfl)
           simp only [vP14] at s19 s33
           clear htm
           refine val_now ?_ (hK () w1 (fun _ _ => rfl) hW); go_simp; rfl
          | 35, ho =>
           injection ho with ho; subst ho
           have s34 := slA htm 94 34 (by kernel_rfl) (hpre ⟨34, .data⟩ (by simp) rfl)
           simp only [vP14] at s34
           clear htm
           refine val_now ?_ (hK () w1 (fun _ _ => rfl) hW); go_simp; rfl
          | 36, ho =>
           injection ho with ho; subst ho
           clear htm
           refine call_now (f := 5) (args := #[]) ?_ (awake21_calls (HEE.out.chg hW (by simp))) ?_
           · go_simp
           · rintro e w2 ⟨rfl, hc⟩
             exact ⟨_, rfl, hK () w2 (fun _ _ => rfl) (hW.trans hc (by simp))⟩
          | 37, ho =>
           injection ho with ho; subst ho
           have s35 := slA htm 95 35 (by kernel_rfl) (hpre ⟨35, .data⟩ (by simp) rfl)
           have s36 := slA htm 96 36 (by kernel_rfl) (hpre ⟨36, .data⟩ (by simp) rfl)
           simp only [vP14] at s35 s36
           clear htm
           refine val_now ?_ (hK () w1 (fun _ _ => rfl) hW); go_simp; rfl
          | 38, ho =>
           injection ho with ho; subst ho
           have s37 := slA htm 97 37 (by kernel_rfl) (hpre ⟨37, .data⟩ (by simp) rfl)
           simp only [vP14] at s37
           clear htm
           refine val_now ?_ (hK () w1 (fun _ _ => rfl) hW); go_simp; rfl
          | _ + 39, ho => cases ho
        case fin =>
          intro γ w8 hW
          rw [finG_puts, putsR_list, putsL_dst]
          simp only [List.map_cons, List.map_nil]
          rw [putsP14]
          simp only [vP14]
          have HW8 := hide hW
          clear hW KB0 KB1 KB2 KX0
          go_wp2
          go_ret
          exact ⟨rfl, HC5.out.trans HW8.out (by simp)⟩
end Go.Proofs.YtjfnpokebaagmaaGreatDoor
