/- emit.Maker: Table, At. -/
import Derived.Test.YtakkofepcbkbkaaGreatDoorKQ15
namespace Go.Proofs.YtakkofepcbkbkaaGreatDoor
open Go Go.RowKit Go.Deep Go.Maps Go.Proofs.YtakkofepcbkbkaaGreatDoor.Ab Go.Proofs.YtakkofepcbkbkaaGreatDoor.Xi
set_option linter.unusedVariables false
attribute [local go_sem] Oper.semAt_some
theorem sl_openV {w : World} {v : Value} {xs : List Value} (h : Sl w v xs) : ∃ A c, v = .slice A xs.length c ∧ ∀ (j : Nat) (u : Value), xs[j]? = some u → ∃ b off, A = some ⟨b, off, none⟩ ∧ w.cell? ⟨b, off + j, none⟩ = some u ∧ b < w.heap.size := by
 obtain ⟨A, c, rfl, _⟩ := id h
 exact ⟨A, c, rfl, fun j u hj => h.at_ hj⟩
theorem putD_snoc (x : Int) : ∀ (l : List Int) (a : Nat) (d : List (Nat × Int)), putD (l ++ [x]) a d = (a + l.length, x) :: putD l a d
 | [], a, d => rfl
 | y :: l, a, d => by
  show putD (l ++ [x]) (a + 1) ((a, y) :: d) = _
  rw [putD_snoc x l]
  show (a + 1 + l.length, x) :: _ = (a + (l.length + 1), x) :: _
  rw [show a + 1 + l.length = a + (l.length + 1) by omega]
  rfl
theorem putD_len : ∀ (l : List Int) (a : Nat) (d : List (Nat × Int)), (putD l a d).length = d.length + l.length
 | [], a, d => rfl
 | y :: l, a, d => by
  show (putD l (a + 1) ((a, y) :: d)).length = _
  rw [putD_len l]
  show d.length + 1 + l.length = d.length + (l.length + 1)
  omega
theorem tableWF {s : KS} (h : s.WF) {l : List Int} {n : Nat} (h1 : 1 ≤ n) (hl : l.length ≤ n) (hu : s.used + n ≤ 2048) (hn : s.names + 1 ≤ 100000) : ({ (s.room n false) with data := putD l s.used s.data } : KS).WF :=
 { (show (s.room n false).WF from (roomWF (sec := false) h hn h1 hu).rs _) with
   data := by
    show (putD l s.used s.data).length ≤ s.used + n
    rw [putD_len]
    have := h.data
    omega }
theorem chk_lw1 {r a : Nat} (hr : r ≤ 31) (ha : a ≤ 2048) : chk 34 (r : Int) 1 0 (a : Int) = 0 := by
 rw [chk_iff]
 unfold Fits regOk
 simp
 omega
section
variable {w : World} {b : MP} {s : KS} {F : List Nat}
set_option maxRecDepth 100000 in
set_option maxHeartbeats 2000000 in
theorem mtable_calls (h : KR w b s F) {lv : Value} {l : List Int} (hl : Sl w lv (i32s l)) (hn : ∀ A n c, lv = .slice (some A) n c → A.block ∉ F) (h32 : ∀ x ∈ l, In32 x) (h1 : 1 ≤ l.length) (hcan : s.can l.length = true) :
 Calls Tryz.prog 335 #[.pointer (some ⟨b.a, 0, none⟩), lv] w (MkP (.int .i64 (s.nt : Int)) (s.table l) b F w) := by
 obtain ⟨a1, a2, a3⟩ := can_iff hcan
 have hm := room_calls h l.length false h1 a1 (by omega)
 obtain ⟨A, c, rfl, hx⟩ := sl_openV hl
 have e0 : (i32s l).length = l.length := by simp [i32s]
 rw [e0]
 have HX := hide hx
 have HN := hide hn
 have H32 := hide h32
 have H1 := hide h1
 have A1 := hide a1
 have A2 := hide a2
 have HW := hide (show s.WF from h.choose_spec.1.wf)
 have hl2 : l.length ≤ 2048 := by omega
 have hu2 : s.used ≤ 2048 := by omega
 have HLT := hide (show ∀ k ∈ F, k < w.heap.size from fun k hk => h.lt k hk)
 clear h hl hx hn h32 h1 a1 a2 a3 hcan
 go_enter Tryz.func335, Tryz.ntmps335
 go_wp2_with (go_at_call 78; refine hm.mono ?_)
 rintro e w1 ⟨rfl, hc1, F1, hs1, p1, hp1, hf1, rfl⟩
 have HC1 := hide hc1
 have HS1 := hide hs1
 have HP1 := hide hp1
 have HF1 := hide hf1
 clear hc1 hs1 hp1 hf1 hm
 go_wp2_with fail
 go_loopw [6, 7, 14] (fun _ _ i wr => ∃ (k n : Nat), k ≤ l.length ∧ i = .int .i64 k ∧ Hid (KB wr b { p1 with nd := n } { (s.room l.length false) with data := putD (l.take k) s.used s.data }) ∧ Hid (Chg w1 wr [p1.md])) (fun _ _ i _ => l.length - (intOf i).toNat)
 case atStart => exact ⟨0, p1.nd, Nat.zero_le _, rfl, hide HP1.out, hide (Chg.refl _ _)⟩
 case round =>
  obtain ⟨k, n, hk, rfl, HK, HR⟩ := hrel
  by_cases hlt : k < l.length
  · obtain ⟨x, hkx⟩ : ∃ x, l[k]? = some x := ⟨l[k], by simp [hlt]⟩
    obtain ⟨g, o, rfl, hcx, hbx⟩ := HX.out k _ (show (i32s l)[k]? = some (.int .i32 x) by simp [i32s, hkx])
    have hgF : g ∉ F := HN.out _ _ _ rfl
    have hcy := HR.out.cell (HC1.out.cell hcx hgF) (by
     show g ∉ [p1.md]
     intro hm
     have hm : g = p1.md := by simpa using hm
     rcases HS1.out g (KP.mem_part (i := 3) (by simp [KP.part, hm])) with h | h
     · exact hgF h
     · omega)
    have hx32 : In32 x := H32.out x (List.mem_of_getElem? hkx)
    have hku := key_int (k := (s.used : Int) + (k : Int)) (by omega) (by omega)
    have d2 := HK.out.blk.cell' (i := 2) rfl
    have HPD := hide (show putD (l.take (k + 1)) s.used s.data = (s.used + k, x) :: putD (l.take k) s.used s.data by
     rw [List.take_add_one, hkx]
     show putD (l.take k ++ [x]) _ _ = _
     rw [putD_snoc, List.length_take, Nat.min_eq_left hk])
    have HX32 := hide hx32
    have HKL := hide (show n ≤ (putD (l.take k) s.used s.data).length from HK.out.nd)
    have HML := hide (show n + 1 ≤ maxLen by
     have q1 := HKL.out
     rw [putD_len] at q1
     have q2 := HW.out.data
     have q3 := HW.out.used
     have q4 : (l.take k).length ≤ l.length := by simp; omega
     unfold maxLen
     omega)
    clear hkx hx32 hgF hcx
    go_wp2_with (at_mapUpdate; refine wpList_putLl rfl _ _ 125 3 21 keyed_int p1.md n (dataF (putD (l.take k) s.used s.data)) _ rfl Tryz.underlying125 rfl HK.out.data HML.out _ (.int .i64 ((s.used : Int) + (k : Int))) rfl hku trivial (.int .i32 x) (.int .i32 x) rfl (plainElem_int Tryz.underlying21 (wf32 HX32.out)) ?_)
    intro w2 hm2 hc2
    rw [show ((s.used : Int) + (k : Int)) = ((s.used + k : Nat) : Int) from rfl, dataF_cons, ← HPD.out] at hm2
    have HK2 := hide (HK.out.datar hc2 hm2 (by rw [HPD.out]; exact Nat.succ_le_succ HKL.out) (tableWF (l := l.take (k + 1)) HW.out H1.out (by simp; omega) A1.out (by have := A2.out; omega)))
    have HR2 := hide (HR.out.trans hc2 (fun k hk => .inl hk))
    clear hm2 hc2 d2 hku
    go_wp2
    go_roundw
    case rel => exact ⟨k + 1, n + 1, by omega, by go_num, HK2, HR2⟩
    case measure => simp [intOf]; omega
  · have hk2 : k = l.length := by omega
    subst hk2
    rw [List.take_length] at HK
    have hkr : KR wr b { (s.room l.length false) with data := putD l s.used s.data } (p1.foot b.a) := ⟨{ p1 with nd := n }, HK.out, HF1.out, rfl⟩
    have htb := table_calls hkr s.used (by have := HW.out.rt; have := H1.out; show s.rt.length + 1 ≤ s.used + l.length; omega)
    have HCR := hide (HC1.out.trans (D' := p1.foot b.a) (HR.out.more (fun k hk => .inl (KP.mem_part (i := 3) hk))) (fun k hk => HS1.out k hk))
    clear hkr
    go_wp2_with (go_at_call 79; refine htb.mono ?_)
    intro e w5 hq
    obtain ⟨rfl, hc5, F5, hs5, hk5⟩ := MkP.trans HCR.out HS1.out hq
    have HC5 := hide hc5
    have HS5 := hide hs5
    have HK5 := hide hk5
    clear hc5 hs5 hk5 htb hq
    go_wp2
    go_ret
    exact ⟨rfl, HC5.out, F5, HS5.out, HK5.out⟩
set_option maxRecDepth 100000 in
set_option maxHeartbeats 2000000 in
theorem mat_calls (h : KR w b s F) (t i a : Nat) (ht : s.rt.reverse[t]? = some a) (ha : a ≤ 2048) (hi : i ≤ 2048) (hcan : s.can 1 = true) :
 Calls Tryz.prog 328 #[.pointer (some ⟨b.a, 0, none⟩), .int .i64 (t : Int), .int .i64 (i : Int)] w (MkP (.int .i64 (s.used : Int)) (s.at_ t i) b F w) := by
 obtain ⟨a1, a2, a3⟩ := can_iff hcan
 have hm := KR.load h 1 i (by decide) hi (by omega)
 have hat : s.at_ t i = ((s.load 1 i).ins ⟨34, 2, 1, 0, (a : Nat)⟩).kept 2 true := by
  unfold KS.at_
  rw [List.getD_eq_getElem?_getD, ht]
  rfl
 rw [hat]
 have A1 := hide a1
 have A2 := hide a2
 have A3 := hide a3
 have HT := hide ht
 have htl : t < s.nt := by
  have := (List.getElem?_eq_some_iff.1 ht).1
  rw [List.length_reverse] at this
  have := h.choose_spec.1.wf.nt
  omega
 clear h hcan a1 a2 a3 hat ht
 go_enter Tryz.func328, Tryz.ntmps328
 go_wp2_with (go_at_call 336; refine hm.mono ?_)
 rintro e w1 ⟨rfl, hc1, F1, hs1, p, hp, hf, rfl⟩
 have c0 := hp.blk.cell' (i := 0) rfl
 have c5 := hp.blk.cell' (i := 5) rfl
 have hins := (hp.chg0 ((Chg.refl w1 []).drew)).ins ⟨34, 2, 1, 0, a⟩ (chk_lw1 (by decide) ha) (by have := A3.out; show s.nc + 1 ≤ _; omega)
 unfold insVal at hins
 obtain ⟨A, c, hA, hx⟩ := row_open (show w1.ownsRow 0 3 1 p.tv s.nt (ints s.rt.reverse) from hp.tabs)
 obtain ⟨g, rfl, hgl, hgb, hcells⟩ := hx (by omega)
 rw [hA] at c5
 have ct := hcells t (.int .i64 (a : Int)) (by unfold ints; rw [List.getElem?_map, HT.out]; rfl)
 have HC1 := hide hc1
 have HS1 := hide hs1
 have HF := hide hf
 clear hc1 hs1 hp hf hm hA hx hcells hgb hgl
 go_wp2_with fail
 go_still_tail 12, (by kernel_rfl)
 go_wp2_with fail
 refine hins.mono ?_
 rintro e w2 ⟨rfl, hc2, p2, hp2, hf2, hs2⟩
 have hk2 : KR w2 b ((s.load 1 i).ins ⟨34, 2, 1, 0, (a : Nat)⟩) (p2.foot b.a) := ⟨p2, hp2, hf2 ▸ HF.out, rfl⟩
 have hkp := kept_calls hk2 2 true (by decide) (by have := A1.out; exact this) (by have := A2.out; show s.names + 1 ≤ _; omega) (by have := A3.out; show s.nc + 2 ≤ _; omega)
 have HC2 := hide (HC1.out.trans hc2.from_drew (fun k hk => HS1.out k hk))
 have HS2 := hide (Sub.trans HS1.out hs2 HC1.out.size)
 clear hc2 hp2 hf2 hs2 hk2 hins c0 c5 ct
 go_wp2_with (go_at_call 337; refine hkp.mono ?_)
 intro e w3 hq
 obtain ⟨rfl, hc3, F3, hs3, hk3⟩ := MkP.trans HC2.out HS2.out hq
 have HC3 := hide hc3
 have HS3 := hide hs3
 have HK3 := hide hk3
 clear hq hc3 hs3 hk3 hkp
 go_wp2
 go_ret
 exact ⟨rfl, HC3.out, F3, HS3.out, HK3.out⟩
end
end Go.Proofs.YtakkofepcbkbkaaGreatDoor
