/- The core: Marks; a core and its memory as one. -/
import Derived.Test.YtnkmmaijigihpaaGreatDoorTT16
import Derived.Test.YtnkmmaijigihpaaGreatDoorGlo
set_option linter.unusedVariables false
namespace Go.Proofs.YtnkmmaijigihpaaGreatDoor
open Go Go.RowKit Go.Deep Go.Maps
attribute [local go_sem] Oper.semAt_some
theorem ZL:(Tryz.prog.info? 69).map (fun i => (i.zero,i.size,i.bytes)) = some (some (.agg #[.int .i64 0,.int .i64 0,.int .i64 0]),3,24):=by kernel_rfl
theorem O_ (l:List (Int × Int × Int)):(bH l).length = l.length * 3:=by
 induction l with
 | nil => rfl
 | cons p l ih =>
  show (_ ++ bH l).length = _;rw [List.length_append,ih];show 3 + l.length * 3 = (l.length + 1) * 3;omega
theorem Pg (l:List (Int × Int × Int)):∀ u∈bH l,u.oneCell' = true:=fun u hu => by
 obtain ⟨p,_,hp⟩:=List.mem_flatMap.1 hu;simp at hp;rcases hp with rfl | rfl | rfl <;> rfl
set_option maxRecDepth 100000 in
set_option maxHeartbeats 1000000 in
theorem Ub {w:World} {v:Value} {l:List (Int × Int × Int)} (h:w.ownsRow 0 69 3 v l.length (bH l)) (h0:0 < l.length) (hl:l.length<=1048576) :
 Calls Tryz.prog 57 #[v] w fun e w' => ∃ v',e = .returned v'/\ah w w' []/\w'.ownsRow w.heap.size 69 3 v' l.length (bH l):=by
 obtain ⟨i0,hi,hz0,hz1,hz2⟩:=info_parts ZL;obtain ⟨A,c,rfl,hx⟩:=jC h;obtain ⟨g,rfl,hg1,hg2,hcells⟩:=hx h0;have HX:=hide hcells;have q22:∀ (w:World) (a:Option Addr) (n c n' c':Nat),(binOp .eql 36 (.slice a n c) (.slice none n' c')).run Tryz.prog w = .ok (.bool a.isNone) w:=fun w a n c n' c' => Lib.run_eql_slice_nil w _ _ a n c n' c' Tryz.underlying36;have HL0:=hide h0;clear h hx hcells h0;go_enter Tryz.func57,Tryz.ntmps57
 go_wp2_with (at_builtin; refine wpList_append_own _ rfl _ _ 36 rfl w.heap.size 69 i0 (.agg #[.int .i64 0,.int .i64 0,.int .i64 0]) 3 24 Tryz.underlying36 hi hz0 hz1 hz2 rfl (by decide) _ _ _ rfl (World.ownsRow_made w #[] 0 (Nat.le_refl _) (Nat.zero_le _) (by simp)) ⟨g,0,none⟩ l.length c (bH l) rfl ?qc1 ?qc2 ?qc3 ?qc4 ?qc5 ?qc6 ?_)
 case qc1 => exact O_ l
 case qc2 =>
  intro j u hj;rw [Addr.add_lit];exact Lib.cell?_alloc_some _ (by rw [Nat.zero_add]; exact HX.out j u hj)
 case qc3 => exact Pg l
 case qc4 => unfold maxLen; omega
 case qc5 => omega
 case qc6 => simp
 intro v' w1 hown hgrow hnil;obtain ⟨A1,c1,rfl⟩:=bG hown;have K:=hide hown;have KG:=hide hgrow;clear hown hgrow hnil;go_wp2;go_ret;refine ⟨_,rfl,ah.of_below (((Below.refl _ w).alloc (Nat.le_refl _) _).grown KG.out (by simp) (by intro k hk; simp [Value.ownBlock] at hk; omega)),?_⟩
 simpa using K.out
set_option maxRecDepth 100000 in
theorem Uc {w:World} {c:Nat} {bp:Addr} {cv mv:Value} {code:List (aO × Bool)} {s:CS} (h:CB w c (.pointer (some bp)) cv mv code s) (h0:0 < s.marks.length) (hl:s.marks.length<=1048576) :
 Calls Tryz.prog 25 #[.pointer (some ⟨c,0,none⟩)] w fun e w' => ∃ v',e = .returned v'/\ah w w' []/\w'.ownsRow w.heap.size 69 3 v' s.marks.length (bH s.marks):=by
 have hl':=lF h;have hcl:=Ub h.vU h0 hl;have c37:=h.blk.cell' (@mX _ cv mv s h.reg).2.2.2;clear h;go_enter Tryz.func25,Tryz.ntmps25
 go_wp2_with fail
 go_at_call 53;refine hl'.mono ?_;rintro e w1 ⟨rfl,rfl⟩;go_wp2_with fail
 go_at_call 57;refine hcl.mono ?_;rintro e w1 ⟨v',rfl,hc,ho⟩;have HC:=hide hc;have HO:=hide ho;clear hc ho hcl;go_wp2;go_ret;exact ⟨_,rfl,HC.out,HO.out⟩
end Go.Proofs.YtnkmmaijigihpaaGreatDoor
