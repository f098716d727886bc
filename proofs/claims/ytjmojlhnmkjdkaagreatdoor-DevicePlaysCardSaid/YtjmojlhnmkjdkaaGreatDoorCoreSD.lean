/- The core: Marks; a core and its memory as one. -/
import Derived.Test.YtjmojlhnmkjdkaaGreatDoorDP16
import Derived.Test.YtjmojlhnmkjdkaaGreatDoorGloD
set_option linter.unusedVariables false
namespace Go.Proofs.YtjmojlhnmkjdkaaGreatDoor
open Go Go.RowKit Go.Deep Go.Maps
attribute [local go_sem] Oper.semAt_some
theorem acO:(Tryz.prog.info? 82).map (fun i=>(i.zero,i.size,i.bytes))=some (some (.agg #[.int .i64 0,.int .i64 0,.int .i64 0]),3,24):=by kernel_rfl
theorem SX(l:List (Int×Int×Int)):(ig l).length=l.length*3:=by
 induction l with
 | nil=>rfl
 | cons p l ih =>
  show(_++ig l).length=_;rw [List.length_append,ih];show 3+l.length*3=(l.length+1)*3;omega
theorem SY(l:List (Int×Int×Int)):∀ u∈ig l,u.oneCell'=true:=fun u hu=>by
 obtain⟨p,_,hp⟩:=List.mem_flatMap.1 hu;simp at hp;rcases hp with rfl | rfl | rfl<;>rfl
set_option maxRecDepth 100000 in
set_option maxHeartbeats 1000000 in
theorem WY{w:World}{v:Value}{l:List (Int×Int×Int)}(h:w.ownsRow 0 82 3 v l.length (ig l))(h0:0<l.length)(hl:l.length<=1048576) :
 Calls Tryz.prog 71 #[v] w fun e w'=>∃ v',e=.returned v'/\ah w w' []/\w'.ownsRow w.heap.size 82 3 v' l.length (ig l):=by
 obtain⟨i0,hi,hz0,hz1,hz2⟩:=info_parts acO;obtain⟨A,c,rfl,hx⟩:=oH h;obtain⟨g,rfl,hg1,hg2,hcells⟩:=hx h0;have HX:=hide hcells;have q22:∀(w:World) (a:Option Addr) (n c n' c':Nat),(binOp .eql 30 (.slice a n c) (.slice none n' c')).run Tryz.prog w=.ok (.bool a.isNone) w:=fun w a n c n' c'=>Lib.run_eql_slice_nil w _ _ a n c n' c' Tryz.underlying30;have HL0:=hide h0;clear h hx hcells h0;go_enter Tryz.func71,Tryz.ntmps71
 go_wp2_with (at_builtin; refine wpList_append_own _ rfl _ _ 30 rfl w.heap.size 82 i0 (.agg #[.int .i64 0,.int .i64 0,.int .i64 0]) 3 24 Tryz.underlying30 hi hz0 hz1 hz2 rfl (by decide) _ _ _ rfl (World.ownsRow_made w #[] 0 (Nat.le_refl _) (Nat.zero_le _) (by simp)) ⟨g,0,none⟩ l.length c (ig l) rfl ?qc1 ?qc2 ?qc3 ?qc4 ?qc5 ?qc6 ?_)
 case qc1=>exact SX l
 case qc2 =>
  intro j u hj;rw [Addr.add_lit];exact Lib.cell?_alloc_some _ (by rw [Nat.zero_add]; exact HX.out j u hj)
 case qc3=>exact SY l
 case qc4=>unfold maxLen; omega
 case qc5=>omega
 case qc6=>simp
 intro v' w1 hown hgrow hnil;obtain⟨A1,c1,rfl⟩:=bK hown;have K:=hide hown;have KG:=hide hgrow;clear hown hgrow hnil;go_wp2;go_ret;refine⟨_,rfl,ah.of_below (((Below.refl _ w).alloc (Nat.le_refl _) _).grown KG.out (by simp) (by intro k hk; simp [Value.ownBlock] at hk; omega)),?_⟩
 simpa using K.out
set_option maxRecDepth 100000 in
theorem WZ{w:World}{c:Nat}{bp:Addr}{cv mv:Value}{code:List (aW×Bool)}{s:CS}(h:CB w c (.pointer (some bp)) cv mv code s)(h0:0<s.marks.length)(hl:s.marks.length<=1048576) :
 Calls Tryz.prog 31 #[.pointer (some ⟨c,0,none⟩)] w fun e w'=>∃ v',e=.returned v'/\ah w w' []/\w'.ownsRow w.heap.size 82 3 v' s.marks.length (ig s.marks):=by
 have hl':=mW h;have hcl:=WY h.yH h0 hl;have c37:=h.blk.cell' (@oP _ cv mv s h.reg).2.2.2;clear h;go_enter Tryz.func31,Tryz.ntmps31
 go_wp2_with fail
 go_at_call 66;refine hl'.mono ?_;rintro e w1 ⟨rfl,rfl⟩;go_wp2_with fail
 go_at_call 71;refine hcl.mono ?_;rintro e w1 ⟨v',rfl,hc,ho⟩;have HC:=hide hc;have HO:=hide ho;clear hc ho hcl;go_wp2;go_ret;exact⟨_,rfl,HC.out,HO.out⟩
