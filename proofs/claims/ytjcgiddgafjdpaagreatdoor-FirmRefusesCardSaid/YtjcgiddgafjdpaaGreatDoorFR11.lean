/- Texts of this claim, side by side: MkR, MkS, MkT, MakM, MakR, MakS, MakT, MakU, Kimg, MakV, ImgF1, MakW. -/
import Derived.Test.YtjcgiddgafjdpaaGreatDoorFR9
import Derived.Test.YtjcgiddgafjdpaaGreatDoorShelfM
import Derived.Laws.CopyOwn
import Derived.Laws.CopyRow
import Derived.Deep.RegionLaw
import Derived.Test.YtjcgiddgafjdpaaGreatDoorFR1
import Derived.Maps.RangeWalk
import Derived.Laws.Rows
import Derived.Test.YtjcgiddgafjdpaaGreatDoorXiV
import Derived.Test.YtjcgiddgafjdpaaGreatDoorFR5
import Derived.Test.YtjcgiddgafjdpaaGreatDoorFR14
import Derived.Test.YtjcgiddgafjdpaaGreatDoorFR13
import Derived.Test.YtjcgiddgafjdpaaGreatDoorImgF0
/- slices.Repeat of one bool. -/
namespace Go.Proofs.YtjcgiddgafjdpaaGreatDoor
open Go Go.RowKit Go.Deep Go.Maps Go.Proofs.YtjcgiddgafjdpaaGreatDoor.Ab Go.Proofs.YtjcgiddgafjdpaaGreatDoor.Xi
set_option linter.unusedVariables false
attribute [local go_sem] Oper.semAt_some
theorem size_bool:(Tryz.prog.info? 4).map (·.size) = some 1:=by kernel_rfl
theorem info_bool:(Tryz.prog.info? 4).map (fun i => (i.zero,i.size,i.bytes)) = some (some (.bool false),1,1):=by kernel_rfl
def repB (b:Bool) (k n:Nat):List Value:=List.replicate k (.bool b) ++ List.replicate (n - k) (.bool false)
theorem repB_len (b:Bool) {k n:Nat} (h:k≤n):(repB b k n).length = n:=by unfold repB; simp; omega
theorem repB_splice (b:Bool) {k m n:Nat} (h:k + m≤n):splice (repB b k n) k (List.replicate m (.bool b)) = repB b (k + m) n:=by
 unfold splice repB
 rw [List.take_append_of_le_length (by simp),List.take_replicate,Nat.min_self,List.length_replicate,List.drop_append,List.length_replicate,List.drop_replicate,List.drop_replicate,← List.append_assoc,← List.append_assoc,List.replicate_append_replicate,Nat.sub_eq_zero_of_le (by omega:k≤k + m)]
 simp only [List.replicate_zero,List.append_nil]
 rw [show n - k - (k + m - k) = n - (k + m) by omega]
theorem repB_at (b:Bool) {k n j:Nat} (h:j < k):(repB b k n)[j]? = some (.bool b):=by
 unfold repB
 rw [List.getElem?_append_left (by simpa using h),List.getElem?_replicate,if_pos h]
theorem rep_at {b:Bool} {k j:Nat} {u:Value} (h:(List.replicate k (Value.bool b))[j]? = some u):j < k∧u = .bool b:=by
 rw [List.getElem?_replicate] at h
 split at h
 · rename_i hj
   injection h with h
   exact ⟨hj,h.symm⟩
 · cases h
theorem rep_one (b:Bool) (k:Nat):∀ v∈List.replicate k (Value.bool b),v.oneCell' = true:=fun v hv => by
 rw [(List.mem_replicate.1 hv).2]; rfl
theorem copy_rep {W:World} {g m n k:Nat} {b:Bool} (hg:Blk W g 4 (repB b m n)) (src:Addr) (sLen sCap dLen dCap:Nat) (hsrc:∀ j,j < k→W.cell? (src.add j) = some (.bool b)) (hk:k = Nat.min sLen dLen) (hf:m + k≤n) :
 ∃ W',(Builtin.copy_ #[39,39] 3 #[.slice (some ⟨g,m,none⟩) dLen dCap,.slice (some src) sLen sCap]).run Tryz.prog W = .ok (.int .i64 (k:Int)) W'∧Blk W' g 4 (repB b (m + k) n)∧∀ (w0:World) (B:Nat),Below B w0 W→B≤g→Below B w0 W':=by
 have hr:=run_copy_row (P:=Tryz.prog) W 39 39 3 4 g m dLen dCap src sLen sCap (repB b m n).toArray 4 (List.replicate k (.bool b)) Tryz.underlying39 size_bool hg (by rw [List.length_replicate]; exact hk) (fun j v hj => by obtain ⟨h1,rfl⟩:=rep_at hj; exact hsrc j h1) (by rw [List.length_replicate]; simp only [List.size_toArray]; rw [repB_len b (by omega)]; exact hf) (rep_one b k)
 rw [List.length_replicate] at hr
 have hs:=repB_splice b (k:=m) (m:=k) (n:=n) hf
 unfold splice at hs
 rw [List.length_replicate] at hs
 rw [show ((repB b m n).toArray.toList.take m ++ List.replicate k (Value.bool b) ++ (repB b m n).toArray.toList.drop (m + k)) = repB b (m + k) n by rw [← hs,List.append_assoc]] at hr
 exact ⟨W.setRow g (repB b (m + k) n).toArray,hr,setRow_heap W g _ _ _ _ hg,fun w0 B hb hB => below_setRow hb hB _⟩
set_option maxRecDepth 100000 in
set_option maxHeartbeats 2000000 in
theorem repeat_calls (w:World) (q n:Nat) (b:Bool) (hq:w.cell? ⟨q,0,none⟩ = some (.bool b)) (h1:1≤n) (h2:n≤3000) :
 Calls Tryz.prog 166 #[.slice (some ⟨q,0,none⟩) 1 1,.int .i64 (n:Int)] w fun e w' => e = .returned (.slice (some ⟨w.heap.size,0,none⟩) n n)∧Chg w w' []∧Blk w' w.heap.size 4 (List.replicate n (.bool b)):=by
 obtain ⟨i0,hi0,hz0,hz1,hz2⟩:=info_parts info_bool
 have hmu:∀ W:World,Calls Tryz.prog 240 #[.int .u64 (1:Nat),.int .u64 n] W fun e w' => e = .returned (.tuple #[.int .u64 ((1 * n / 18446744073709551616:Nat):Int),.int .u64 ((1 * n % 18446744073709551616:Nat):Int)])∧W = w':=fun W => (Tryz.bits_Mul 1 n (by decide) (by omega) W).mono fun e w' ⟨h1,h2⟩ => ⟨h1,h2.symm⟩
 rw [show 1 * n / 18446744073709551616 = 0 by omega,show 1 * n % 18446744073709551616 = n by omega] at hmu
 have hmk:=run_make_row' (P:=Tryz.prog) 39 4 (.bool false) 1 Tryz.underlying39 info_bool rfl .i64 .i64 n (by omega) (by omega)
 rw [madeCells_zeros] at hmk
 have x1:decide ((n:Int) < 0) = false:=decide_eq_false (by omega)
 have x2:decide (9223372036854775807 < (n:Int)) = false:=decide_eq_false (by omega)
 have hwu:IntKind.u64.wrap (n:Int) = (n:Int):=by rw [IntKind.wrap_u64]; omega
 have hwi:wrap64 (n:Int) = (n:Int):=by unfold wrap64; omega
 have HQ:=hide hq
 clear hq
 go_enter Tryz.func166,Tryz.ntmps166
 have hz0:zeros (.bool false) n = repB b 0 n:=by unfold zeros repB; simp
 have hb0:=Blk.new w 4 (zeros (.bool false) n)
 rw [hz0] at hmk hb0
 obtain ⟨w1,hcp,hg1,hb1⟩:=copy_rep (k:=1) hb0 ⟨q,0,none⟩ 1 1 n n (fun j hj => by obtain rfl:j = 0:=(by omega); rw [add_plain]; exact ((Chg.refl w []).alloc _).cell HQ.out (by simp)) (Nat.min_eq_left h1).symm (by omega)
 have HG1:Hid (Blk w1 w.heap.size 4 (repB b 1 n)):=hide (by simpa using hg1)
 have HW1:=hide (hb1 w w.heap.size (Chg.to_below ((Chg.refl w []).alloc _)) (Nat.le_refl _))
 clear hb0 hz0 hg1 hb1
 go_wp2_with (go_at_call 240; refine (hmu _).mono ?_; rintro e w2 ⟨rfl,rfl⟩)
 clear hcp hmk hmu HQ
 go_loopw [8] (fun v wr => ∃ m:Nat,1≤m∧m≤n∧v = .int .i64 m∧Hid (Blk wr w.heap.size 4 (repB b m n))∧Hid (Below w.heap.size w wr)) (fun v _ => n - (intOf v).toNat)
 case atStart => exact ⟨1,Nat.le_refl _,h1,rfl,HG1,HW1⟩
 case round =>
  obtain ⟨m,hm1,hm2,rfl,HG,HW⟩:=hrel
  by_cases hlt:m < n
  · have hgd:=HG.out.drew
    obtain ⟨w3,hcp,hg3,hb3⟩:=copy_rep (k:=min m (n - m)) hgd ⟨w.heap.size,0,none⟩ m n (n - m) (n - m) (fun j hj => by
     have hjm:j < m:=Nat.lt_of_lt_of_le hj (Nat.min_le_left _ _)
     rw [add_plain,Nat.zero_add]
     exact hgd.cell' (repB_at b hjm)) rfl (by have:=Nat.min_le_right m (n - m); omega)
    have hk1:1≤min m (n - m):=by omega
    have hk2:m + min m (n - m)≤n:=by omega
    have HG3:=hide hg3
    have HB3:=hide (hb3 w w.heap.size HW.out.drew (Nat.le_refl _))
    clear hgd hg3 hb3
    generalize min m (n - m) = k at *
    have hwk:IntKind.i64.wrap ((m:Int) + (k:Int)) = (m:Int) + (k:Int):=by rw [IntKind.wrap_i64]; omega
    go_wp2_with fail
    go_region_with (fail)
    all_goals
     simp only [Act.put,Array.setIfInBounds,List.getElem_toArray,List.getElem_cons_zero,List.getElem_cons_succ]
     go_simp
     go_roundw
     case rel => exact ⟨_,_,_,_,_,_,_,_,_,_,_,_,_,_,⟨m + k,by omega,hk2,by rw [Int.natCast_add],HG3,HB3⟩,rfl⟩
     case measure => simp [intOf]; omega
  · have hk2:m = n:=by omega
    subst hk2
    go_wp2
    go_ret
    refine ⟨rfl,Chg.of_below HW.out,?_⟩
    have:=HG.out
    unfold repB at this
    rw [Nat.sub_self,List.replicate_zero,List.append_nil] at this
    exact this
def secsOf (l:List (Nat × Nat × Bool)):List Bool:=l.flatMap fun p => List.replicate p.2.1 p.2.2
def bools (l:List Bool):List Value:=l.map Value.bool
theorem secs_snoc (l:List (Nat × Nat × Bool)) (p:Nat × Nat × Bool):bools (secsOf (l ++ [p])) = bools (secsOf l) ++ List.replicate p.2.1 (.bool p.2.2):=by
 unfold secsOf
 rw [List.flatMap_append]
 show bools (_ ++ (List.replicate p.2.1 p.2.2 ++ [])) = _
 rw [List.append_nil]
 unfold bools
 rw [List.map_append,List.map_replicate]
theorem secs_len:∀ (l:List (Nat × Nat × Bool)),(∀ p∈l,p.2.1≤2048)→(secsOf l).length≤l.length * 2048
 | [],_ => by simp [secsOf]
 | p :: l,h => by
  have ih:=secs_len l fun q hq => h q (List.mem_cons_of_mem _ hq)
  have:=h p List.mem_cons_self
  unfold secsOf at ih ⊢
  rw [List.flatMap_cons,List.length_append,List.length_replicate,List.length_cons]
  omega
theorem regCells_at2:∀ (l:List (Nat × Nat × Bool)) (u j:Nat),j < l.length→∃ k a n b,l.reverse[j]? = some (k,n,b)∧(regCells l u)[j * 4]? = some (strV (vName k))∧(regCells l u)[j * 4 + 1]? = some (.int .i64 (a:Nat))∧(regCells l u)[j * 4 + 2]? = some (.int .i64 (n:Nat))∧(regCells l u)[j * 4 + 3]? = some (.bool b)
 | [],_,j,h => by simp at h
 | (k,n,b) :: l,u,j,h => by
  have hl:=regCells_len l (u - n)
  unfold regCells
  rw [List.reverse_cons]
  by_cases e:j < l.length
  · obtain ⟨k',a',n',b',hx,h0,h1,h2,h3⟩:=regCells_at2 l (u - n) j e
    refine ⟨k',a',n',b',?_,?_,?_,?_,?_⟩
    · rw [List.getElem?_append_left (by simpa using e)]; exact hx
    all_goals rw [List.getElem?_append_left (by omega)]; assumption
  · have e:j = l.length:=by simp at h; omega
    subst e
    refine ⟨k,u - n,n,b,?_,?_,?_,?_,?_⟩
    · rw [List.getElem?_append_right (by simp)]; simp
    all_goals rw [List.getElem?_append_right (by omega)]
    · rw [show l.length * 4 - (regCells l (u - n)).length = 0 by omega]; rfl
    · rw [show l.length * 4 + 1 - (regCells l (u - n)).length = 1 by omega]; rfl
    · rw [show l.length * 4 + 2 - (regCells l (u - n)).length = 2 by omega]; rfl
    · rw [show l.length * 4 + 3 - (regCells l (u - n)).length = 3 by omega]; rfl
set_option maxRecDepth 100000 in
theorem used_calls {w:World} {pp used:Nat} {rv:Value} {rr:List (Nat × Nat × Bool)} (h:PL w pp rv used rr):Calls Tryz.prog 100 #[.pointer (some ⟨pp,0,none⟩)] w fun e w' => e = .returned (.int .i64 (used:Int))∧w = w':=by
 have c1:=h.blk.cell' (i:=1) rfl
 clear h
 go_enter Tryz.func100,Tryz.ntmps100
 go_wp2
 go_ret
 exact ⟨rfl,rfl⟩
set_option maxRecDepth 100000 in
set_option maxHeartbeats 2000000 in
theorem secret_calls {w:World} {pp used:Nat} {rv:Value} {rr:List (Nat × Nat × Bool)} (h:PL w pp rv used rr) (hn:∀ p∈rr,1≤p.2.1∧p.2.1≤2048) (hl:rr.length≤1000000) :
 Calls Tryz.prog 99 #[.pointer (some ⟨pp,0,none⟩)] w fun e w' => ∃ v,e = .returned v∧Chg w w' []∧w'.ownsRow w.heap.size 4 1 v (secsOf rr.reverse).length (bools (secsOf rr.reverse)):=by
 obtain ⟨i0,hi,hz0,hz1,hz2⟩:=info_parts info_bool
 have ha:=all_calls h
 obtain ⟨A,c,rfl,hx⟩:=row_open h.row
 have HX:=hide hx
 have HN:=hide hn
 clear h hx hn
 go_enter Tryz.func99,Tryz.ntmps99
 go_wp2_with (go_at_call 165; refine ha.mono ?_; rintro e w1 ⟨rfl,rfl⟩)
 go_loopw [3,9] (fun v i wr => ∃ k:Nat,k≤rr.length∧i = .int .i64 k∧Hid (Chg w wr [])∧Hid (wr.ownsRow w.heap.size 4 1 v (secsOf (rr.reverse.take k)).length (bools (secsOf (rr.reverse.take k))))) (fun _ i _ => rr.length - (intOf i).toNat)
 case atStart => exact ⟨0,Nat.zero_le _,rfl,hide (Chg.refl _ _),hide (World.ownsRow_nil _ _ _ _)⟩
 case round =>
  obtain ⟨k,hk,rfl,HR,HO⟩:=hrel
  by_cases hlt:k < rr.length
  · obtain ⟨g,rfl,hgl,hgb,hcells⟩:=HX.out (by omega)
    obtain ⟨kn,a,n,b,hrk,e0,e1,e2,e3⟩:=regCells_at2 rr used k hlt
    have ca:=HR.out.cell (hcells _ _ e0) (by simp)
    have cb:=HR.out.cell (hcells _ _ e1) (by simp)
    have cc:=HR.out.cell (hcells _ _ e2) (by simp)
    have cd:=HR.out.cell (hcells _ _ e3) (by simp)
    have hgr:g < wr.heap.size:=by have:=HR.out.size; omega
    obtain ⟨hn1,hn2⟩:=HN.out (kn,n,b) (List.mem_reverse.1 (List.mem_of_getElem? hrk))
    have hn1:1≤n:=hn1
    have hn2:n≤2048:=hn2
    have hsn:bools (secsOf (rr.reverse.take (k + 1))) = bools (secsOf (rr.reverse.take k)) ++ List.replicate n (.bool b):=by
     rw [List.take_add_one,hrk]
     exact secs_snoc _ _
    have hsz:(secsOf (rr.reverse.take k)).length≤2048 * 1000000:=by
     have:=secs_len (rr.reverse.take k) fun p hp => (HN.out p (List.mem_reverse.1 (List.mem_of_mem_take hp))).2
     have h2:(rr.reverse.take k).length≤1000000:=by rw [List.length_take,List.length_reverse]; omega
     omega
    have HSN:=hide hsn
    obtain ⟨V,vc,rfl⟩:=own_slice HO.out
    have hrp:=fun W q hq => repeat_calls W q n b hq hn1 (by omega)
    clear hcells e0 e1 e2 e3 hsn hrk
    unfold strV at *
    go_wp2_with fail
    go_at_call 166
    have hz1:(wr.alloc (.cells #[.string ⟨(vName kn).toArray⟩,.int .i64 (a:Int),.int .i64 (n:Int),.bool b] 247)).heap.size = wr.heap.size + 1:=size_alloc _ _
    have hq0:((wr.alloc (.cells #[.string ⟨(vName kn).toArray⟩,.int .i64 (a:Int),.int .i64 (n:Int),.bool b] 247)).alloc (.cells #[.bool b] 4)).cell? ⟨wr.heap.size + 1,0,none⟩ = some (.bool b):=by
     have:=(Blk.new (wr.alloc (.cells #[.string ⟨(vName kn).toArray⟩,.int .i64 (a:Int),.int .i64 (n:Int),.bool b] 247)) 4 [.bool b]).cell' (i:=0) rfl
     rw [hz1] at this
     exact this
    refine (hrp _ (wr.heap.size + 1) hq0).mono ?_
    have hca:Chg wr ((wr.alloc (.cells #[.string ⟨(vName kn).toArray⟩,.int .i64 (a:Int),.int .i64 (n:Int),.bool b] 247)).alloc (.cells #[.bool b] 4)) []:=((Chg.refl wr []).alloc _).alloc _
    generalize (wr.alloc (.cells #[.string ⟨(vName kn).toArray⟩,.int .i64 (a:Int),.int .i64 (n:Int),.bool b] 247)).alloc (.cells #[.bool b] 4) = w2 at *
    rintro e w3 ⟨rfl,hc3,hb3⟩
    have hcR:=(HR.out.trans hca (by simp)).trans hc3 (by simp)
    have HCR:=hide hcR
    have HO3:=hide (own_chgD HO.out (hca.trans hc3 (by simp)) (by simp))
    have HB3:=hide hb3
    generalize hg2:w2.heap.size = g2 at *
    clear hz1 hq0 hca hc3 hb3 hcR hrp ca cb cc cd
    go_wp2_with (at_builtin; refine wpList_append_own _ rfl _ _ 39 rfl w.heap.size 4 i0 (.bool false) 1 1 Tryz.underlying39 hi hz0 hz1 hz2 rfl (by decide) _ (secsOf (rr.reverse.take k)).length _ rfl HO3.out ⟨g2,0,none⟩ n n (List.replicate n (.bool b)) rfl (by simp) ?c1 (rep_one b n) ?c3 ?c4 ?c5 ?_)
    case c1 =>
     intro j u hj
     rw [add_plain,Nat.zero_add]
     exact HB3.out.cell' hj
    case c3 => unfold maxLen; omega
    case c4 => omega
    case c5 => exact HCR.out.size
    intro v' w4 hown' hgrow _
    have HG:Hid (Chg w w4 []):=hide (HCR.out.trans (D':=(Value.slice V (secsOf (rr.reverse.take k)).length vc).ownBlock.toList) (Chg.of_grown hgrow (fun k hk => .inl (by simp [hk]))) (fun k hk => .inr (HO.out.lt k (by simpa using hk)).1))
    have hll:(secsOf (rr.reverse.take k)).length + n = (secsOf (rr.reverse.take (k + 1))).length:=by
     have:=congrArg List.length HSN.out
     unfold bools at this
     rw [List.length_append,List.length_map,List.length_map,List.length_replicate] at this
     omega
    have HO4:Hid (w4.ownsRow w.heap.size 4 1 v' (secsOf (rr.reverse.take (k + 1))).length (bools (secsOf (rr.reverse.take (k + 1))))):=hide (by rw [HSN.out,← hll]; exact hown')
    obtain ⟨A6,c6,hv'⟩:=own_slice hown'
    clear hown' hgrow hll
    go_wp2
    go_roundw
    case rel => exact ⟨k + 1,by omega,by go_num,HG,HO4⟩
    case measure => simp [intOf]; omega
  · have hk2:k = rr.length:=by omega
    subst hk2
    go_wp2
    go_ret
    have:=HO.out
    rw [List.take_of_length_le (by simp)] at this
    exact ⟨_,rfl,HR.out,this⟩
def dataL (s:KS):List Int:=(List.range s.used).map fun a:Nat => (findD s.data (a:Int)).getD 0
def ImgAt (w:World) (v:Value) (code data:List Int) (sec:List Bool) (ins outs:List Nat):Prop :=
 ∃ c d se i o,v = .agg #[c,d,se,i,o]∧Sl w c (u32s code)∧Sl w d (i32s data)∧Sl w se (bools sec)∧Sl w i (ints ins)∧Sl w o (ints outs)
def _root_.Go.Proofs.YtjcgiddgafjdpaaGreatDoor.Ab.KS.finOk (s:KS):Bool :=
 Nat.ble s.nc 16000 && (s.rd.all (fun p => Nat.ble p.2 1000000) && (s.ru.all (fun p => Nat.ble p.2 1000000 && Nat.ble p.1 100000) && (s.rr.all (fun p => Nat.ble 1 p.2.1 && Nat.ble p.2.1 2048) && s.data.all (fun p => Nat.blt p.1 s.used))))
theorem fin_iff {s:KS} (h:s.finOk = true):s.nc≤16000∧(∀ p∈s.rd,p.2≤1000000)∧(∀ p∈s.ru,p.2≤1000000∧p.1≤100000)∧(∀ p∈s.rr,1≤p.2.1∧p.2.1≤2048)∧(∀ p∈s.data,p.1 < s.used):=by
 unfold KS.finOk at h
 simp only [Bool.and_eq_true,List.all_eq_true,Xi.ble_iff,Xi.blt_iff] at h
 exact h
theorem fine_ks {s:KS} (h:s.finOk = true):Fine s.bm:=by
 obtain ⟨_,h1,h2,_,_⟩:=fin_iff h
 refine ⟨fun p hp => ?_,fun p hp => ?_⟩
 · obtain ⟨q,hq,rfl⟩:=List.mem_map.1 hp
   have:=h1 q (List.mem_reverse.1 hq)
   show 0≤(q.2:Int)∧(q.2:Int)≤1000000
   omega
 · obtain ⟨q,hq,rfl⟩:=List.mem_map.1 hp
   obtain ⟨h3,h4⟩:=h2 q (List.mem_reverse.1 hq)
   refine ⟨?_,?_⟩
   · show 0≤(q.2:Int)∧(q.2:Int)≤1000000
     omega
   · show (lName q.1).length≤1000000
     have:=dec_len (u:=q.1) (by omega)
     unfold lName decN8
     rw [Lib.itoa_nonneg,List.length_cons]
     omega
theorem findD_mem {l:List (Nat × Int)} {a:Int} {x:Int} (h:findD l a = some x):∃ p∈l,(p.1:Int) = a:=by
 induction l with
 | nil => cases h
 | cons p l ih =>
  obtain ⟨k,y⟩:=p
  unfold findD at h
  by_cases e:(k:Int) = a
  · exact ⟨_,List.mem_cons_self,e⟩
  · rw [if_neg e] at h
    obtain ⟨q,hq,h2⟩:=ih h
    exact ⟨q,List.mem_cons_of_mem _ hq,h2⟩
def dataUp (s:KS) (left:Lit→Bool):List Int:=(List.range s.used).map fun a:Nat => if left (.int .i64 (a:Int)) = true then 0 else (findD s.data (a:Int)).getD 0
theorem dataUp_len (s:KS) (left:Lit→Bool):(dataUp s left).length = s.used:=by simp [dataUp]
theorem dataUp_end (s:KS) {left:Lit→Bool} (h:∀ kl,left kl = false):dataUp s left = dataL s:=by
 unfold dataUp dataL
 refine List.map_congr_left fun a _ => ?_
 rw [h,if_neg (by decide)]
theorem dataUp_start (s:KS) {left:Lit→Bool} (h:∀ a:Nat,(left (.int .i64 (a:Int)) = false→findD s.data (a:Int) = none)):i32s (dataUp s left) = zeros (.int .i32 0) s.used:=by
 unfold i32s dataUp zeros
 rw [List.map_map]
 apply List.ext_getElem
 · simp
 · intro j h1 h2
   simp only [List.getElem_map,List.getElem_range,Function.comp,List.getElem_replicate]
   cases hl:left (.int .i64 (j:Int)) with
   | true => simp
   | false => simp [h j hl]
theorem dataUp_step (s:KS) {left:Lit→Bool} {a:Nat} {c:Int} (ha:a < s.used) (hc:findD s.data (a:Int) = some c) :
 dataUp s (fun z => left z && !z.sameKey (.int .i64 (a:Int))) = (dataUp s left).set a c:=by
 unfold dataUp
 apply List.ext_getElem
 · simp
 · intro j h1 h2
   have hj:j < s.used:=by simpa using h1
   rw [List.getElem_set]
   simp only [List.getElem_map,List.getElem_range]
   by_cases e:a = j
   · subst e
     rw [if_pos rfl,hc]
     have:(Lit.int .i64 (a:Int)).sameKey (.int .i64 (a:Int)) = true:=WideAt.sameKey_self trivial
     rw [this]
     simp
   · rw [if_neg e]
     have:(Lit.int .i64 (j:Int)).sameKey (.int .i64 (a:Int)) = false:=by
      cases h:(Lit.int .i64 (j:Int)).sameKey (.int .i64 (a:Int)) with
      | false => rfl
      | true => have:=WideAt.sameKey_eq h; injection this with _ h; omega
     rw [this]
     simp
theorem chk_halt:chkI ⟨43,0,0,0,0⟩ = 0:=by decide
theorem grown_setCell (w:World) (g i:Nat) (v:Value):w.grownBy (w.setCell ⟨g,i,none⟩ v) (some g) :=
 ⟨rfl,rfl,rfl,by rw [size_setCell]; exact Nat.le_refl _,fun k _ hk => heap_setCell_far w _ _ k (fun e => hk (by rw [e]))⟩
theorem sl_far {w:World} {q:Nat} {t:TypeId} {cs xs:List Value} {v:Value} (hb:Blk w q t cs) (hs:Sl w v xs) (hne:∀ u∈cs,u∉xs) (h0:0 < xs.length) (A:Addr) (n c:Nat) (he:v = .slice (some A) n c):A.block∉[q]:=by
 intro hm
 subst he
 obtain ⟨b,off,hA,hc,_⟩:=hs.at_ (k:=0) (List.getElem?_eq_getElem h0)
 injection hA with hA
 subst hA
 have hm:b = q:=by simpa using hm
 subst hm
 rw [hb.cell] at hc
 exact hne _ (List.mem_of_getElem? hc) (List.getElem_mem h0)
section
variable {w:World} {b:MP} {s:KS} {F:List Nat}
set_option maxRecDepth 100000 in
set_option maxHeartbeats 4000000 in
theorem mfinish_calls (h:KR w b s F) (hok:(s.ins ⟨43,0,0,0,0⟩).finOk = true) (hru:s.ru.length≤100000) {l:List Int} (hl:finN (s.ins ⟨43,0,0,0,0⟩) = some l) :
 Calls Tryz.prog 52 #[.pointer (some ⟨b.a,0,none⟩)] w fun e w' => ∃ v,e = .returned v∧Chg w w' F∧ImgAt w' v l (dataL s) (secsOf s.rr.reverse) s.ri.reverse s.ro.reverse:=by
 obtain ⟨i0,hi0,hz0,hz1,hz2⟩:=info_parts info_i32
 obtain ⟨p,hp,hf,rfl⟩:=h
 obtain ⟨q1,q2,q3,q4,q5⟩:=fin_iff hok
 have q1:s.nc + 1≤16000:=q1
 have HQ5:=hide (show ∀ p∈s.data,p.1 < s.used from q5)
 have hu2:=hp.wf.used
 have c0:=hp.blk.cell' (i:=0) rfl
 have hlt:=hp.blk.lt
 have hin:=fun o:Obj => (hp.chg0 ((Chg.refl w []).alloc o)).ins ⟨43,0,0,0,0⟩ chk_halt (by omega)
 unfold insVal at hin
 have hmk:=run_make_row' (P:=Tryz.prog) 38 21 (.int .i32 0) 4 Tryz.underlying38 info_i32 rfl .i64 .i64 s.used (by omega) (by omega)
 rw [madeCells_zeros] at hmk
 have HP:=hide hp
 have HQ1:=hide q1
 have HOK:=hide hok
 have HL:=hide hl
 have HQ4:=hide (show ∀ p∈s.rr,1≤p.2.1∧p.2.1≤2048 from q4)
 clear hp hf hok hl q1 q2 q3 q4 q5
 go_enter Tryz.func52,Tryz.ntmps52
 go_wp2_with fail
 go_at_call 97
 refine (hin _).mono ?_
 rintro e w1 ⟨rfl,hc1,p1,hp1,hf1,hs1⟩
 have hq2n:w.heap.size∉p.foot b.a:=fun hm => by have:=HP.out.flt _ hm; omega
 have HQ2:=hide ((Blk.new w 42 [.slice none 0 0,.slice none 0 0,.slice none 0 0,.slice none 0 0,.slice none 0 0]).chg hc1 hq2n)
 have HQ2N:=hide (far_sub hs1 hq2n (by rw [size_alloc]; omega))
 have HQ2L:=hide (show w.heap.size < w1.heap.size from (by have:=hc1.size; rw [size_alloc] at this; omega))
 have HC1:Hid (Chg w w1 (p.foot b.a)):=hide (((Chg.refl w _).alloc _).trans hc1 (fun k hk => .inl hk))
 have HP1:=hide hp1
 have d0:=hp1.blk.cell' (i:=0) rfl
 have d1:=hp1.blk.cell' (i:=1) rfl
 have d8:=hp1.blk.cell' (i:=8) rfl
 have d9:=hp1.blk.cell' (i:=9) rfl
 have d10:=hp1.blk.cell' (i:=10) rfl
 have d11:=hp1.blk.cell' (i:=11) rfl
 have d12:=hp1.blk.cell' (i:=12) rfl
 have hlt1:=hp1.blk.lt
 obtain ⟨Ai,ci,hAi⟩:=own_slice hp1.inn
 obtain ⟨Ao,co,hAo⟩:=own_slice hp1.out
 rw [hAi] at d11
 rw [hAo] at d12
 have HAI:=hide hAi
 have HAO:=hide hAo
 have HS1:=hide hs1
 clear hc1 hp1 hf1 hs1 hin c0 hAi hAo
 go_wp2_with fail
 have hb2:=Blk.new w1 42 [.slice none 0 0,.slice none 0 0,.slice none 0 0,.slice Ai s.ri.length ci,.slice Ao s.ro.length co]
 have hp2:=HP1.out.chg0 ((Chg.refl w1 []).alloc (.cells #[.slice none 0 0,.slice none 0 0,.slice none 0 0,.slice Ai s.ri.length ci,.slice Ao s.ro.length co] 42))
 have hc2:Chg w1 (w1.alloc (.cells #[.slice none 0 0,.slice none 0 0,.slice none 0 0,.slice Ai s.ri.length ci,.slice Ao s.ro.length co] 42)) []:=(Chg.refl w1 []).alloc _
 have hnq:w1.heap.size∉p1.foot b.a:=fun hm => by have:=HP1.out.flt _ hm; omega
 change Calls _ _ _ (w1.alloc (.cells #[.slice none 0 0,.slice none 0 0,.slice none 0 0,.slice Ai s.ri.length ci,.slice Ao s.ro.length co] 42)) _
 have hzq:(w1.alloc (.cells #[.slice none 0 0,.slice none 0 0,.slice none 0 0,.slice Ai s.ri.length ci,.slice Ao s.ro.length co] 42)).heap.size = w1.heap.size + 1:=size_alloc _ _
 generalize w1.alloc (.cells #[.slice none 0 0,.slice none 0 0,.slice none 0 0,.slice Ai s.ri.length ci,.slice Ao s.ro.length co] 42) = w2 at *
 have HZW:=hide hc2.size
 generalize hqm:w1.heap.size = qm at *
 go_at_call 98
 have hcl:((s.ins ⟨43,0,0,0,0⟩).bm.code.length)≤16384:=by
  show (s.ins ⟨43,0,0,0,0⟩).rc.reverse.length≤_
  rw [List.length_reverse,← HP1.out.wf.nc]
  have:=HQ1.out
  show s.nc + 1≤_
  omega
 have hfc:=finish_calls hp2.bld (fine_ks HOK.out) hcl (by show (s.ru.reverse.map _).length≤_; rw [List.length_map,List.length_reverse]; exact hru) hp2.glo.ert
 rw [finM_n HL.out] at hfc
 refine hfc.mono ?_
 rintro e w3 ⟨hc3,vc,rfl,hsl3⟩
 obtain ⟨Ac,cc,hvc,_⟩:=id hsl3
 subst hvc
 have HC3:=hide hc3
 have HSL3:=hide hsl3
 have HP3:=hide (hp2.chg0 hc3)
 have HB3:=hide (hb2.chg hc3 (by simp))
 have HC2:=hide hc2
 have HNQ:=hide hnq
 have HZQ:=hide hzq
 have f0:=HB3.out.frozen 0
 have y0:=HB3.out.cell' (i:=0) rfl
 have hlq:=HB3.out.lt
 clear hfc hc3 hsl3 hp2 hb2 hc2 hnq hzq hcl d0 d1 d8 d9 d10 d11 d12 hlt hlt1
 go_upto_region 4 with (fail)
 change Code.wp _ _ _ _ (w3.setCell ⟨qm,0,none⟩ (.slice Ac (u32s l).length cc))
 have hQq:8≤qm:=by have:=HP1.out.glo.size; omega
 have hx4:Chg w3 (w3.setCell ⟨qm,0,none⟩ (.slice Ac (u32s l).length cc)) [qm]:=(Chg.refl w3 _).setCell _ _ (.inl (by simp))
 have hqf:∀ k∈p1.foot b.a,k∉[qm]:=fun k hk hm => HNQ.out (by simp at hm; exact hm ▸ hk)
 have hp4:=HP3.out.chg hx4 hqf (fun k hk => by simp at hk; exact hk ▸ hQq)
 have hb4:=HB3.out.set_ 0 (.slice Ac (u32s l).length cc)
 have hsl4:=HSL3.out.chg0 hx4 (sl_far HB3.out HSL3.out (fun u hu hx => by
  obtain ⟨y,_,rfl⟩:=List.mem_map.1 hx
  simp at hu))
 generalize w3.setCell ⟨qm,0,none⟩ (.slice Ac (u32s l).length cc) = w4 at *
 have e1:=hp4.blk.cell' (i:=1) rfl
 have f2:=hb4.frozen 2
 have y2:=hb4.cell' (i:=2) rfl
 have hsec:=secret_calls hp4.plan HQ4.out (by have q1:s.rr.length≤s.names:=hp4.wf.cap; have q2:s.names≤100000:=hp4.wf.names; show s.rr.length≤_; omega)
 have hltb:=hp4.blk.lt
 have HP4:=hide hp4
 have HB4:=hide hb4
 have HSL4:=hide hsl4
 have HX4:=hide hx4
 have HQF:=hide hqf
 have HQQ:=hide hQq
 clear hp4 hb4 hsl4 hx4 hqf hQq f0 y0 hlq
 go_wp2_with fail
 go_at_call 99
 refine hsec.mono ?_
 rintro e w5 ⟨vs,rfl,hc5,hown5⟩
 obtain ⟨As,cs,hvs⟩:=own_slice hown5
 subst hvs
 have g2:=(HB4.out.chg hc5 (by simp)).frozen 2
 have z2:=(HB4.out.chg hc5 (by simp)).cell' (i:=2) rfl
 have hlq5:=(HB4.out.chg hc5 (by simp)).lt
 have HC5:=hide hc5
 have HO5:=hide hown5
 clear hsec hc5 hown5 f2 y2 e1
 go_upto_region 5 with (fail)
 change Code.wp _ _ _ _ (w5.setCell ⟨qm,2,none⟩ (.slice As (secsOf s.rr.reverse).length cs))
 have hx6:Chg w5 (w5.setCell ⟨qm,2,none⟩ (.slice As (secsOf s.rr.reverse).length cs)) [qm]:=(Chg.refl w5 _).setCell _ _ (.inl (by simp))
 have hp6:=(HP4.out.chg0 HC5.out).chg hx6 HQF.out (fun k hk => by simp at hk; exact hk ▸ HQQ.out)
 have hb6:=(HB4.out.chg HC5.out (by simp)).set_ 2 (.slice As (secsOf s.rr.reverse).length cs)
 have hsl6:=(HSL4.out.chg HC5.out (by simp)).chg0 hx6 (sl_far (HB4.out.chg HC5.out (by simp)) (HSL4.out.chg HC5.out (by simp)) (fun u hu hx => by
  obtain ⟨y,_,rfl⟩:=List.mem_map.1 hx
  simp at hu))
 have ho6:=own_chgD HO5.out hx6 (fun g hg hm => by
  have:=(HO5.out.lt g hg).1
  simp at hm
  have:=HB4.out.lt
  omega)
 generalize w5.setCell ⟨qm,2,none⟩ (.slice As (secsOf s.rr.reverse).length cs) = w6 at *
 have e1:=hp6.blk.cell' (i:=1) rfl
 have hltb6:=hp6.blk.lt
 have hus:Calls Tryz.prog 100 #[.pointer (some ⟨p1.pp,0,none⟩)] w6 fun e w' => e = .returned (.int .i64 (s.used:Int))∧w6 = w':=used_calls hp6.plan
 have y1:=hb6.cell' (i:=1) rfl
 have f1:=hb6.frozen 1
 have hlq6:=hb6.lt
 have HP6:=hide hp6
 have HB6:=hide hb6
 have HSL6:=hide hsl6
 have HO6:=hide ho6
 have HX6:=hide hx6
 clear hp6 hb6 hsl6 ho6 hx6 g2 z2 hlq5
 go_upto_region 6 with (go_at_call 100; refine hus.mono ?_; rintro e w7 ⟨rfl,rfl⟩)
 change Code.wp _ _ _ _ ((w6.setCell ⟨qm,1,none⟩ (.slice (some ⟨w6.heap.size,0,none⟩) s.used s.used)).alloc (.cells (zeros (.int .i32 0) s.used).toArray 21))
 have hxa:Chg w6 (w6.setCell ⟨qm,1,none⟩ (.slice (some ⟨w6.heap.size,0,none⟩) s.used s.used)) [qm]:=(Chg.refl w6 _).setCell _ _ (.inl (by simp))
 have hx7:Chg w6 ((w6.setCell ⟨qm,1,none⟩ (.slice (some ⟨w6.heap.size,0,none⟩) s.used s.used)).alloc (.cells (zeros (.int .i32 0) s.used).toArray 21)) [qm]:=hxa.alloc _
 have hp7:=HP6.out.chg hx7 HQF.out (fun k hk => by simp at hk; exact hk ▸ HQQ.out)
 have hb7:=(HB6.out.set_ 1 (.slice (some ⟨w6.heap.size,0,none⟩) s.used s.used)).alloc (.cells (zeros (.int .i32 0) s.used).toArray 21)
 have hg7:=Blk.new (w6.setCell ⟨qm,1,none⟩ (.slice (some ⟨w6.heap.size,0,none⟩) s.used s.used)) 21 (zeros (.int .i32 0) s.used)
 rw [size_setCell] at hg7
 have hsl7:=HSL6.out.chg0 hx7 (sl_far HB6.out HSL6.out (fun u hu hx => by
  obtain ⟨y,_,rfl⟩:=List.mem_map.1 hx
  simp at hu))
 have ho7:=own_chgD HO6.out hx7 (fun g hg hm => by
  have:=(HO6.out.lt g hg).1
  simp at hm
  have:=HB4.out.lt
  omega)
 have hz7:((w6.setCell ⟨qm,1,none⟩ (.slice (some ⟨w6.heap.size,0,none⟩) s.used s.used)).alloc (.cells (zeros (.int .i32 0) s.used).toArray 21)).heap.size = w6.heap.size + 1:=by rw [size_alloc,size_setCell]
 generalize ((w6.setCell ⟨qm,1,none⟩ (.slice (some ⟨w6.heap.size,0,none⟩) s.used s.used)).alloc (.cells (zeros (.int .i32 0) s.used).toArray 21)) = w7 at *
 have e2:=hp7.blk.cell' (i:=2) rfl
 have hltb7:=hp7.blk.lt
 have HZ4:=hide HB4.out.lt
 generalize hgd:w6.heap.size = gd at *
 obtain ⟨D,hown,hT,hD,hf⟩:=hp7.data
 have HP7:=hide hp7
 have HB7:=hide hb7
 have HG7:=hide hg7
 have HSL7:=hide hsl7
 have HO7:=hide ho7
 have HX7:=hide hx7
 have HZ7:=hide hz7
 have HFD:=hide hf
 have HDM:=hide hD
 clear hp7 hb7 hg7 hsl7 ho7 hx7 hxa e1 y1 f1 hlq6 hltb6 hf hD hT
 go_wp2_with (first
  | (at_range; refine wpList_range_own _ rfl _ 152 rfl 3 21 keyed_int Tryz.underlying152 _ p1.md p1.nd D rfl hown ?_; intro w8 hrg0 hg0 hs0)
  | fail)
 have hc8:Chg w7 w8 []:=Chg.of_grown hg0 (by simp)
 have HC8:=hide hc8
 generalize hr7:w7.heap.size = r at *
 obtain rfl:r = gd + 1:=by have:=HZ7.out; omega
 have hqr:qm < gd:=by have:=HB6.out.lt; omega
 have hg8:=HG7.out.chg hc8 (by simp)
 have hst:zeros (.int .i32 0) s.used = i32s (dataUp s (Maps.has D)):=(dataUp_start s (fun a ha => by
  have h1:=(HFD.out (.int .i64 (a:Int)) trivial).1
  rw [ha] at h1
  have h1:((findD s.data (a:Int)).map (Lit.int .i32)).isSome = false:=h1.symm
  cases hx:findD s.data (a:Int) with
  | none => rfl
  | some y => rw [hx] at h1; cases h1)).symm
 rw [hst] at hg8
 have HG8:=hide hg8
 clear hc8 hg8 hst hg0 hs0 e2 hown hmk
 go_frame
 go_loopw [4,5] (fun _ _ wr => ∃ (left:Lit→Bool) (cnt:Nat),wr.ranges Tryz.prog 3 (plainElem Tryz.prog 21) p1.md (gd + 1) p1.nd D left cnt∧Hid (Chg w8 wr [gd,gd + 1])∧Hid (Blk wr gd 21 (i32s (dataUp s left)))∧Hid (∀ kl,left kl = true→Maps.has D kl = true)) (fun _ _ wr => wr.rangeLeft p1.md (gd + 1))
 case atStart => exact ⟨_,_,hrg0,hide (Chg.refl _ _),HG8,hide fun _ h => h⟩
 case round =>
  obtain ⟨left,cnt,hrg,HR,HG,HL2⟩:=hrel
  go_wp2_with (at_next; refine wpList_next_ranges_ii _ rfl _ rfl 3 21 .i64 .i32 keyed_int Tryz.underlying3 Tryz.underlying21 p1.md (gd + 1) p1.nd _ _ _ rfl hrg ?_ ?_)
  · intro _ hl0
    have hWR:Chg w7 wr [gd]:=(HC8.out.more (D':=[gd]) (by simp)).trans HR.out (fun k hk => by
     simp at hk
     rcases hk with rfl | rfl
     · exact .inl (by simp)
     · exact .inr (by have:=HZ7.out; omega))
    have hq2l:w.heap.size < qm:=by have:=HQ2L.out; omega
    have n1:w.heap.size∉[qm]:=by simp; omega
    have n2:w.heap.size∉[gd]:=by simp; omega
    have hb2a:=((((HQ2.out.chg HC2.out (by simp)).chg HC3.out (by simp)).chg HX4.out n1).chg HC5.out (by simp)).chg HX6.out n1
    have hb27:=hb2a.chg HX7.out n1
    have hb2:=hb27.chg hWR n2
    have hbq:=HB7.out.chg hWR (by simp; omega)
    have x0:=hbq.cell' (i:=0) rfl
    have x1:=hbq.cell' (i:=1) rfl
    have x2:=hbq.cell' (i:=2) rfl
    have x3:=hbq.cell' (i:=3) rfl
    have x4:=hbq.cell' (i:=4) rfl
    have v0:=hb2.cell' (i:=0) rfl
    have v1:=hb2.cell' (i:=1) rfl
    have v2:=hb2.cell' (i:=2) rfl
    have v3:=hb2.cell' (i:=3) rfl
    have v4:=hb2.cell' (i:=4) rfl
    have k0:=hb2.frozen 0
    have k1:=hb2.frozen 1
    have k2:=hb2.frozen 2
    have k3:=hb2.frozen 3
    have k4:=hb2.frozen 4
    have hblt:=hb2.lt
    have HB2:=hide hb2
    have HB2A:=hide hb2a
    have HB27:=hide hb27
    have HWR:=hide hWR
    have HL0:=hide hl0
    clear hb2 hb2a hb27 hWR hbq hl0 hrg hltb7 n1 n2
    go_wp2
    have hfb:=((((HB2.out.set_ 0 (.slice Ac (u32s l).length cc)).set_ 1 (.slice (some ⟨gd,0,none⟩) s.used s.used)).set_ 2 (.slice As (secsOf s.rr.reverse).length cs)).set_ 3 (.slice Ai s.ri.length ci)).set_ 4 (.slice Ao s.ro.length co)
    have hcf:Chg wr (((((wr.setCell ⟨w.heap.size,0,none⟩ (.slice Ac (u32s l).length cc)).setCell ⟨w.heap.size,1,none⟩ (.slice (some ⟨gd,0,none⟩) s.used s.used)).setCell ⟨w.heap.size,2,none⟩ (.slice As (secsOf s.rr.reverse).length cs)).setCell ⟨w.heap.size,3,none⟩ (.slice Ai s.ri.length ci)).setCell ⟨w.heap.size,4,none⟩ (.slice Ao s.ro.length co)) [w.heap.size]:=((((((Chg.refl wr [w.heap.size]).setCell _ _ (.inl (List.mem_singleton.2 rfl))).setCell _ _ (.inl (List.mem_singleton.2 rfl))).setCell _ _ (.inl (List.mem_singleton.2 rfl))).setCell _ _ (.inl (List.mem_singleton.2 rfl))).setCell _ _ (.inl (List.mem_singleton.2 rfl)))
    refine bodyPost_ret (v:=.agg #[.slice Ac (u32s l).length cc,.slice (some ⟨gd,0,none⟩) s.used s.used,.slice As (secsOf s.rr.reverse).length cs,.slice Ai s.ri.length ci,.slice Ao s.ro.length co]) (results_cell_row rfl _ _ w.heap.size 42 _ (0,0) _ rfl hfb Tryz.underlying42 rfl (by kernel_rfl)) rfl ?_
    generalize (((((wr.setCell ⟨w.heap.size,0,none⟩ (.slice Ac (u32s l).length cc)).setCell ⟨w.heap.size,1,none⟩ (.slice (some ⟨gd,0,none⟩) s.used s.used)).setCell ⟨w.heap.size,2,none⟩ (.slice As (secsOf s.rr.reverse).length cs)).setCell ⟨w.heap.size,3,none⟩ (.slice Ai s.ri.length ci)).setCell ⟨w.heap.size,4,none⟩ (.slice Ao s.ro.length co)) = wf at *
    have hz12:=HC2.out.size
    have hz23:=HC3.out.size
    have hz34:=HX4.out.size
    have hz45:=HC5.out.size
    have hz56:=HX6.out.size
    have hzx:=HB4.out.lt
    have hcF:Chg w7 wf [gd,w.heap.size]:=(HWR.out.more (D':=[gd,w.heap.size]) (fun k hk => .inl (by simp at hk ⊢; exact .inl hk))).trans hcf (fun k hk => .inl (by simp at hk ⊢; exact .inr hk))
    have hcA:Chg w w7 (p.foot b.a):=by
     have h1:Chg w1 w7 []:=(((((HC2.out.trans HC3.out (by simp)).trans HX4.out (fun k hk => by simp at hk; exact .inr (by omega))).trans HC5.out (by simp)).trans HX6.out (fun k hk => by simp at hk; exact .inr (by omega))).trans HX7.out (fun k hk => by simp at hk; exact .inr (by omega)))
     exact HC1.out.trans h1 (by simp)
    refine ⟨_,rfl,hcA.trans hcF (fun k hk => ?_),_,_,_,_,_,rfl,?_,?_,?_,?_,?_⟩
    · simp at hk
      rcases hk with rfl | rfl
      · exact .inr (by have:=HC1.out.size; omega)
      · exact .inr (Nat.le_refl _)
    · refine HSL7.out.chg0 hcF (fun h0 A n c he hm => ?_)
      have hfar:=sl_far HB27.out HSL7.out (fun u hu hx => by
       obtain ⟨y,_,rfl⟩:=List.mem_map.1 hx
       simp at hu) h0 A n c he
      simp at hm hfar
      rcases hm with hm | hm
      · have h6:=HSL6.out
        rw [he] at h6
        obtain ⟨b',off,hA,_,hlt'⟩:=h6.at_ (k:=0) (List.getElem?_eq_getElem h0)
        injection hA with hA
        subst hA
        simp at hm
        omega
      · exact hfar hm
    · have hgf:=(HG.out.chg hcf (by simp; omega))
      rw [dataUp_end s HL0.out] at hgf
      have hlen:s.used = (i32s (dataL s)).length:=by simp [i32s,dataL]
      exact Sl.blk' hgf hlen (Nat.le_refl _)
    · refine (Sl.own HO7.out).chg hcF (fun A n c he hm => ?_)
      injection he with he1 he2 he3
      have hob:(Value.slice As (secsOf s.rr.reverse).length cs).ownBlock = some A.block:=by rw [he1]; rfl
      have h1:=HO6.out.lt A.block hob
      simp at hm
      omega
    · have hin7 : Sl w7 (.slice Ai s.ri.length ci) (ints s.ri.reverse) := by
       have:=Sl.own HP7.out.inn
       rw [HAI.out] at this
       exact this
      refine hin7.chg hcF (fun A n c he hm => ?_)
      injection he with he1 he2 he3
      have hob:A.block∈p1.foot b.a:=KP.mem_part (i:=7) (by show A.block∈p1.iv.ownBlock.toList; rw [HAI.out,he1]; simp [Value.ownBlock])
      have h1:=HP6.out.flt _ hob
      simp at hm
      rcases hm with hm | hm
      · omega
      · exact HQ2N.out (hm ▸ hob)
    · have hin7 : Sl w7 (.slice Ao s.ro.length co) (ints s.ro.reverse) := by
       have:=Sl.own HP7.out.out
       rw [HAO.out] at this
       exact this
      refine hin7.chg hcF (fun A n c he hm => ?_)
      injection he with he1 he2 he3
      have hob:A.block∈p1.foot b.a:=KP.mem_part (i:=8) (by show A.block∈p1.ov.ownBlock.toList; rw [HAO.out,he1]; simp [Value.ownBlock])
      have h1:=HP6.out.flt _ hob
      simp at hm
      rcases hm with hm | hm
      · omega
      · exact HQ2N.out (hm ▸ hob)
  · intro x c w9 cnt1 hwx hwc hlx hat hrg1 hlt1 hg1 hs1 hen
    have hc9:Chg wr w9 [gd + 1]:=Chg.of_grown hg1 (fun k hk => by injection hk with hk; exact .inl (by subst hk; simp))
    have hfx:findD s.data x = some c:=by
     obtain ⟨h1,h2⟩:=HFD.out (.int .i64 x) trivial
     rw [HL2.out _ hlx] at h1
     have h1:true = ((findD s.data x).map (Lit.int .i32)).isSome:=h1
     have h2:∀ z,D.atKey (.int .i64 x) (.lit z) = .lit (((findD s.data x).map (Lit.int .i32)).getD z):=h2
     cases hx:findD s.data x with
     | none => rw [hx] at h1; cases h1
     | some y =>
      rw [hx] at h2
      have h3:=(h2 (.int .i32 0)).symm.trans (hat _)
      simp at h3
      rw [h3]
    obtain ⟨q,hq,hqx⟩:=findD_mem hfx
    have hqu:=HQ5.out q hq
    obtain ⟨a,rfl⟩:∃ a:Nat,x = (a:Int):=⟨q.1,hqx.symm⟩
    have hqa:q.1 = a:=by omega
    rw [hqa] at hqu
    have HFX:=hide hfx
    have hWR:Chg w7 wr [gd]:=(HC8.out.more (D':=[gd]) (by simp)).trans HR.out (fun k hk => by
     simp at hk
     rcases hk with rfl | rfl
     · exact .inl (by simp)
     · exact .inr (by have:=HZ7.out; omega))
    have hgd9:=HG.out.chg hc9 (by simp)
    have hqm9:=(HB7.out.chg hWR (by simp; omega)).chg hc9 (by simp; omega)
    have x1:=hqm9.cell' (i:=1) rfl
    have hln:a < (dataUp s left).length:=by rw [dataUp_len]; exact hqu
    have xa:=hgd9.cell' (i32s_at _ a hln)
    have fa:=hgd9.frozen a
    have hgl:=hgd9.lt
    have hia:decide ((a:Int) < 0) = false:=decide_eq_false (by omega)
    have hib:decide ((a:Int) < (s.used:Int)) = true:=decide_eq_true (by omega)
    have HG9:=hide hgd9
    have HC9:=hide hc9
    have HRG:=hide hrg1
    have HRG0:=hide hrg
    have HLT:=hide hlt1
    have hne1:some p1.md≠some gd:=fun e => by
     injection e with e
     have:=HP6.out.flt p1.md (KP.mem_part (i:=3) (by simp [KP.part]))
     omega
    clear hgd9 hqm9 hWR hc9 hfx hrg1 hrg hlt1 hg1 hq hqx hlx hat
    go_wp2
    go_roundw
    case rel =>
     refine ⟨_,cnt1,HRG.out.kept (grown_setCell _ _ _ _) hne1 (by simp),hide ((HR.out.trans (HC9.out.more (D':=[gd,gd + 1]) (fun k hk => .inl (by simp at hk ⊢; exact .inr hk))) (fun k hk => .inl hk)).setCell ⟨gd,a,none⟩ _ (.inl (by simp))),hide ?_,hide ?_⟩
     · rw [dataUp_step s hqu HFX.out,i32s_set]
       exact HG9.out.set_ a (.int .i32 c)
     · intro kl hkl
       simp only [Bool.and_eq_true] at hkl
       exact HL2.out kl hkl.1
    case measure =>
     rw [(HRG.out.kept (grown_setCell _ gd a (.int .i32 c)) hne1 (by simp)).left_eq,HRG0.out.left_eq]
     exact HLT.out
end
end Go.Proofs.YtjcgiddgafjdpaaGreatDoor

/- Xi: runs on a maker of programs: calls that are handed the maker answer words of memory, and go on with its state. -/
namespace Go.Proofs.YtjcgiddgafjdpaaGreatDoor.Xi
open Go Go.RowKit Go.Proofs.YtjcgiddgafjdpaaGreatDoor.Ab
set_option linter.unusedVariables false
set_option linter.unusedSimpArgs false
theorem list_of_blk {w:World} {g:Nat} {t t':TypeId} {l l':List Value} (h:Blk w g t l) (h':Blk w g t' l'):l = l':=by
 unfold Blk at h h'
 rw [h] at h'
 injection h' with h'
 injection h' with h'
 have:=congrArg Array.toList h'
 simpa using this
theorem PB.uniq {w:World} {b:Nat} {bm bm':BM} {F F':List Nat} (h:PB w b bm F) (h':PB w b bm' F'):F = F':=by
 obtain ⟨t,m,cv,uv,n,hp,rfl,_⟩:=h
 obtain ⟨t',m',cv',uv',n',hp',rfl,_⟩:=h'
 have e:=list_of_blk hp.blk hp'.blk
 simp at e
 obtain ⟨rfl,rfl⟩:=e
 have e:=list_of_blk hp.tab.blk hp'.tab.blk
 simp at e
 obtain ⟨rfl,rfl⟩:=e
 rfl
theorem KR.uniq {w:World} {b:MP} {s s':KS} {F F':List Nat} (h:KR w b s F) (h':KR w b s' F'):F = F':=by
 obtain ⟨p,hp,_,rfl⟩:=h
 obtain ⟨p',hp',_,rfl⟩:=h'
 have e:=list_of_blk hp.blk hp'.blk
 simp at e
 obtain ⟨e1,e2,e3,e4,e5,e6,e7,e8,e9,e10⟩:=e
 have hb:=hp.bld
 rw [e1] at hb
 have f1:=PB.uniq hb hp'.bld
 have hpl:=hp.plan.blk
 rw [e2] at hpl
 have e:=list_of_blk hpl hp'.plan.blk
 simp at e
 unfold KP.foot
 rw [f1,e2,e3,e4,e5,e6,e9,e10,e.2]
open Classical in
noncomputable def fpK (b:MP) (s:KS) (w:World):List Nat:=if h:∃ F,KR w b s F then h.choose else []
theorem fpK_eq {b:MP} {s:KS} {w:World} {F:List Nat} (h:KR w b s F):fpK b s w = F:=by
 unfold fpK
 rw [dif_pos ⟨F,h⟩]
 exact KR.uniq (Exists.choose_spec (⟨F,h⟩:∃ F,KR w b s F)) h
theorem Fr.some_chgK {w w':World} {D:Nat→Prop} (h:Fr w w' D):∃ L:List Nat,Chg w w' L∧∀ k∈L,D k:=by
 classical
 refine ⟨(List.range w.heap.size).filter fun k => decide (D k),⟨h.os,h.tape,h.output,h.size,fun k hk hn => h.block k hk fun hd => hn ?_⟩,fun k hk => ?_⟩
 · simp [List.mem_filter,hk,hd]
 · have:=(List.mem_filter.1 hk).2
   simpa using this
def Same (G:Nat→Option Obj) (w:World):Prop:=∀ g,g < 8→w.heap[g]? = G g
theorem Same.chg {G:Nat→Option Obj} {w w':World} {L:List Nat} (h:Same G w) (hz:8≤w.heap.size) (hc:Chg w w' L) (hL:∀ k∈L,8≤k):Same G w':=fun g hg => by
 rw [hc.block g (by omega) (fun hm => by have:=hL g hm; omega)]
 exact h g hg
def SameX (G:Nat→Option Obj) (X:List Nat) (w:World):Prop:=∀ g∈X,g < w.heap.size∧w.heap[g]? = G g
def kpX (X:List Nat):List Nat:=List.range 8 ++ X
theorem SameX.chg {G:Nat→Option Obj} {X:List Nat} {w w':World} {L:List Nat} (h:SameX G X w) (hc:Chg w w' L) (hL:∀ g∈X,g∉L):SameX G X w':=fun g hg => by
 obtain ⟨h1,h2⟩:=h g hg
 exact ⟨Nat.lt_of_lt_of_le h1 hc.size,(hc.block g h1 (hL g hg)).trans h2⟩
theorem wide_of {F1 F:List Nat} {w:World} {R:List Nat} (hs:Sub F1 F w):∀ k∈F1 ++ R,k∈F ++ R∨w.heap.size≤k:=fun k hk => by
 rcases List.mem_append.1 hk with hk | hk
 · exact (hs k hk).imp_left (List.mem_append_left _)
 · exact .inl (List.mem_append_right _ hk)
theorem chg_same {G:Nat→Option Obj} {X:List Nat} {w w':World} {F:List Nat} (hf:Fr w w' (·∈F ++ kpX X)) (h:Same G w) (h':Same G w') (hx:SameX G X w) (hx':SameX G X w'):Chg w w' F :=
 ⟨hf.os,hf.tape,hf.output,hf.size,fun k hk hn => by
   by_cases hq:k < 8
   · rw [h k hq,h' k hq]
   · by_cases hX:k∈X
     · rw [(hx k hX).2,(hx' k hX).2]
     · exact hf.block k hk (fun hm => by
        rcases List.mem_append.1 hm with hm | hm
        · exact hn hm
        · rcases List.mem_append.1 hm with hm | hm
          · exact hq (List.mem_range.1 hm)
          · exact hX hm)⟩
theorem Chg.wideK {w w':World} {F:List Nat} {R:List Nat} (h:Chg w w' F):Chg w w' (F ++ R):=h.more fun k hk => .inl (List.mem_append_left _ hk)
theorem far_new {X F F':List Nat} {w:World} {G:Nat→Option Obj} (hx:SameX G X w) (h:∀ g∈X,g∉F) (hs:Sub F' F w):∀ g∈X,g∉F':=fun g hg hm => by
 have:=(hx g hg).1
 rcases hs g hm with h1 | h1
 · exact h g hg h1
 · omega
noncomputable def MakerM (b:MP) (G:Nat→Option Obj) (X:List Nat):Mach Tryz.prog where
 σ:=KS
 I:=fun s w => (∃ F,KR w b s F∧∀ g∈X,g∉F)∧Same G w∧SameX G X w
 fp:=fun s w => fpK b s w ++ kpX X
 lt:=fun s w ⟨⟨F,h,hX⟩,_,hS⟩ d hd => by
  rw [fpK_eq h] at hd
  rcases List.mem_append.1 hd with hd | hd
  · exact h.lt d hd
  · rcases List.mem_append.1 hd with hd | hd
    · have:=List.mem_range.1 hd; have:=h.glo.size; omega
    · exact (hS d hd).1
 keep:=fun s w w' D ⟨⟨F,h,hX⟩,hG,hS⟩ hf hD => by
  rw [fpK_eq h] at hD
  obtain ⟨L,hc,hL⟩:=hf.some_chgK
  have hq:∀ k∈L,8≤k:=fun k hk => by
   have:=hD k (hL k hk)
   simp only [kpX,List.mem_append,List.mem_range,not_or] at this
   omega
  have hx:∀ g∈X,g∉L:=fun g hg hm => hD g (hL g hm) (List.mem_append_right _ (List.mem_append_right _ hg))
  have h':KR w' b s F:=h.chg hc (fun k hk hm => hD k (hL k hm) (List.mem_append_left _ hk)) hq
  exact ⟨⟨⟨F,h',hX⟩,hG.chg h.glo.size hc hq,hS.chg hc hx⟩,by rw [fpK_eq h,fpK_eq h']⟩
 step:=fun s f cas v s' => ∀ (w:World) (args:List Value) (F:List Nat),KR w b s F→ArgsOk (F ++ kpX X) w args cas→Calls Tryz.prog f args.toArray w (MkP v s' b F w)
 beg:=fun s f recv n i s1 => f = 408∧recv = .pointer (some ⟨b.a,0,none⟩)∧∃ m:Nat,n = (m:Int)∧i = .int .i64 (s.used:Int)∧s1 = s.beg m∧s.can 1 = true∧1≤m∧m≤32767∧s.depth≤10
 fin:=fun s s2 f s' => f = 408∧s' = s2.fin (s.names + 2)∧s2.depth = s.depth + 1∧s2.nc≤799980
 step_ok:=fun s w f args cas v s' ⟨⟨F,h,hX⟩,hG,hS⟩ ha hs => by
  rw [fpK_eq h] at ha
  refine (hs w args F h ha).mono fun e w' hq => ?_
  obtain ⟨he,hc,F',hsub,hk⟩:=hq
  refine ⟨he,⟨⟨F',hk,far_new hS hX hsub⟩,hG.chg h.glo.size hc h.high,hS.chg hc hX⟩,?_,fun d hd => ?_⟩
  · rw [fpK_eq h]
    exact Fr.of_chg (Chg.wideK hc)
  · rw [fpK_eq hk] at hd
    rw [fpK_eq h]
    exact wide_of hsub d hd
 loop_ok:=fun s w f recv n i bf first cap s1 s2 s' ⟨⟨F,h,hX⟩,hG,hS⟩ hb hf hcl hbody => by
  obtain ⟨rfl,rfl,m,rfl,rfl,rfl,hcan,hm1,hm2,hd⟩:=hb
  obtain ⟨_,rfl,hd2,hn2⟩:=hf
  have hnc:=(can_iff hcan).2.2
  refine (mloop_calls h m bf first.toArray cap.toArray s2 hd hm1 hm2 hcan hnc hd2 (by omega) hcl fun w1 F1 hk1 hc1 hs1 => ?_).mono fun e w' hq => ?_
  · have hG1:=hG.chg h.glo.size hc1 h.high
    have hS1:=hS.chg hc1 hX
    have hX1:=far_new hS hX hs1
    have hb1:=hbody w1 ⟨⟨F1,hk1,hX1⟩,hG1,hS1⟩ (by rw [fpK_eq h]; exact Fr.of_chg (Chg.wideK hc1)) (fun d hd => by
     rw [fpK_eq hk1] at hd
     rw [fpK_eq h]
     exact wide_of hs1 d hd)
    rw [show first.toArray ++ #[Value.int .i64 (s.used:Int)] ++ cap.toArray = (first ++ [Value.int .i64 (s.used:Int)] ++ cap).toArray by simp]
    refine hb1.mono fun e w2 hq => ?_
    obtain ⟨he,⟨⟨F2,hk2,hX2⟩,hG2,hS2⟩,hf2,hg2⟩:=hq
    rw [fpK_eq hk1] at hf2 hg2
    rw [fpK_eq hk2] at hg2
    refine ⟨he,chg_same hf2 hG1 hG2 hS1 hS2,F2,fun k hk => ?_,hk2⟩
    rcases hg2 k (List.mem_append_left _ hk) with h1 | h1
    · rcases List.mem_append.1 h1 with h1 | h1
      · exact .inl h1
      · rcases List.mem_append.1 h1 with h1 | h1
        · have:=List.mem_range.1 h1; have:=hk2.high k hk; omega
        · exact absurd hk (hX2 k h1)
    · exact .inr h1
  · obtain ⟨he,hc,F',hsub,hk⟩:=hq
    refine ⟨he,⟨⟨F',hk,far_new hS hX hsub⟩,hG.chg h.glo.size hc h.high,hS.chg hc hX⟩,?_,fun d hd => ?_⟩
    · rw [fpK_eq h]
      exact Fr.of_chg (Chg.wideK hc)
    · rw [fpK_eq hk] at hd
      rw [fpK_eq h]
      exact wide_of hsub d hd
inductive KA where
 | bare (p:Addr)
 | n (x:Nat)
 | c (x:Int)
 | li (l:List Int)
 | ln (l:List Nat)
def KA.Is (fp:List Nat) (w:World):KA→Value→Prop
 | .bare p,v => v = .pointer (some p)
 | .n x,v => v = .int .i64 (x:Int)
 | .c x,v => v = .int .i32 x∧In32 x
 | .li l,v => Sl w v (i32s l)∧∀ A n c,v = .slice (some A) n c→A.block∉fp
 | .ln l,v => Sl w v (ints l)∧∀ A n c,v = .slice (some A) n c→A.block∉fp
def KAsIs (fp:List Nat) (w:World):List KA→List Value→Prop
 | [],[] => True
 | a :: l,v :: vs => a.Is fp w v∧KAsIs fp w l vs
 | _,_ => False
def pkn (ρ:List Nat):AV→Option Nat
 | .opq i => nth ρ i
 | .lit (.int .i64 (.ofNat m)) => some m
 | _ => none
def pki:List AV→Option (List Int)
 | [] => some []
 | .lit (.int .i32 n) :: l => match pki l with | some r => some (n :: r) | none => none
 | _ => none
def pkil (ρ:List Nat):List AV→Option (List Nat)
 | [] => some []
 | a :: l => match pkn ρ a with
  | some x => (match pkil ρ l with | some xs => some (x :: xs) | none => none)
  | none => none
def pk1 (ρ:List Nat):EA→Option KA
 | .v (.lit (.pointer (some p))) => some (.bare p)
 | .v (.lit (.int .i32 n)) => bif (Lit.int .i32 n).wf then some (.c n) else none
 | .v a => match pkn ρ a with | some x => some (.n x) | none => none
 | .l cs => match pki cs with
  | some l => some (.li l)
  | none => match pkil ρ cs with
   | some l => some (.ln l)
   | none => none
def pks (ρ:List Nat):List EA→Option (List KA)
 | [] => some []
 | a :: l => match pk1 ρ a,pks ρ l with | some x,some xs => some (x :: xs) | _,_ => none
def ptrsK:List KA→List Addr
 | [] => []
 | .bare p :: l => p :: ptrsK l
 | _ :: l => ptrsK l
def ExtN (ρ:List Nat) (ρF:Nat→Value):Prop:=∀ (i x:Nat),ρ[i]? = some x→ρF i = .int .i64 (x:Int)
theorem ExtN.of_append {ρ τ:List Nat} {ρF:Nat→Value} (h:ExtN (ρ ++ τ) ρF):ExtN ρ ρF:=fun i v hv => h i v (by
 have:=(List.getElem?_eq_some_iff.1 hv).1
 rw [List.getElem?_append_left this]; exact hv)
theorem pkn_ok {ρ:List Nat} {ρF:Nat→Value} (hF:ExtN ρ ρF) {a:AV} {x:Nat} (h:pkn ρ a = some x):a.conc (E0 ρF) = .int .i64 (x:Int):=by
 unfold pkn at h
 split at h
 · rw [nth_eq] at h
   exact hF _ x h
 · injection h with h
   subst h
   rfl
 · cases h
theorem pki_ok {ρF:Nat→Value}:∀ {l:List AV} {r:List Int},pki l = some r→concL (E0 ρF) l = i32s r
 | [],r,h => by unfold pki at h; injection h with h; subst h; rfl
 | .lit v :: l,r,h => by
  cases v with
  | int k n =>
   cases k with
   | i32 =>
    unfold pki at h
    cases hl:pki l with
    | none => rw [hl] at h; cases h
    | some q =>
     rw [hl] at h
     injection h with h
     subst h
     have:=pki_ok (ρF:=ρF) hl
     show Value.int .i32 n :: concL (E0 ρF) l = Value.int .i32 n :: i32s q
     rw [this]
   | _ => unfold pki at h; cases h
  | _ => unfold pki at h; cases h
 | .opq _ :: _,_,h => by unfold pki at h; cases h
 | .ptr _ _ :: _,_,h => by unfold pki at h; cases h
 | .slc _ _ _ _ :: _,_,h => by unfold pki at h; cases h
 | .row _ _ :: _,_,h => by unfold pki at h; cases h
 | .fn _ _ _ :: _,_,h => by unfold pki at h; cases h
 | .ifc _ _ :: _,_,h => by unfold pki at h; cases h
 | .agg _ :: _,_,h => by unfold pki at h; cases h
 | .tup _ :: _,_,h => by unfold pki at h; cases h
theorem pkil_ok {ρ:List Nat} {ρF:Nat→Value} (hF:ExtN ρ ρF):∀ {l:List AV} {r:List Nat},pkil ρ l = some r→concL (E0 ρF) l = ints r
 | [],r,h => by unfold pkil at h; injection h with h; subst h; rfl
 | a :: l,r,h => by
  unfold pkil at h
  cases h1:pkn ρ a with
  | none => rw [h1] at h; cases h
  | some x =>
   rw [h1] at h
   simp only [] at h
   cases h2:pkil ρ l with
   | none => rw [h2] at h; cases h
   | some xs =>
    rw [h2] at h
    injection h with h
    subst h
    show a.conc (E0 ρF) :: concL (E0 ρF) l = .int .i64 (x:Int) :: ints xs
    rw [pkn_ok hF h1,pkil_ok hF h2]
theorem in32_wf {n:Int} (h:(Lit.int .i32 n).wf = true):In32 n:=by
 simp only [Lit.wf,IntKind.min,IntKind.max,IntKind.signed,IntKind.bits] at h
 simp at h
 unfold In32
 omega
theorem pk1_ok {ρ:List Nat} {ρF:Nat→Value} (hF:ExtN ρ ρF) {fp:List Nat} {w:World} {v:Value} {a:EA} {m:KA} (h:pk1 ρ a = some m) (hv:ArgOk fp w v (a.conc (E0 ρF))):m.Is fp w v:=by
 unfold pk1 at h
 split at h
 · injection h with h
   subst h
   exact hv
 · rename_i n
   cases hw:(Lit.int .i32 n).wf with
   | false => rw [hw] at h; cases h
   | true =>
    rw [hw] at h
    injection h with h
    subst h
    exact ⟨hv,in32_wf hw⟩
 · rename_i a' _ _
   cases hp:pkn ρ a' with
   | none => rw [hp] at h; cases h
   | some x =>
    rw [hp] at h
    injection h with h
    subst h
    have e:v = a'.conc (E0 ρF):=hv
    rw [pkn_ok hF hp] at e
    exact e
 · rename_i cs
   cases hp:pki cs with
   | none =>
    rw [hp] at h
    simp only [] at h
    cases hq:pkil ρ cs with
    | none => rw [hq] at h; cases h
    | some l =>
     rw [hq] at h
     injection h with h
     subst h
     obtain ⟨h1,h2⟩:=hv
     rw [pkil_ok hF hq] at h1
     exact ⟨h1,h2⟩
   | some l =>
    rw [hp] at h
    injection h with h
    subst h
    obtain ⟨h1,h2⟩:=hv
    rw [pki_ok hp] at h1
    exact ⟨h1,h2⟩
theorem pks_ok {ρ:List Nat} {ρF:Nat→Value} (hF:ExtN ρ ρF) {fp:List Nat} {w:World}:∀ {l:List EA} {us:List KA} {args:List Value},pks ρ l = some us→ArgsOk fp w args (l.map (EA.conc (E0 ρF)))→KAsIs fp w us args
 | [],us,args,h,ha => by
  unfold pks at h; injection h with h; subst h
  cases args with
  | nil => trivial
  | cons _ _ => exact ha.elim
 | a :: l,us,args,h,ha => by
  unfold pks at h
  cases h1:pk1 ρ a with
  | none => rw [h1] at h; cases h
  | some x =>
   cases h2:pks ρ l with
   | none => rw [h1,h2] at h; cases h
   | some ys =>
    rw [h1,h2] at h
    injection h with h
    subst h
    cases args with
    | nil => exact ha.elim
    | cons v vs => exact ⟨pk1_ok hF h1 ha.1,pks_ok hF h2 ha.2⟩
def stepK {γ:Type} (f:FuncId) (us:List KA) (s:KS) (k:Option Nat→KS→Option γ):Option γ :=
 bif Nat.beq f 406 then (match us with | [.bare _,.n op,.n a,.n c] => opR s op a c none fun x s' => k (some x) s' | _ => none)
 else bif Nat.beq f 405 then (match us with | [.bare _,.c n] => constR s n none fun x s' => k (some x) s' | _ => none)
 else bif Nat.beq f 77 then (match us with | [.bare _,.n v] => cellR s v none fun x s' => k (some x) s' | _ => none)
 else bif Nat.beq f 46 then (match us with | [.bare _,.n v] => cellR s v none fun x s' => k (some x) s' | _ => none)
 else bif Nat.beq f 50 then (match us with | [.bare _,.n c,.n v] => setR s c v none fun s' => k none s' | _ => none)
 else bif Nat.beq f 404 then (match us with | [.bare _,.n t,.n i] => atR s t i none fun x s' => k (some x) s' | _ => none)
 else bif Nat.beq f 409 then (match us with | [.bare _,.li l] => tableR s l none fun x s' => k (some x) s' | _ => none)
 else bif Nat.beq f 407 then (match us with | [.bare _,.ln l] => fillR s l none fun x s' => k (some x) s' | _ => none)
 else none
def ovK:Option Nat→Value
 | some x => .int .i64 (x:Int)
 | none => .tuple #[]
theorem ka2 {fp:List Nat} {w:World} {a c:KA} {args:List Value} (h:KAsIs fp w [a,c] args):∃ v1 v2,args = [v1,v2]∧a.Is fp w v1∧c.Is fp w v2:=by
 match args,h with
 | [v1,v2],⟨h1,h2,_⟩ => exact ⟨v1,v2,rfl,h1,h2⟩
theorem ka3 {fp:List Nat} {w:World} {a c d:KA} {args:List Value} (h:KAsIs fp w [a,c,d] args):∃ v1 v2 v3,args = [v1,v2,v3]∧a.Is fp w v1∧c.Is fp w v2∧d.Is fp w v3:=by
 match args,h with
 | [v1,v2,v3],⟨h1,h2,h3,_⟩ => exact ⟨v1,v2,v3,rfl,h1,h2,h3⟩
theorem ka4 {fp:List Nat} {w:World} {a c d e:KA} {args:List Value} (h:KAsIs fp w [a,c,d,e] args):∃ v1 v2 v3 v4,args = [v1,v2,v3,v4]∧a.Is fp w v1∧c.Is fp w v2∧d.Is fp w v3∧e.Is fp w v4:=by
 match args,h with
 | [v1,v2,v3,v4],⟨h1,h2,h3,h4,_⟩ => exact ⟨v1,v2,v3,v4,rfl,h1,h2,h3,h4⟩
theorem stepK_ok {γ:Type} {b:MP} {R:List Nat} {f:FuncId} {us:List KA} {s:KS} {k:Option Nat→KS→Option γ} {y:γ} (h:stepK f us s k = some y) :
 ∃ o s',k o s' = some y∧((∀ p∈ptrsK us,p = ⟨b.a,0,none⟩)→∀ (w:World) (args:List Value) (F:List Nat),KR w b s F→KAsIs (F ++ R) w us args→Calls Tryz.prog f args.toArray w (MkP (ovK o) s' b F w)):=by
 unfold stepK at h
 cases h1:Nat.beq f 406 with
 | true =>
  rw [h1] at h
  obtain rfl:=beq_iff.1 h1
  simp only [cond_true] at h
  split at h
  · rename_i p op a c
    obtain ⟨g1,g2,g3,g4,g5,g6⟩:=opR_ok h
    refine ⟨_,_,g6,fun hp w args F hk ha => ?_⟩
    obtain rfl:=hp p (by simp [ptrsK])
    obtain ⟨v1,v2,v3,v4,rfl,rfl,rfl,rfl,rfl⟩:=ka4 ha
    exact do_calls hk op a c g2 g3 g4 g5 g1
  · cases h
 | false =>
 rw [h1] at h
 cases h2:Nat.beq f 405 with
 | true =>
  rw [h2] at h
  obtain rfl:=beq_iff.1 h2
  simp only [cond_true,cond_false] at h
  split at h
  · rename_i p n
    obtain ⟨g1,g2⟩:=constR_ok h
    refine ⟨_,_,g2,fun hp w args F hk ha => ?_⟩
    obtain rfl:=hp p (by simp [ptrsK])
    obtain ⟨v1,v2,rfl,rfl,rfl,hn⟩:=ka2 ha
    exact const_calls hk n hn g1
  · cases h
 | false =>
 rw [h2] at h
 cases h3:Nat.beq f 77 with
 | true =>
  rw [h3] at h
  obtain rfl:=beq_iff.1 h3
  simp only [cond_true,cond_false] at h
  split at h
  · rename_i p v
    obtain ⟨g1,g2,g3⟩:=cellR_ok h
    refine ⟨_,_,g3,fun hp w args F hk ha => ?_⟩
    obtain rfl:=hp p (by simp [ptrsK])
    obtain ⟨v1,v2,rfl,rfl,rfl⟩:=ka2 ha
    exact cell_calls hk v g2 g1
  · cases h
 | false =>
 rw [h3] at h
 cases h4:Nat.beq f 46 with
 | true =>
  rw [h4] at h
  obtain rfl:=beq_iff.1 h4
  simp only [cond_true,cond_false] at h
  split at h
  · rename_i p v
    obtain ⟨g1,g2,g3⟩:=cellR_ok h
    refine ⟨_,_,g3,fun hp w args F hk ha => ?_⟩
    obtain rfl:=hp p (by simp [ptrsK])
    obtain ⟨v1,v2,rfl,rfl,rfl⟩:=ka2 ha
    exact get_calls hk v g2 g1
  · cases h
 | false =>
 rw [h4] at h
 cases h5:Nat.beq f 50 with
 | true =>
  rw [h5] at h
  obtain rfl:=beq_iff.1 h5
  simp only [cond_true,cond_false] at h
  split at h
  · rename_i p c v
    obtain ⟨g1,g2,g3,g4⟩:=setR_ok h
    refine ⟨_,_,g4,fun hp w args F hk ha => ?_⟩
    obtain rfl:=hp p (by simp [ptrsK])
    obtain ⟨v1,v2,v3,rfl,rfl,rfl,rfl⟩:=ka3 ha
    exact mset_calls hk c v g3 g2 (by have:=(can_iff g1).2.2; omega)
  · cases h
 | false =>
 rw [h5] at h
 cases h6:Nat.beq f 404 with
 | true =>
  rw [h6] at h
  obtain rfl:=beq_iff.1 h6
  simp only [cond_true,cond_false] at h
  split at h
  · rename_i p t i
    obtain ⟨g1,g2,a,g3,g4,g5⟩:=atR_ok h
    refine ⟨_,_,g5,fun hp w args F hk ha => ?_⟩
    obtain rfl:=hp p (by simp [ptrsK])
    obtain ⟨v1,v2,v3,rfl,rfl,rfl,rfl⟩:=ka3 ha
    exact mat_calls hk t i a g3 g4 g2 g1
  · cases h
 | false =>
 rw [h6] at h
 cases h7:Nat.beq f 409 with
 | true =>
  rw [h7] at h
  obtain rfl:=beq_iff.1 h7
  simp only [cond_true,cond_false] at h
  split at h
  · rename_i p l
    obtain ⟨g1,g2,g3,g4⟩:=tableR_ok h
    refine ⟨_,_,g4,fun hp w args F hk ha => ?_⟩
    obtain rfl:=hp p (by simp [ptrsK])
    obtain ⟨v1,v2,rfl,rfl,hs,hd⟩:=ka2 ha
    exact mtable_calls hk hs (fun A n c e hm => hd A n c e (List.mem_append_left _ hm)) (fun x hx => in32_wf (g3 x hx)) g2 g1
  · cases h
 | false =>
 rw [h7] at h
 cases h8:Nat.beq f 407 with
 | true =>
  rw [h8] at h
  obtain rfl:=beq_iff.1 h8
  simp only [cond_true,cond_false] at h
  split at h
  · rename_i p l
    obtain ⟨g1,g2,g3,g4,g5⟩:=fillR_ok h
    refine ⟨_,_,g5,fun hp w args F hk ha => ?_⟩
    obtain rfl:=hp p (by simp [ptrsK])
    obtain ⟨v1,v2,rfl,rfl,hs,hd⟩:=ka2 ha
    exact mfill_calls hk hs (fun A n c e hm => hd A n c e (List.mem_append_left _ hm)) g3 g2 g1 g4
  · cases h
 | false =>
 rw [h8] at h
 simp only [cond_false] at h
 cases h
def loopArgs (r:AV) (n:Int):Option (Addr × Nat):=match r with
 | .lit (.pointer (some p)) => (match n with | .ofNat m => some (p,m) | _ => none)
 | _ => none
theorem loopArgs_ok {r:AV} {n:Int} {p:Addr} {m:Nat} (h:loopArgs r n = some (p,m)):r = .lit (.pointer (some p))∧n = (m:Int):=by
 unfold loopArgs at h
 split at h
 · split at h
   · injection h with h
     injection h with h1 h2
     subst h1 h2
     exact ⟨rfl,rfl⟩
   · cases h
 · cases h
def runK {γ:Type}:Nat→List Ev→List Nat→List Addr→KS→(List Nat→List Addr→KS→Option γ)→Option γ
 | 0,_,_,_,_,_ => none
 | f + 1,δ,ρ,ps,s,k => match δ with
  | [] => k ρ ps s
  | .call g args out :: l => (match pks ρ args with
   | some us => stepK g us s fun o s' => (match o with
    | some x => (match out with
     | .opq i => bif Nat.beq i (lenL ρ) then fL (ρ ++ [x]) fun ρ' => runK f l ρ' (ptrsK us ++ ps) s' k else none
     | _ => none)
    | none => (match out with
     | .tup [] => runK f l ρ (ptrsK us ++ ps) s' k
     | _ => none))
   | none => none)
  | .loop g r n i body :: l => (match loopArgs r n with
   | some (p,m) => bif Nat.beq g 408 && Nat.beq i (lenL ρ) then begR s m none fun s1 => fL (ρ ++ [s.used]) fun ρ1 => runK f body ρ1 (p :: ps) s1 fun ρ2 ps2 s2 => finR s2 s.depth (s.names + 2) none fun s' => runK f l ρ2 ps2 s' k else none
   | none => none)
  | .prim _ _ _ :: _ => none
theorem ext_at {ρ:List Nat} {x:Nat} {ρF:Nat→Value} (h:ExtN (ρ ++ [x]) ρF):ρF (lenL ρ) = .int .i64 (x:Int):=h _ _ (by unfold lenL; simp)
theorem runK_ok {γ:Type} {b:MP} {G:Nat→Option Obj} {X:List Nat} {y:γ}:∀ (f:Nat) {δ:List Ev} {ρ:List Nat} {ps:List Addr} {s:KS} {k:List Nat→List Addr→KS→Option γ},runK f δ ρ ps s k = some y →
 ∃ ρ' ps' s',k ρ' ps' s' = some y∧(∃ τ,ρ' = ρ ++ τ)∧(∃ σ,ps' = σ ++ ps)∧∀ ρF,(∀ p∈ps',p = ⟨b.a,0,none⟩)→ExtN ρ' ρF→RunL (MakerM b G X) ρF δ s s'
 | 0,δ,ρ,ps,s,k,h => by unfold runK at h; cases h
 | f + 1,[],ρ,ps,s,k,h => ⟨ρ,ps,s,h,⟨[],by simp⟩,⟨[],by simp⟩,fun _ _ _ => rfl⟩
 | f + 1,.call g args out :: l,ρ,ps,s,k,h => by
  unfold runK at h
  simp only [] at h
  cases hu:pks ρ args with
  | none => rw [hu] at h; cases h
  | some us =>
   rw [hu] at h
   simp only [] at h
   obtain ⟨o,s1,hk,hc⟩:=stepK_ok (b:=b) (R:=kpX X) h
   cases o with
   | some x =>
    simp only [] at hk
    split at hk
    · rename_i i
      cases hi:Nat.beq i (lenL ρ) with
      | false => rw [hi] at hk; cases hk
      | true =>
       rw [hi] at hk
       obtain rfl:=beq_iff.1 hi
       simp only [cond_true,fL_eq] at hk
       obtain ⟨ρ',ps',s',h1,⟨τ,rfl⟩,⟨σ,rfl⟩,h4⟩:=runK_ok (b:=b) (G:=G) (X:=X) f hk
       refine ⟨_,_,s',h1,⟨x :: τ,by simp⟩,⟨σ ++ ptrsK us,by simp⟩,fun ρF hps hF => ⟨s1,?_,h4 ρF hps hF⟩⟩
       show (MakerM b G X).step s g (args.map (EA.conc (E0 ρF))) (ρF (lenL ρ)) s1
       rw [ext_at hF.of_append]
       exact fun w xs F hkr hxs => hc (fun p hp => hps p (by simp [hp])) w xs F hkr (pks_ok hF.of_append.of_append hu hxs)
    · cases hk
   | none =>
    simp only [] at hk
    split at hk
    · obtain ⟨ρ',ps',s',h1,⟨τ,rfl⟩,⟨σ,rfl⟩,h4⟩:=runK_ok (b:=b) (G:=G) (X:=X) f hk
      refine ⟨_,_,s',h1,⟨τ,rfl⟩,⟨σ ++ ptrsK us,by simp⟩,fun ρF hps hF => ⟨s1,?_,h4 ρF hps hF⟩⟩
      exact fun w xs F hkr hxs => hc (fun p hp => hps p (by simp [hp])) w xs F hkr (pks_ok hF.of_append hu hxs)
    · cases hk
 | f + 1,.prim _ _ _ :: l,ρ,ps,s,k,h => by unfold runK at h; cases h
 | f + 1,.loop g r n i body :: l,ρ,ps,s,k,h => by
  unfold runK at h
  simp only [] at h
  cases hla:loopArgs r n with
  | none => rw [hla] at h; cases h
  | some q =>
   obtain ⟨p,m⟩:=q
   rw [hla] at h
   simp only [] at h
   obtain ⟨rfl,rfl⟩:=loopArgs_ok hla
   have hq:=cond_some h
   clear h hla
   obtain ⟨hc,h⟩:=hq
   simp only [Bool.and_eq_true] at hc
   obtain ⟨hg,hi⟩:=hc
   have hg:=beq_iff.1 hg
   have hi:=beq_iff.1 hi
   obtain ⟨g1,g2,g3,g4,h⟩:=begR_ok h
   simp only [fL_eq] at h
   obtain ⟨ρ2,ps2,s2,h,⟨τ,rfl⟩,⟨σ,rfl⟩,hb⟩:=runK_ok (b:=b) (G:=G) (X:=X) f h
   obtain ⟨g5,g6,h⟩:=finR_ok h
   obtain ⟨ρ',ps',s',h1,⟨τ',rfl⟩,⟨σ',rfl⟩,h4⟩:=runK_ok (b:=b) (G:=G) (X:=X) f h
   refine ⟨_,_,s',h1,⟨s.used :: (τ ++ τ'),by simp⟩,⟨σ' ++ σ ++ [p],by simp⟩,fun ρF hps hF => ⟨s2.fin (s.names + 2),?_,h4 ρF hps hF⟩⟩
   refine ⟨s.beg m,s2,⟨hg,?_,m,rfl,?_,rfl,g1,g2,g3,g4⟩,hb ρF (fun q hq => hps q (List.mem_append_right _ hq)) hF.of_append,⟨hg,rfl,g5,g6⟩⟩
   · rw [← hps p (by simp)]
     rfl
   · rw [hi]
     exact ext_at hF.of_append.of_append
inductive KO where
 | one (x:Nat)
 | tup (l:List Nat)
 | arr (l:List Nat)
def intV (x:Nat):Value:=.int .i64 (x:Int)
def KO.val:KO→Value
 | .one x => intV x
 | .tup l => .tuple (l.map intV).toArray
 | .arr l => .agg (l.map intV).toArray
def pknL (ρ:List Nat):List AV→Option (List Nat)
 | [] => some []
 | a :: l => match pkn ρ a,pknL ρ l with | some x,some xs => some (x :: xs) | _,_ => none
theorem pknL_ok {ρ:List Nat} {ρF:Nat→Value} (hF:ExtN ρ ρF):∀ {l:List AV} {xs:List Nat},pknL ρ l = some xs→concL (E0 ρF) l = xs.map intV
 | [],xs,h => by unfold pknL at h; injection h with h; subst h; rfl
 | a :: l,xs,h => by
  unfold pknL at h
  cases h1:pkn ρ a with
  | none => rw [h1] at h; cases h
  | some x =>
   cases h2:pknL ρ l with
   | none => rw [h1,h2] at h; cases h
   | some ys =>
    rw [h1,h2] at h
    injection h with h
    subst h
    show a.conc (E0 ρF) :: concL (E0 ρF) l = _
    rw [pkn_ok hF h1,pknL_ok hF h2]
    rfl
end Go.Proofs.YtjcgiddgafjdpaaGreatDoor.Xi

/- Xi: what a run on a maker sees of the program. -/
namespace Go.Proofs.YtjcgiddgafjdpaaGreatDoor.Xi
open Go Go.RowKit Go.Proofs.YtjcgiddgafjdpaaGreatDoor.Ab
set_option linter.unusedVariables false
theorem mk_Const (a : Addr) (w : World) : (method 542 88 (.pointer (some a)) "Const").run Tryz.prog w = .ok (405, .pointer (some a)) w := by kernel_rfl
theorem mk_Do (a : Addr) (w : World) : (method 542 88 (.pointer (some a)) "Do").run Tryz.prog w = .ok (406, .pointer (some a)) w := by kernel_rfl
theorem mk_Cell (a : Addr) (w : World) : (method 542 88 (.pointer (some a)) "Cell").run Tryz.prog w = .ok (77, .pointer (some a)) w := by kernel_rfl
theorem mk_Get (a : Addr) (w : World) : (method 542 88 (.pointer (some a)) "Get").run Tryz.prog w = .ok (46, .pointer (some a)) w := by kernel_rfl
theorem mk_Set (a : Addr) (w : World) : (method 542 88 (.pointer (some a)) "Set").run Tryz.prog w = .ok (50, .pointer (some a)) w := by kernel_rfl
theorem mk_At (a : Addr) (w : World) : (method 542 88 (.pointer (some a)) "At").run Tryz.prog w = .ok (404, .pointer (some a)) w := by kernel_rfl
theorem mk_Table (a : Addr) (w : World) : (method 542 88 (.pointer (some a)) "Table").run Tryz.prog w = .ok (409, .pointer (some a)) w := by kernel_rfl
theorem mk_Fill (a : Addr) (w : World) : (method 542 88 (.pointer (some a)) "Fill").run Tryz.prog w = .ok (407, .pointer (some a)) w := by kernel_rfl
theorem mk_Loop (a : Addr) (w : World) : (method 542 88 (.pointer (some a)) "Loop").run Tryz.prog w = .ok (408, .pointer (some a)) w := by kernel_rfl
def mtK (n:String):Option FuncId:=match n with
 | "Const" => some 405
 | "Do" => some 406
 | "Cell" => some 77
 | "Get" => some 46
 | "Set" => some 50
 | "Loop" => some 408
 | "At" => some 404
 | "Table" => some 409
 | "Fill" => some 407
 | _ => none
set_option maxRecDepth 100000 in
theorem types_fuel:Tryz.prog.types.size + Made.depth = 542:=by kernel_rfl
set_option maxRecDepth 100000 in
theorem mtK_ok {n:String} {g:FuncId} (h:mtK n = some g) (a:Addr) (w:World):(method (Tryz.prog.types.size + Made.depth) 88 (.pointer (some a)) n).run Tryz.prog w = .ok (g,.pointer (some a)) w:=by
 rw [types_fuel]
 unfold mtK at h
 split at h
 · obtain rfl:=Option.some.inj h
   exact mk_Const a w
 · obtain rfl:=Option.some.inj h
   exact mk_Do a w
 · obtain rfl:=Option.some.inj h
   exact mk_Cell a w
 · obtain rfl:=Option.some.inj h
   exact mk_Get a w
 · obtain rfl:=Option.some.inj h
   exact mk_Set a w
 · obtain rfl:=Option.some.inj h
   exact mk_Loop a w
 · obtain rfl:=Option.some.inj h
   exact mk_At a w
 · obtain rfl:=Option.some.inj h
   exact mk_Table a w
 · obtain rfl:=Option.some.inj h
   exact mk_Fill a w
 · cases h
noncomputable def cxK:Cx where
 P:=Tryz.prog
 ev:=fun f _ nv => bif Nat.beq f 50 then some (.tup [],0) else bif Nat.beq f 406 || (Nat.beq f 405 || (Nat.beq f 77 || (Nat.beq f 46 || (Nat.beq f 404 || (Nat.beq f 409 || Nat.beq f 407))))) then some (.opq nv,1) else none
 lp:=fun f => Nat.beq f 408
 mt:=fun t n => bif Nat.beq t 88 then mtK n else none
 br:=fun _ => none
set_option maxRecDepth 100000 in
theorem cxK_mt:MtOk cxK:=fun t n g h a w => by
 have h':(bif Nat.beq t 88 then mtK n else none) = some g:=h
 cases ht:Nat.beq t 88 with
 | false => rw [ht] at h'; cases h'
 | true =>
  rw [ht] at h'
  rw [beq_iff] at ht
  subst ht
  exact mtK_ok h' a w
def wkK (b:MP):AV:=.agg [.ifc 88 (.lit (.pointer (some ⟨b.a,0,none⟩)))]
end Go.Proofs.YtjcgiddgafjdpaaGreatDoor.Xi

/- A kernel's image: what all have in common. -/
namespace Go.Proofs.YtjcgiddgafjdpaaGreatDoor
open Go Go.RowKit Go.Deep Go.Maps Go.Proofs.YtjcgiddgafjdpaaGreatDoor.Ab Go.Proofs.YtjcgiddgafjdpaaGreatDoor.Xi
set_option linter.unusedVariables false
attribute [local go_sem] Oper.semAt_some
set_option maxRecDepth 100000 in
theorem work_calls (b:Nat) (w:World):Calls Tryz.prog 48 #[.pointer (some ⟨b,0,none⟩)] w fun e w' => e = .returned (.agg #[.iface 88 (.pointer (some ⟨b,0,none⟩))])∧Chg w w' []:=by
 go_enter Tryz.func48,Tryz.ntmps48
 go_wp2
 have hb:=Blk.new w 105 [.iface 88 (.pointer (some ⟨b,0,none⟩))]
 refine bodyPost_ret (v:=.agg #[.iface 88 (.pointer (some ⟨b,0,none⟩))]) (results_cell_row rfl _ _ w.heap.size 105 _ (0,0) _ rfl hb Tryz.underlying105 rfl (by kernel_rfl)) rfl ⟨rfl,(Chg.refl w []).alloc _⟩
def nil5:List Value:=[.slice none 0 0,.slice none 0 0,.slice none 0 0,.slice none 0 0,.slice none 0 0]
theorem ImgAt.far {w w':World} {v:Value} {code data:List Int} {sec:List Bool} {ins outs:List Nat} {q:Nat} (h:ImgAt w v code data sec ins outs) (hb:Blk w q 42 nil5) (hc:Chg w w' [q]):ImgAt w' v code data sec ins outs:=by
 obtain ⟨c,d,se,i,o,rfl,h1,h2,h3,h4,h5⟩:=h
 refine ⟨c,d,se,i,o,rfl,h1.chg0 hc (sl_far hb h1 ?_),h2.chg0 hc (sl_far hb h2 ?_),h3.chg0 hc (sl_far hb h3 ?_),h4.chg0 hc (sl_far hb h4 ?_),h5.chg0 hc (sl_far hb h5 ?_)⟩
 all_goals
  intro u hu hx
  obtain ⟨y,_,rfl⟩:=List.mem_map.1 hx
  simp [nil5] at hu
end Go.Proofs.YtjcgiddgafjdpaaGreatDoor

/- Xi: runs on a maker that are given slices, and may answer slices. -/
namespace Go.Proofs.YtjcgiddgafjdpaaGreatDoor.Xi
open Go Go.RowKit Go.Proofs.YtjcgiddgafjdpaaGreatDoor.Ab
set_option linter.unusedVariables false
set_option linter.unusedSimpArgs false
inductive KE where
 | num (x:Nat)
 | arr (l:List Nat)
 | sli (l:List Nat)
def KE.ca:KE→CA
 | .num x => CA.v (intV x)
 | .arr l => CA.v (.agg (l.map intV).toArray)
 | .sli l => CA.l (l.map intV)
def pke (ρ:List Nat):EA→Option KE
 | .v (.agg cs) => match pknL ρ cs with | some l => some (.arr l) | none => none
 | .v a => match pkn ρ a with | some x => some (.num x) | none => none
 | .l cs => match pknL ρ cs with | some l => some (.sli l) | none => none
def pkes (ρ:List Nat):List EA→Option (List KE)
 | [] => some []
 | x :: l => match pke ρ x,pkes ρ l with | some y,some ys => some (y :: ys) | _,_ => none
theorem pke_ok {ρ:List Nat} {ρF:Nat→Value} (hF:ExtN ρ ρF) {x:EA} {y:KE} (h:pke ρ x = some y):x.conc (E0 ρF) = y.ca:=by
 unfold pke at h
 split at h
 · rename_i cs
   cases hl:pknL ρ cs with
   | none => rw [hl] at h; cases h
   | some xs =>
    rw [hl] at h
    injection h with h
    subst h
    show CA.v (.agg (concL (E0 ρF) cs).toArray) = _
    rw [pknL_ok hF hl]
    rfl
 · rename_i a _
   cases hl:pkn ρ a with
   | none => rw [hl] at h; cases h
   | some xs =>
    rw [hl] at h
    injection h with h
    subst h
    show CA.v (a.conc (E0 ρF)) = _
    rw [pkn_ok hF hl]
    rfl
 · rename_i cs
   cases hl:pknL ρ cs with
   | none => rw [hl] at h; cases h
   | some xs =>
    rw [hl] at h
    injection h with h
    subst h
    show CA.l (concL (E0 ρF) cs) = _
    rw [pknL_ok hF hl]
    rfl
theorem pkes_ok {ρ:List Nat} {ρF:Nat→Value} (hF:ExtN ρ ρF):∀ {l:List EA} {ys:List KE},pkes ρ l = some ys→l.map (EA.conc (E0 ρF)) = ys.map KE.ca
 | [],ys,h => by unfold pkes at h; injection h with h; subst h; rfl
 | x :: l,ys,h => by
  unfold pkes at h
  cases h1:pke ρ x with
  | none => rw [h1] at h; cases h
  | some y =>
   cases h2:pkes ρ l with
   | none => rw [h1,h2] at h; cases h
   | some zs =>
    rw [h1,h2] at h
    injection h with h
    subst h
    simp only [List.map_cons]
    rw [pke_ok hF h1,pkes_ok hF h2]
theorem ArgsOk.sub {fp fp':List Nat} {w:World} (hs:∀ k∈fp',k∈fp):∀ {l:List Value} {cs:List CA},ArgsOk fp w l cs→ArgsOk fp' w l cs
 | [],[],_ => trivial
 | a :: l,.v x :: cs,h => ⟨h.1,ArgsOk.sub hs h.2⟩
 | a :: l,.l xs :: cs,h => ⟨⟨h.1.1,fun A n c e hm => h.1.2 A n c e (hs _ hm)⟩,ArgsOk.sub hs h.2⟩
 | [],_ :: _,h => h.elim
 | _ :: _,[],h => h.elim
theorem extN_S (ρ:List Nat) (ss:List Value):ExtN ρ (ρS (ρ.map intV) ss):=fun i x hx => by
 have hi:i < ρ.length:=(List.getElem?_eq_some_iff.1 hx).1
 unfold ρS
 rw [if_pos (by simpa using hi),List.getD,List.getElem?_map,hx]
 rfl
theorem lenL_map {ρ:List Nat}:lenL (ρ.map intV) = lenL ρ:=by unfold lenL; simp
noncomputable def cxKV (vws:List (List AV)):Cx:={ cxK with vw:=vwOf vws }
end Go.Proofs.YtjcgiddgafjdpaaGreatDoor.Xi

/- The filter's image: the runs. -/
namespace Go.Proofs.YtjcgiddgafjdpaaGreatDoor
open Go Go.RowKit Go.Proofs.YtjcgiddgafjdpaaGreatDoor.Ab Go.Proofs.YtjcgiddgafjdpaaGreatDoor.Xi
set_option linter.unusedVariables false
set_option maxRecDepth 100000
noncomputable def cxF:Cx:={ cxKV [opqs 20 0] with ev:=fun f args nv => bif Nat.beq f 84 then some (.tup [.agg (opqs 4 nv),.opq (nv + 4),.opq (nv + 5)],6) else cxK.ev f args nv }
noncomputable def rF (b:MP):Option (AV × G × List Xi.Ev):=aCall cxF 5000 47 [wkK b,.lit (.int .i64 0),.vw 1000000 0 20,.agg (opqs 7 20)] ⟨.nil,0,27⟩
def sArgs (b:MP):List AV:=[wkK b,.agg (opqs 4 0),.agg (opqs 3 4),.agg (opqs 3 7),.agg (opqs 3 10)]
noncomputable def rS (b:MP):Option (AV × G × List Xi.Ev):=aCall (cxKV []) 5000 84 (sArgs b) ⟨.nil,0,13⟩
def dF (r:Option (AV × G × List Xi.Ev)):List Xi.Ev:=match r with | some (_,_,δ) => δ | none => []
def endF (r:Option (AV × G × List Xi.Ev)) (ρ:List Nat) (ps:List Addr) (s:KS):Option (Bool × List KE × List Nat × List Addr × KS):=match r with
 | some (v,g,_) => (match eouts g v with | some (t,xs) => (match pkes ρ xs with | some os => some (t,os,ρ,ps,s) | none => none) | none => none)
 | none => none
end Go.Proofs.YtjcgiddgafjdpaaGreatDoor

/- A run on a maker that was reckoned in pieces. -/
namespace Go.Proofs.YtjcgiddgafjdpaaGreatDoor.Xi
open Go Go.RowKit Go.Proofs.YtjcgiddgafjdpaaGreatDoor.Ab
set_option linter.unusedVariables false
set_option linter.unusedSimpArgs false
theorem makerv_calls2 {b:MP} {cx:Cx} {fuel:Nat} {f:FuncId} {vws:List (List AV)} {args:List AV} {ins:List Nat} {s s':KS} {t:Bool} {os:List KE} (hP:cx.P = Tryz.prog) (hmix:cx.P.follows .mixedOrders = true) (hmt:MtOk cx) (hvw:cx.vw = vwOf vws)
 {v:AV} {g':G} {δ:List Ev} {ρ τ:List Nat} {xs:List EA} (hc:aCall cx fuel f args ⟨.nil,0,lenL ins⟩ = some (v,g',δ)) (hkk:(ltL 0 args && inVL (lenL ins) args && okV (lenL ins) vws) = true) (hτ:ρ = ins ++ τ) (hlen:Nat.ble (lenL ρ) 1000000 = true) (he:eouts g' v = some (t,xs)) (hx:pkes ρ xs = some os)
 (hrun:∀ (H:Nat→Option Obj) (X:List Nat) (ρF:Nat→Value),ExtN ρ ρF→RunL (MakerM b H X) ρF δ s s') (w:World) {F:List Nat} (hk:KR w b s F) (ss:List Value)
 (hss:∀ (i:Nat) cs,vws[i]? = some cs→∃ v,ss[i]? = some v∧Sl w v (concL (getE (ins.map intV)) cs)) (hsF:∀ v∈ss,∀ k,blkOf v = some k→k∉F) (h1:∀ v∈ss,v.oneCell' = true) {vals:List Value} (hvs:concL (E0 (ρS (ins.map intV) ss)) args = vals) :
 Calls Tryz.prog f vals.toArray w fun e w' => ∃ us F',e = .returned (outV t us)∧Chg w w' F∧Sub F' F w∧KR w' b s' F'∧ArgsOk F' w' us (os.map KE.ca):=by
 obtain ⟨P,ev,lp,mt,br,vw⟩:=cx
 obtain rfl:P = Tryz.prog:=hP
 obtain rfl:vw = vwOf vws:=hvw
 simp only [Bool.and_eq_true] at hkk
 obtain ⟨⟨k1,k2⟩,k3⟩:=hkk
 rw [ble_iff] at hlen
 have hlen':ρ.length≤1000000:=hlen
 have hF:ExtN ρ (ρS (ρ.map intV) ss):=extN_S ρ ss
 have hone:∀ i,(ρS (ρ.map intV) ss i).oneCell' = true:=fun i => by
  unfold ρS
  split
  · rename_i hi
    have hi':i < ρ.length:=by simpa using hi
    rw [List.getD,List.getElem?_map,List.getElem?_eq_getElem hi']
    rfl
  · cases hj:ss[i - 1000000]? with
    | none => rw [List.getD,hj]; rfl
    | some u => rw [List.getD,hj]; exact h1 u (List.mem_of_getElem? hj)
 have hFi:Ext (ins.map intV) (ρS (ρ.map intV) ss):=by
  have:=ρS_ext (ρ.map intV) ss
  rw [hτ,List.map_append] at this ⊢
  exact this.of_append
 have hvk:∀ i cs,vwOf vws i = some cs→∃ b a n c,ρS (ρ.map intV) ss i = .slice (some ⟨b,a,none⟩) n c∧cs.length≤c∧ltL 0 cs = true∧b∈ss.filterMap blkOf∧b < w.heap.size∧∀ k v,cs[k]? = some v→∀ E:Env,E.ρ = ρS (ρ.map intV) ss→w.cell? ⟨b,a + k,none⟩ = some (v.conc E):=fun i cs hi => by
  unfold vwOf at hi
  cases hb:Nat.ble 1000000 i with
  | false => rw [hb] at hi; cases hi
  | true =>
   rw [hb] at hi
   rw [ble_iff] at hb
   simp only [cond_true] at hi
   rw [nth_eq] at hi
   obtain ⟨z1,z2,z3⟩:=okV_ok k3 hi
   obtain ⟨u,hu,hsl⟩:=hss _ _ hi
   obtain ⟨A,c,rfl,hcap,hcell⟩:=hsl
   rw [concL_length] at hcap hcell
   obtain ⟨b,a,rfl,hcell2⟩:=hcell (by omega)
   refine ⟨b,a,cs.length,c,?_,hcap,z1,?_,?_,?_⟩
   · unfold ρS
     rw [if_neg (by simp; omega),List.getD,hu,concL_length]; rfl
   · exact List.mem_filterMap.2 ⟨_,List.mem_of_getElem? hu,rfl⟩
   · have:=hcell2 0 (by omega)
     unfold World.cell? at this
     cases hb':w.heap[b]? with
     | none =>
      simp only [hb'] at this
      rw [eq_comm,List.getElem?_eq_none_iff,concL_length] at this
      omega
     | some o => exact lt_of_heap hb'
   · intro k y hy E hE
     have hk':k < cs.length:=(List.getElem?_eq_some_iff.1 hy).1
     rw [hcell2 k hk',concL_map,List.getElem?_map,hy]
     show some (y.conc (getE (ins.map intV))) = some (y.conc E)
     have e4:concL (E0 (ρS (ρ.map intV) ss)) cs = concL (getE (ins.map intV)) cs:=knownL_conc hFi cs (by rw [lenL_map]; exact z2)
     rw [concL_map,concL_map] at e4
     have e5:=congrArg (fun l => l[k]?) e4
     simp only [List.getElem?_map,hy,Option.map_some] at e5
     rw [← e5]
     have z4:y.lt 0 = true:=by
      unfold AV.lt
      rw [blt_iff,pow_eq]
      refine lt_of_bits fun q hq => ?_
      have:=ltL_bit z1 (mskL_mem (List.mem_of_getElem? hy) hq)
      omega
     rw [conc_zero (E:=E0 (ρS (ρ.map intV) ss)) (E':=E) z4 hE]
 have hXF:∀ g∈(ss.filterMap blkOf).filter fun b => decide (b < w.heap.size),g∉F:=fun g hg => by
  obtain ⟨u,hu,hub⟩:=List.mem_filterMap.1 (List.mem_filter.1 hg).1
  exact hsF u hu g hub
 have hXs:∀ g∈(ss.filterMap blkOf).filter fun b => decide (b < w.heap.size),g < w.heap.size:=fun g hg => by
  have:=(List.mem_filter.1 hg).2
  simpa using this
 obtain ⟨_,hcall⟩:=aCall_ok (M:=MakerM b (fun g => w.heap[g]?) ((ss.filterMap blkOf).filter fun b => decide (b < w.heap.size))) (ρv:=ρS (ρ.map intV) ss) hmix hmt hone (fun i cs hi => by
  obtain ⟨b',a,n,c,y1,y2,y3,y4,y5,y6⟩:=hvk i cs hi
  refine ⟨b',a,n,c,y1,y2,y3,fun s w1 hw1 => ?_⟩
  have hm:b'∈(ss.filterMap blkOf).filter fun b => decide (b < w.heap.size):=List.mem_filter.2 ⟨y4,by simpa using y5⟩
  obtain ⟨_,_,hS⟩:=hw1
  refine ⟨List.mem_append_right _ (List.mem_append_right _ hm),fun k u hu E hE => ?_⟩
  have:=y6 k u hu E hE
  unfold World.cell? at this ⊢
  rw [show w1.heap[b']? = w.heap[b']? from (hS b' hm).2]
  exact this) fuel |>.2 f args ⟨.nil,0,lenL ins⟩ v g' δ hc
 have hrep:Rep (MakerM b (fun g => w.heap[g]?) ((ss.filterMap blkOf).filter fun b => decide (b < w.heap.size))) (E0 (ρS (ρ.map intV) ss)) s (⟨.nil,0,lenL ins⟩:G).at 0 w:=⟨⟨⟨F,hk,hXF⟩,fun _ _ => rfl,fun g hg => ⟨hXs g hg,rfl⟩⟩,(fun b B hb => by have:=at_lt hb; cases this),(fun b b' B B' hb => by have:=at_lt hb; cases this),(fun b B hb => by have:=at_lt hb; cases this),(fun b B hb => at_lt hb)⟩
 have hcl:=hcall (E0 (ρS (ρ.map intV) ss)) s s' w rfl hrep (fun u hu => by
  unfold AV.lt
  rw [blt_iff,pow_eq]
  refine lt_of_bits fun q hq => ?_
  have:=ltL_bit k1 (mskL_mem hu hq)
  omega) (hrun _ _ _ hF)
 have eargs':concL (E0 (ρS (ρ.map intV) ss)) args = vals:=by
  rw [← hvs,hτ,List.map_append]
  exact inVL_conc (by rw [← List.map_append,← hτ,List.length_map]; exact hlen') args (by rw [lenL_map]; exact k2)
 rw [eargs'] at hcl
 refine hcl.mono ?_
 rintro e w' ⟨E',rfl,hw⟩
 obtain ⟨⟨F',hk',hX'⟩,hG',hS'⟩:=hw.rep.mach
 have eρ:E'.ρ = ρS (ρ.map intV) ss:=hw.rho
 have hsub:Sub F' F w:=fun k hkF => by
  have hgr:=hw.grow k (by show k∈fpK b s' w' ++ _; rw [fpK_eq hk']; exact List.mem_append_left _ hkF)
  rcases hgr with hgr | hgr
  · have hgr:k∈fpK b s w ++ kpX ((ss.filterMap blkOf).filter fun b => decide (b < w.heap.size)):=hgr
    rw [fpK_eq hk] at hgr
    rcases List.mem_append.1 hgr with h1 | h1
    · exact .inl h1
    · rcases List.mem_append.1 h1 with h1 | h1
      · have:=List.mem_range.1 h1; have:=hk'.high k hkF; omega
      · exact absurd hkF (hX' k h1)
  · exact .inr hgr
 have hcg:Chg w w' F:=by
  have hfr:=hw.fr
  refine chg_same (X:=(ss.filterMap blkOf).filter fun b => decide (b < w.heap.size)) (hfr.more fun k _ hkd => ?_) (fun _ _ => rfl) hG' (fun g hg => ⟨hXs g hg,rfl⟩) hS'
  rcases hkd with hkd | ⟨b,B,hb,_⟩
  · have:k∈fpK b s w ++ kpX ((ss.filterMap blkOf).filter fun b => decide (b < w.heap.size)):=hkd
    rw [fpK_eq hk] at this
    exact this
  · have:=at_lt hb; cases this
 have fin:∀ {l:List AV},eargs g' l = some xs→ArgsOk F' w' (concL E' l) (os.map KE.ca):=fun {l} hl => by
  have:=eargs_spec hw.rep hl
  rw [eρ,pkes_ok hF hx] at this
  exact this.sub fun k hkF => by
   show k∈fpK b s' w' ++ _
   rw [fpK_eq hk']
   exact List.mem_append_left _ hkF
 unfold eouts at he
 split at he
 · rename_i vs _
   cases hvs':eargs g' vs with
   | none => rw [hvs'] at he; cases he
   | some l =>
    rw [hvs'] at he
    injection he with he; injection he with he1 he2
    subst he1 he2
    exact ⟨_,F',rfl,hcg,hsub,hk',fin hvs'⟩
 · cases hv':earg g' v with
   | none => rw [hv'] at he; cases he
   | some x =>
    rw [hv'] at he
    injection he with he; injection he with he1 he2
    subst he1 he2
    exact ⟨[v.conc E'],F',rfl,hcg,hsub,hk',fin (l:=[v]) (by simp only [eargs,hv'])⟩
end Go.Proofs.YtjcgiddgafjdpaaGreatDoor.Xi
