/- Texts of this claim, side by side: MkR, MkS, MkT, EmA, MakI, FirmB, Ref38A, MakM, MakR, MakS, MakT, MakU, Kimg, MakV, ImgF1, MakW. -/
import Derived.Test.YtjcgiddgafjdpaaGreatDoorFQ13
import Derived.Test.YtjcgiddgafjdpaaGreatDoorShelfM
import Derived.Laws.CopyOwn
import Derived.Laws.CopyRow
import Derived.Deep.RegionLaw
import Derived.Test.YtjcgiddgafjdpaaGreatDoorFQ1
import Derived.Maps.RangeWalk
import Derived.Laws.Rows
import Derived.Test.YtjcgiddgafjdpaaGreatDoorCoreT
import Derived.Test.YtjcgiddgafjdpaaGreatDoorFQ2
import Derived.Test.YtjcgiddgafjdpaaGreatDoorAb
import Derived.Test.YtjcgiddgafjdpaaGreatDoorXiV
import Derived.Test.YtjcgiddgafjdpaaGreatDoorFQ11
import Derived.Test.YtjcgiddgafjdpaaGreatDoorFQ16
import Derived.Test.YtjcgiddgafjdpaaGreatDoorFQ8
import Derived.Test.YtjcgiddgafjdpaaGreatDoorImgF0
/- slices.Repeat of one bool. -/
namespace Go.Proofs.YtjcgiddgafjdpaaGreatDoor
open Go Go.RowKit Go.Deep Go.Maps Go.Proofs.YtjcgiddgafjdpaaGreatDoor.Ab Go.Proofs.YtjcgiddgafjdpaaGreatDoor.Xi
set_option linter.unusedVariables false
attribute [local go_sem] Oper.semAt_some
theorem size_bool:(Tryz.prog.info? 4).map (·.size) = some 1:=by kernel_rfl
theorem DZ:(Tryz.prog.info? 4).map (fun i => (i.zero,i.size,i.bytes)) = some (some (.bool false),1,1):=by kernel_rfl
def mF (b:Bool) (k n:Nat):List Value:=List.replicate k (.bool b) ++ List.replicate (n - k) (.bool false)
theorem ad3 (b:Bool) {k n:Nat} (h:k≤n):(mF b k n).length = n:=by unfold mF; simp; omega
theorem UW (b:Bool) {k m n:Nat} (h:k + m≤n):splice (mF b k n) k (List.replicate m (.bool b)) = mF b (k + m) n:=by
 unfold splice mF
 rw [List.take_append_of_le_length (by simp),List.take_replicate,Nat.min_self,List.length_replicate,List.drop_append,List.length_replicate,List.drop_replicate,List.drop_replicate,← List.append_assoc,← List.append_assoc,List.replicate_append_replicate,Nat.sub_eq_zero_of_le (by omega:k≤k + m)]
 simp only [List.replicate_zero,List.append_nil]
 rw [show n - k - (k + m - k) = n - (k + m) by omega]
theorem aho (b:Bool) {k n j:Nat} (h:j < k):(mF b k n)[j]? = some (.bool b):=by
 unfold mF
 rw [List.getElem?_append_left (by simpa using h),List.getElem?_replicate,if_pos h]
theorem aj7 {b:Bool} {k j:Nat} {u:Value} (h:(List.replicate k (Value.bool b))[j]? = some u):j < k∧u = .bool b:=by
 rw [List.getElem?_replicate] at h
 split at h
 · rename_i hj
   injection h with h
   exact ⟨hj,h.symm⟩
 · cases h
theorem V3 (b:Bool) (k:Nat):∀ v∈List.replicate k (Value.bool b),v.oneCell' = true:=fun v hv => by
 rw [(List.mem_replicate.1 hv).2]; rfl
theorem Rq {W:World} {g m n k:Nat} {b:Bool} (hg:aC W g 4 (mF b m n)) (src:Addr) (sLen sCap dLen dCap:Nat) (hsrc:∀ j,j < k→W.cell? (src.add j) = some (.bool b)) (hk:k = Nat.min sLen dLen) (hf:m + k≤n) :
 ∃ W',(Builtin.copy_ #[39,39] 3 #[.slice (some ⟨g,m,none⟩) dLen dCap,.slice (some src) sLen sCap]).run Tryz.prog W = .ok (.int .i64 (k:Int)) W'∧aC W' g 4 (mF b (m + k) n)∧∀ (w0:World) (B:Nat),Below B w0 W→B≤g→Below B w0 W':=by
 have hr:=run_copy_row (P:=Tryz.prog) W 39 39 3 4 g m dLen dCap src sLen sCap (mF b m n).toArray 4 (List.replicate k (.bool b)) Tryz.underlying39 size_bool hg (by rw [List.length_replicate]; exact hk) (fun j v hj => by obtain ⟨h1,rfl⟩:=aj7 hj; exact hsrc j h1) (by rw [List.length_replicate]; simp only [List.size_toArray]; rw [ad3 b (by omega)]; exact hf) (V3 b k)
 rw [List.length_replicate] at hr
 have hs:=UW b (k:=m) (m:=k) (n:=n) hf
 unfold splice at hs
 rw [List.length_replicate] at hs
 rw [show ((mF b m n).toArray.toList.take m ++ List.replicate k (Value.bool b) ++ (mF b m n).toArray.toList.drop (m + k)) = mF b (m + k) n by rw [← hs,List.append_assoc]] at hr
 exact ⟨W.setRow g (mF b (m + k) n).toArray,hr,setRow_heap W g _ _ _ _ hg,fun w0 B hb hB => below_setRow hb hB _⟩
set_option maxRecDepth 100000 in
set_option maxHeartbeats 2000000 in
theorem Rt (w:World) (q n:Nat) (b:Bool) (hq:w.cell? ⟨q,0,none⟩ = some (.bool b)) (h1:1≤n) (h2:n≤3000) :
 Calls Tryz.prog 166 #[.slice (some ⟨q,0,none⟩) 1 1,.int .i64 (n:Int)] w fun e w' => e = .returned (.slice (some ⟨w.heap.size,0,none⟩) n n)∧ah w w' []∧aC w' w.heap.size 4 (List.replicate n (.bool b)):=by
 obtain ⟨i0,hi0,hz0,hz1,hz2⟩:=info_parts DZ
 have hmu:∀ W:World,Calls Tryz.prog 240 #[.int .u64 (1:Nat),.int .u64 n] W fun e w' => e = .returned (.tuple #[.int .u64 ((1 * n / 18446744073709551616:Nat):Int),.int .u64 ((1 * n % 18446744073709551616:Nat):Int)])∧W = w':=fun W => (Tryz.bits_Mul 1 n (by decide) (by omega) W).mono fun e w' ⟨h1,h2⟩ => ⟨h1,h2.symm⟩
 rw [show 1 * n / 18446744073709551616 = 0 by omega,show 1 * n % 18446744073709551616 = n by omega] at hmu
 have hmk:=run_make_row' (P:=Tryz.prog) 39 4 (.bool false) 1 Tryz.underlying39 DZ rfl .i64 .i64 n (by omega) (by omega)
 rw [kD] at hmk
 have x1:decide ((n:Int) < 0) = false:=decide_eq_false (by omega)
 have x2:decide (9223372036854775807 < (n:Int)) = false:=decide_eq_false (by omega)
 have hwu:IntKind.u64.wrap (n:Int) = (n:Int):=by rw [IntKind.wrap_u64]; omega
 have hwi:wrap64 (n:Int) = (n:Int):=by unfold wrap64; omega
 have HQ:=hide hq
 clear hq
 go_enter Tryz.func166,Tryz.ntmps166
 have hz0:zeros (.bool false) n = mF b 0 n:=by unfold zeros mF; simp
 have hb0:=aC.new w 4 (zeros (.bool false) n)
 rw [hz0] at hmk hb0
 obtain ⟨w1,hcp,hg1,hb1⟩:=Rq (k:=1) hb0 ⟨q,0,none⟩ 1 1 n n (fun j hj => by obtain rfl:j = 0:=(by omega); rw [add_plain]; exact ((ah.refl w []).alloc _).cell HQ.out (by simp)) (Nat.min_eq_left h1).symm (by omega)
 have HG1:Hid (aC w1 w.heap.size 4 (mF b 1 n)):=hide (by simpa using hg1)
 have HW1:=hide (hb1 w w.heap.size (ah.O5 ((ah.refl w []).alloc _)) (Nat.le_refl _))
 clear hb0 hz0 hg1 hb1
 go_wp2_with (go_at_call 240; refine (hmu _).mono ?_; rintro e w2 ⟨rfl,rfl⟩)
 clear hcp hmk hmu HQ
 go_loopw [8] (fun v wr => ∃ m:Nat,1≤m∧m≤n∧v = .int .i64 m∧Hid (aC wr w.heap.size 4 (mF b m n))∧Hid (Below w.heap.size w wr)) (fun v _ => n - (intOf v).toNat)
 case atStart => exact ⟨1,Nat.le_refl _,h1,rfl,HG1,HW1⟩
 case round =>
  obtain ⟨m,hm1,hm2,rfl,HG,HW⟩:=hrel
  by_cases hlt:m < n
  · have hgd:=HG.out.drew
    obtain ⟨w3,hcp,hg3,hb3⟩:=Rq (k:=min m (n - m)) hgd ⟨w.heap.size,0,none⟩ m n (n - m) (n - m) (fun j hj => by
     have hjm:j < m:=Nat.lt_of_lt_of_le hj (Nat.min_le_left _ _)
     rw [add_plain,Nat.zero_add]
     exact hgd.cell' (aho b hjm)) rfl (by have:=Nat.min_le_right m (n - m); omega)
    have hk1:1≤min m (n - m):=by omega
    have hk2:m + min m (n - m)≤n:=by omega
    have HG3:=hide hg3
    have HB3:=hide (hb3 w w.heap.size HW.out.drew (Nat.le_refl _))
    clear hgd hg3 hb3
    generalize min m (n - m) = k at *
    have hwk:IntKind.i64.wrap ((m:Int) + (k:Int)) = (m:Int) + (k:Int):=by rw [IntKind.wrap_i64]; omega
    go_wp2_with fail
    go_region_with (fail)
    all_goals
     simp only [Act.put,Array.setIfInBounds,List.getElem_toArray,List.getElem_cons_zero,List.getElem_cons_succ]
     go_simp
     go_roundw
     case rel => exact ⟨_,_,_,_,_,_,_,_,_,_,_,_,_,_,⟨m + k,by omega,hk2,by rw [Int.natCast_add],HG3,HB3⟩,rfl⟩
     case measure => simp [intOf]; omega
  · have hk2:m = n:=by omega
    subst hk2
    go_wp2
    go_ret
    refine ⟨rfl,ah.of_below HW.out,?_⟩
    have:=HG.out
    unfold mF at this
    rw [Nat.sub_self,List.replicate_zero,List.append_nil] at this
    exact this
def dA (l:List (Nat × Nat × Bool)):List Bool:=l.flatMap fun p => List.replicate p.2.1 p.2.2
def bools (l:List Bool):List Value:=l.map Value.bool
theorem abg (l:List (Nat × Nat × Bool)) (p:Nat × Nat × Bool):bools (dA (l ++ [p])) = bools (dA l) ++ List.replicate p.2.1 (.bool p.2.2):=by
 unfold dA
 rw [List.flatMap_append]
 show bools (_ ++ (List.replicate p.2.1 p.2.2 ++ [])) = _
 rw [List.append_nil]
 unfold bools
 rw [List.map_append,List.map_replicate]
theorem Ru:∀ (l:List (Nat × Nat × Bool)),(∀ p∈l,p.2.1≤2048)→(dA l).length≤l.length * 2048
 | [],_ => by simp [dA]
 | p :: l,h => by
  have ih:=Ru l fun q hq => h q (List.mem_cons_of_mem _ hq)
  have:=h p List.mem_cons_self
  unfold dA at ih ⊢
  rw [List.flatMap_cons,List.length_append,List.length_replicate,List.length_cons]
  omega
theorem D5:∀ (l:List (Nat × Nat × Bool)) (u j:Nat),j < l.length→∃ k a n b,l.reverse[j]? = some (k,n,b)∧(bT l u)[j * 4]? = some (bn (fM k))∧(bT l u)[j * 4 + 1]? = some (.int .i64 (a:Nat))∧(bT l u)[j * 4 + 2]? = some (.int .i64 (n:Nat))∧(bT l u)[j * 4 + 3]? = some (.bool b)
 | [],_,j,h => by simp at h
 | (k,n,b) :: l,u,j,h => by
  have hl:=xZ l (u - n)
  unfold bT
  rw [List.reverse_cons]
  by_cases e:j < l.length
  · obtain ⟨k',a',n',b',hx,h0,h1,h2,h3⟩:=D5 l (u - n) j e
    refine ⟨k',a',n',b',?_,?_,?_,?_,?_⟩
    · rw [List.getElem?_append_left (by simpa using e)]; exact hx
    all_goals rw [List.getElem?_append_left (by omega)]; assumption
  · have e:j = l.length:=by simp at h; omega
    subst e
    refine ⟨k,u - n,n,b,?_,?_,?_,?_,?_⟩
    · rw [List.getElem?_append_right (by simp)]; simp
    all_goals rw [List.getElem?_append_right (by omega)]
    · rw [show l.length * 4 - (bT l (u - n)).length = 0 by omega]; rfl
    · rw [show l.length * 4 + 1 - (bT l (u - n)).length = 1 by omega]; rfl
    · rw [show l.length * 4 + 2 - (bT l (u - n)).length = 2 by omega]; rfl
    · rw [show l.length * 4 + 3 - (bT l (u - n)).length = 3 by omega]; rfl
set_option maxRecDepth 100000 in
theorem YE {w:World} {pp used:Nat} {rv:Value} {rr:List (Nat × Nat × Bool)} (h:PL w pp rv used rr):Calls Tryz.prog 100 #[.pointer (some ⟨pp,0,none⟩)] w fun e w' => e = .returned (.int .i64 (used:Int))∧w = w':=by
 have c1:=h.blk.cell' (i:=1) rfl
 clear h
 go_enter Tryz.func100,Tryz.ntmps100
 go_wp2
 go_ret
 exact ⟨rfl,rfl⟩
set_option maxRecDepth 100000 in
set_option maxHeartbeats 2000000 in
theorem Rw {w:World} {pp used:Nat} {rv:Value} {rr:List (Nat × Nat × Bool)} (h:PL w pp rv used rr) (hn:∀ p∈rr,1≤p.2.1∧p.2.1≤2048) (hl:rr.length≤1000000) :
 Calls Tryz.prog 99 #[.pointer (some ⟨pp,0,none⟩)] w fun e w' => ∃ v,e = .returned v∧ah w w' []∧w'.ownsRow w.heap.size 4 1 v (dA rr.reverse).length (bools (dA rr.reverse)):=by
 obtain ⟨i0,hi,hz0,hz1,hz2⟩:=info_parts DZ
 have ha:=MV h
 obtain ⟨A,c,rfl,hx⟩:=kT h.row
 have HX:=hide hx
 have HN:=hide hn
 clear h hx hn
 go_enter Tryz.func99,Tryz.ntmps99
 go_wp2_with (go_at_call 165; refine ha.mono ?_; rintro e w1 ⟨rfl,rfl⟩)
 go_loopw [3,9] (fun v i wr => ∃ k:Nat,k≤rr.length∧i = .int .i64 k∧Hid (ah w wr [])∧Hid (wr.ownsRow w.heap.size 4 1 v (dA (rr.reverse.take k)).length (bools (dA (rr.reverse.take k))))) (fun _ i _ => rr.length - (intOf i).toNat)
 case atStart => exact ⟨0,Nat.zero_le _,rfl,hide (ah.refl _ _),hide (World.ownsRow_nil _ _ _ _)⟩
 case round =>
  obtain ⟨k,hk,rfl,HR,HO⟩:=hrel
  by_cases hlt:k < rr.length
  · obtain ⟨g,rfl,hgl,hgb,hcells⟩:=HX.out (by omega)
    obtain ⟨kn,a,n,b,hrk,e0,e1,e2,e3⟩:=D5 rr used k hlt
    have ca:=HR.out.cell (hcells _ _ e0) (by simp)
    have cb:=HR.out.cell (hcells _ _ e1) (by simp)
    have cc:=HR.out.cell (hcells _ _ e2) (by simp)
    have cd:=HR.out.cell (hcells _ _ e3) (by simp)
    have hgr:g < wr.heap.size:=by have:=HR.out.size; omega
    obtain ⟨hn1,hn2⟩:=HN.out (kn,n,b) (List.mem_reverse.1 (List.mem_of_getElem? hrk))
    have hn1:1≤n:=hn1
    have hn2:n≤2048:=hn2
    have hsn:bools (dA (rr.reverse.take (k + 1))) = bools (dA (rr.reverse.take k)) ++ List.replicate n (.bool b):=by
     rw [List.take_add_one,hrk]
     exact abg _ _
    have hsz:(dA (rr.reverse.take k)).length≤2048 * 1000000:=by
     have:=Ru (rr.reverse.take k) fun p hp => (HN.out p (List.mem_reverse.1 (List.mem_of_mem_take hp))).2
     have h2:(rr.reverse.take k).length≤1000000:=by rw [List.length_take,List.length_reverse]; omega
     omega
    have HSN:=hide hsn
    obtain ⟨V,vc,rfl⟩:=aO HO.out
    have hrp:=fun W q hq => Rt W q n b hq hn1 (by omega)
    clear hcells e0 e1 e2 e3 hsn hrk
    unfold bn at *
    go_wp2_with fail
    go_at_call 166
    have hz1:(wr.alloc (.cells #[.string ⟨(fM kn).toArray⟩,.int .i64 (a:Int),.int .i64 (n:Int),.bool b] 247)).heap.size = wr.heap.size + 1:=size_alloc _ _
    have hq0:((wr.alloc (.cells #[.string ⟨(fM kn).toArray⟩,.int .i64 (a:Int),.int .i64 (n:Int),.bool b] 247)).alloc (.cells #[.bool b] 4)).cell? ⟨wr.heap.size + 1,0,none⟩ = some (.bool b):=by
     have:=(aC.new (wr.alloc (.cells #[.string ⟨(fM kn).toArray⟩,.int .i64 (a:Int),.int .i64 (n:Int),.bool b] 247)) 4 [.bool b]).cell' (i:=0) rfl
     rw [hz1] at this
     exact this
    refine (hrp _ (wr.heap.size + 1) hq0).mono ?_
    have hca:ah wr ((wr.alloc (.cells #[.string ⟨(fM kn).toArray⟩,.int .i64 (a:Int),.int .i64 (n:Int),.bool b] 247)).alloc (.cells #[.bool b] 4)) []:=((ah.refl wr []).alloc _).alloc _
    generalize (wr.alloc (.cells #[.string ⟨(fM kn).toArray⟩,.int .i64 (a:Int),.int .i64 (n:Int),.bool b] 247)).alloc (.cells #[.bool b] 4) = w2 at *
    rintro e w3 ⟨rfl,hc3,hb3⟩
    have hcR:=(HR.out.trans hca (by simp)).trans hc3 (by simp)
    have HCR:=hide hcR
    have yS:=hide (aF HO.out (hca.trans hc3 (by simp)) (by simp))
    have HB3:=hide hb3
    generalize hg2:w2.heap.size = g2 at *
    clear hz1 hq0 hca hc3 hb3 hcR hrp ca cb cc cd
    go_wp2_with (at_builtin; refine wpList_append_own _ rfl _ _ 39 rfl w.heap.size 4 i0 (.bool false) 1 1 Tryz.underlying39 hi hz0 hz1 hz2 rfl (by decide) _ (dA (rr.reverse.take k)).length _ rfl yS.out ⟨g2,0,none⟩ n n (List.replicate n (.bool b)) rfl (by simp) ?c1 (V3 b n) ?c3 ?c4 ?c5 ?_)
    case c1 =>
     intro j u hj
     rw [add_plain,Nat.zero_add]
     exact HB3.out.cell' hj
    case c3 => unfold maxLen; omega
    case c4 => omega
    case c5 => exact HCR.out.size
    intro v' w4 hown' hgrow _
    have HG:Hid (ah w w4 []):=hide (HCR.out.trans (D':=(Value.slice V (dA (rr.reverse.take k)).length vc).ownBlock.toList) (ah.dG hgrow (fun k hk => .inl (by simp [hk]))) (fun k hk => .inr (HO.out.lt k (by simpa using hk)).1))
    have hll:(dA (rr.reverse.take k)).length + n = (dA (rr.reverse.take (k + 1))).length:=by
     have:=congrArg List.length HSN.out
     unfold bools at this
     rw [List.length_append,List.length_map,List.length_map,List.length_replicate] at this
     omega
    have kE:Hid (w4.ownsRow w.heap.size 4 1 v' (dA (rr.reverse.take (k + 1))).length (bools (dA (rr.reverse.take (k + 1))))):=hide (by rw [HSN.out,← hll]; exact hown')
    obtain ⟨A6,c6,hv'⟩:=aO hown'
    clear hown' hgrow hll
    go_wp2
    go_roundw
    case rel => exact ⟨k + 1,by omega,by go_num,HG,kE⟩
    case measure => simp [intOf]; omega
  · have hk2:k = rr.length:=by omega
    subst hk2
    go_wp2
    go_ret
    have:=HO.out
    rw [List.take_of_length_le (by simp)] at this
    exact ⟨_,rfl,HR.out,this⟩
def EY (s:KS):List Int:=(List.range s.used).map fun a:Nat => (findD s.data (a:Int)).getD 0
def um (w:World) (v:Value) (code data:List Int) (sec:List Bool) (ins outs:List Nat):Prop :=
 ∃ c d se i o,v = .agg #[c,d,se,i,o]∧Sl w c (iG code)∧Sl w d (aZ data)∧Sl w se (bools sec)∧Sl w i (ints ins)∧Sl w o (ints outs)
def _root_.Go.Proofs.YtjcgiddgafjdpaaGreatDoor.Ab.KS.Jk (s:KS):Bool :=
 Nat.ble s.nc 16000 && (s.rd.all (fun p => Nat.ble p.2 1000000) && (s.ru.all (fun p => Nat.ble p.2 1000000 && Nat.ble p.1 100000) && (s.rr.all (fun p => Nat.ble 1 p.2.1 && Nat.ble p.2.1 2048) && s.data.all (fun p => Nat.blt p.1 s.used))))
theorem V5 {s:KS} (h:s.Jk = true):s.nc≤16000∧(∀ p∈s.rd,p.2≤1000000)∧(∀ p∈s.ru,p.2≤1000000∧p.1≤100000)∧(∀ p∈s.rr,1≤p.2.1∧p.2.1≤2048)∧(∀ p∈s.data,p.1 < s.used):=by
 unfold KS.Jk at h
 simp only [Bool.and_eq_true,List.all_eq_true,Xi.aY,Xi.aH] at h
 exact h
theorem ahp {s:KS} (h:s.Jk = true):Fine s.bm:=by
 obtain ⟨_,h1,h2,_,_⟩:=V5 h
 refine ⟨fun p hp => ?_,fun p hp => ?_⟩
 · obtain ⟨q,hq,rfl⟩:=List.mem_map.1 hp
   have:=h1 q (List.mem_reverse.1 hq)
   show 0≤(q.2:Int)∧(q.2:Int)≤1000000
   omega
 · obtain ⟨q,hq,rfl⟩:=List.mem_map.1 hp
   obtain ⟨h3,h4⟩:=h2 q (List.mem_reverse.1 hq)
   refine ⟨?_,?_⟩
   · show 0≤(q.2:Int)∧(q.2:Int)≤1000000
     omega
   · show (gV q.1).length≤1000000
     have:=Af (u:=q.1) (by omega)
     unfold gV lZ
     rw [Lib.itoa_nonneg,List.length_cons]
     omega
theorem abj {l:List (Nat × Int)} {a:Int} {x:Int} (h:findD l a = some x):∃ p∈l,(p.1:Int) = a:=by
 induction l with
 | nil => cases h
 | cons p l ih =>
  obtain ⟨k,y⟩:=p
  unfold findD at h
  by_cases e:(k:Int) = a
  · exact ⟨_,List.mem_cons_self,e⟩
  · rw [if_neg e] at h
    obtain ⟨q,hq,h2⟩:=ih h
    exact ⟨q,List.mem_cons_of_mem _ hq,h2⟩
def mV (s:KS) (left:Lit→Bool):List Int:=(List.range s.used).map fun a:Nat => if left (.int .i64 (a:Int)) = true then 0 else (findD s.data (a:Int)).getD 0
theorem YF (s:KS) (left:Lit→Bool):(mV s left).length = s.used:=by simp [mV]
theorem YG (s:KS) {left:Lit→Bool} (h:∀ kl,left kl = false):mV s left = EY s:=by
 unfold mV EY
 refine List.map_congr_left fun a _ => ?_
 rw [h,if_neg (by decide)]
theorem Rx (s:KS) {left:Lit→Bool} (h:∀ a:Nat,(left (.int .i64 (a:Int)) = false→findD s.data (a:Int) = none)):aZ (mV s left) = zeros (.int .i32 0) s.used:=by
 unfold aZ mV zeros
 rw [List.map_map]
 apply List.ext_getElem
 · simp
 · intro j h1 h2
   simp only [List.getElem_map,List.getElem_range,Function.comp,List.getElem_replicate]
   cases hl:left (.int .i64 (j:Int)) with
   | true => simp
   | false => simp [h j hl]
theorem UY (s:KS) {left:Lit→Bool} {a:Nat} {c:Int} (ha:a < s.used) (hc:findD s.data (a:Int) = some c) :
 mV s (fun z => left z && !z.sameKey (.int .i64 (a:Int))) = (mV s left).set a c:=by
 unfold mV
 apply List.ext_getElem
 · simp
 · intro j h1 h2
   have hj:j < s.used:=by simpa using h1
   rw [List.getElem_set]
   simp only [List.getElem_map,List.getElem_range]
   by_cases e:a = j
   · subst e
     rw [if_pos rfl,hc]
     have:(Lit.int .i64 (a:Int)).sameKey (.int .i64 (a:Int)) = true:=WideAt.sameKey_self trivial
     rw [this]
     simp
   · rw [if_neg e]
     have:(Lit.int .i64 (j:Int)).sameKey (.int .i64 (a:Int)) = false:=by
      cases h:(Lit.int .i64 (j:Int)).sameKey (.int .i64 (a:Int)) with
      | false => rfl
      | true => have:=WideAt.sameKey_eq h; injection this with _ h; omega
     rw [this]
     simp
theorem ad4:iV ⟨43,0,0,0,0⟩ = 0:=by decide
theorem grown_setCell (w:World) (g i:Nat) (v:Value):w.grownBy (w.setCell ⟨g,i,none⟩ v) (some g) :=
 ⟨rfl,rfl,rfl,by rw [size_setCell]; exact Nat.le_refl _,fun k _ hk => qj w _ _ k (fun e => hk (by rw [e]))⟩
theorem pV {w:World} {q:Nat} {t:TypeId} {cs xs:List Value} {v:Value} (hb:aC w q t cs) (hs:Sl w v xs) (hne:∀ u∈cs,u∉xs) (h0:0 < xs.length) (A:Addr) (n c:Nat) (he:v = .slice (some A) n c):A.block∉[q]:=by
 intro hm
 subst he
 obtain ⟨b,off,hA,hc,_⟩:=hs.at_ (k:=0) (List.getElem?_eq_getElem h0)
 injection hA with hA
 subst hA
 have hm:b = q:=by simpa using hm
 subst hm
 rw [hb.cell] at hc
 exact hne _ (List.mem_of_getElem? hc) (List.getElem_mem h0)
section
variable {w:World} {b:MP} {s:KS} {F:List Nat}
set_option maxRecDepth 100000 in
set_option maxHeartbeats 4000000 in
theorem NZ (h:KR w b s F) (hok:(s.ins ⟨43,0,0,0,0⟩).Jk = true) (hru:s.ru.length≤100000) {l:List Int} (hl:QZ (s.ins ⟨43,0,0,0,0⟩) = some l) :
 Calls Tryz.prog 52 #[.pointer (some ⟨b.a,0,none⟩)] w fun e w' => ∃ v,e = .returned v∧ah w w' F∧um w' v l (EY s) (dA s.rr.reverse) s.ri.reverse s.ro.reverse:=by
 obtain ⟨i0,hi0,hz0,hz1,hz2⟩:=info_parts qp
 obtain ⟨p,hp,hf,rfl⟩:=h
 obtain ⟨q1,q2,q3,q4,q5⟩:=V5 hok
 have q1:s.nc + 1≤16000:=q1
 have HQ5:=hide (show ∀ p∈s.data,p.1 < s.used from q5)
 have hu2:=hp.wf.used
 have c0:=hp.blk.cell' (i:=0) rfl
 have hlt:=hp.blk.lt
 have hin:=fun o:Obj => (hp.bK ((ah.refl w []).alloc o)).ins ⟨43,0,0,0,0⟩ ad4 (by omega)
 unfold aX at hin
 have hmk:=run_make_row' (P:=Tryz.prog) 38 21 (.int .i32 0) 4 Tryz.underlying38 qp rfl .i64 .i64 s.used (by omega) (by omega)
 rw [kD] at hmk
 have HP:=hide hp
 have Qv:=hide q1
 have HOK:=hide hok
 have HL:=hide hl
 have HQ4:=hide (show ∀ p∈s.rr,1≤p.2.1∧p.2.1≤2048 from q4)
 clear hp hf hok hl q1 q2 q3 q4 q5
 go_enter Tryz.func52,Tryz.ntmps52
 go_wp2_with fail
 go_at_call 97
 refine (hin _).mono ?_
 rintro e w1 ⟨rfl,hc1,p1,hp1,hf1,hs1⟩
 have aj8:w.heap.size∉p.foot b.a:=fun hm => by have:=HP.out.flt _ hm; omega
 have V6:=hide ((aC.new w 42 [.slice none 0 0,.slice none 0 0,.slice none 0 0,.slice none 0 0,.slice none 0 0]).aj hc1 aj8)
 have aj9:=hide (o8 hs1 aj8 (by rw [size_alloc]; omega))
 have apw:=hide (show w.heap.size < w1.heap.size from (by have:=hc1.size; rw [size_alloc] at this; omega))
 have cZ:Hid (ah w w1 (p.foot b.a)):=hide (((ah.refl w _).alloc _).trans hc1 (fun k hk => .inl hk))
 have bU:=hide hp1
 have d0:=hp1.blk.cell' (i:=0) rfl
 have d1:=hp1.blk.cell' (i:=1) rfl
 have d8:=hp1.blk.cell' (i:=8) rfl
 have d9:=hp1.blk.cell' (i:=9) rfl
 have d10:=hp1.blk.cell' (i:=10) rfl
 have d11:=hp1.blk.cell' (i:=11) rfl
 have d12:=hp1.blk.cell' (i:=12) rfl
 have hlt1:=hp1.blk.lt
 obtain ⟨Ai,ci,hAi⟩:=aO hp1.inn
 obtain ⟨Ao,co,hAo⟩:=aO hp1.out
 rw [hAi] at d11
 rw [hAo] at d12
 have HAI:=hide hAi
 have HAO:=hide hAo
 have dH:=hide hs1
 clear hc1 hp1 hf1 hs1 hin c0 hAi hAo
 go_wp2_with fail
 have hb2:=aC.new w1 42 [.slice none 0 0,.slice none 0 0,.slice none 0 0,.slice Ai s.ri.length ci,.slice Ao s.ro.length co]
 have hp2:=bU.out.bK ((ah.refl w1 []).alloc (.cells #[.slice none 0 0,.slice none 0 0,.slice none 0 0,.slice Ai s.ri.length ci,.slice Ao s.ro.length co] 42))
 have hc2:ah w1 (w1.alloc (.cells #[.slice none 0 0,.slice none 0 0,.slice none 0 0,.slice Ai s.ri.length ci,.slice Ao s.ro.length co] 42)) []:=(ah.refl w1 []).alloc _
 have hnq:w1.heap.size∉p1.foot b.a:=fun hm => by have:=bU.out.flt _ hm; omega
 change Calls _ _ _ (w1.alloc (.cells #[.slice none 0 0,.slice none 0 0,.slice none 0 0,.slice Ai s.ri.length ci,.slice Ao s.ro.length co] 42)) _
 have hzq:(w1.alloc (.cells #[.slice none 0 0,.slice none 0 0,.slice none 0 0,.slice Ai s.ri.length ci,.slice Ao s.ro.length co] 42)).heap.size = w1.heap.size + 1:=size_alloc _ _
 generalize w1.alloc (.cells #[.slice none 0 0,.slice none 0 0,.slice none 0 0,.slice Ai s.ri.length ci,.slice Ao s.ro.length co] 42) = w2 at *
 have HZW:=hide hc2.size
 generalize hqm:w1.heap.size = qm at *
 go_at_call 98
 have hcl:((s.ins ⟨43,0,0,0,0⟩).bm.code.length)≤16384:=by
  show (s.ins ⟨43,0,0,0,0⟩).rc.reverse.length≤_
  rw [List.length_reverse,← bU.out.wf.nc]
  have:=Qv.out
  show s.nc + 1≤_
  omega
 have hfc:=QU hp2.lH (ahp HOK.out) hcl (by show (s.ru.reverse.map _).length≤_; rw [List.length_map,List.length_reverse]; exact hru) hp2.iC.ert
 rw [ajE HL.out] at hfc
 refine hfc.mono ?_
 rintro e w3 ⟨hc3,vc,rfl,hsl3⟩
 obtain ⟨Ac,cc,CG,_⟩:=id hsl3
 subst CG
 have fU:=hide hc3
 have aj_:=hide hsl3
 have I7:=hide (hp2.bK hc3)
 have HB3:=hide (hb2.aj hc3 (by simp))
 have HC2:=hide hc2
 have HNQ:=hide hnq
 have HZQ:=hide hzq
 have f0:=HB3.out.frozen 0
 have y0:=HB3.out.cell' (i:=0) rfl
 have hlq:=HB3.out.lt
 clear hfc hc3 hsl3 hp2 hb2 hc2 hnq hzq hcl d0 d1 d8 d9 d10 d11 d12 hlt hlt1
 go_upto_region 4 with (fail)
 change Code.wp _ _ _ _ (w3.setCell ⟨qm,0,none⟩ (.slice Ac (iG l).length cc))
 have hQq:8≤qm:=by have:=bU.out.iC.size; omega
 have hx4:ah w3 (w3.setCell ⟨qm,0,none⟩ (.slice Ac (iG l).length cc)) [qm]:=(ah.refl w3 _).setCell _ _ (.inl (by simp))
 have hqf:∀ k∈p1.foot b.a,k∉[qm]:=fun k hk hm => HNQ.out (by simp at hm; exact hm ▸ hk)
 have iZ:=I7.out.aj hx4 hqf (fun k hk => by simp at hk; exact hk ▸ hQq)
 have hb4:=HB3.out.bg 0 (.slice Ac (iG l).length cc)
 have akd:=aj_.out.bK hx4 (pV HB3.out aj_.out (fun u hu hx => by
  obtain ⟨y,_,rfl⟩:=List.mem_map.1 hx
  simp at hu))
 generalize w3.setCell ⟨qm,0,none⟩ (.slice Ac (iG l).length cc) = w4 at *
 have e1:=iZ.blk.cell' (i:=1) rfl
 have f2:=hb4.frozen 2
 have y2:=hb4.cell' (i:=2) rfl
 have ake:=Rw iZ.plan HQ4.out (by have q1:s.rr.length≤s.names:=iZ.wf.cap; have q2:s.names≤100000:=iZ.wf.names; show s.rr.length≤_; omega)
 have aro:=iZ.blk.lt
 have yM:=hide iZ
 have HB4:=hide hb4
 have akf:=hide akd
 have HX4:=hide hx4
 have HQF:=hide hqf
 have HQQ:=hide hQq
 clear iZ hb4 akd hx4 hqf hQq f0 y0 hlq
 go_wp2_with fail
 go_at_call 99
 refine ake.mono ?_
 rintro e w5 ⟨vs,rfl,hc5,hown5⟩
 obtain ⟨As,cs,hvs⟩:=aO hown5
 subst hvs
 have g2:=(HB4.out.aj hc5 (by simp)).frozen 2
 have z2:=(HB4.out.aj hc5 (by simp)).cell' (i:=2) rfl
 have apx:=(HB4.out.aj hc5 (by simp)).lt
 have gq:=hide hc5
 have uK:=hide hown5
 clear ake hc5 hown5 f2 y2 e1
 go_upto_region 5 with (fail)
 change Code.wp _ _ _ _ (w5.setCell ⟨qm,2,none⟩ (.slice As (dA s.rr.reverse).length cs))
 have hx6:ah w5 (w5.setCell ⟨qm,2,none⟩ (.slice As (dA s.rr.reverse).length cs)) [qm]:=(ah.refl w5 _).setCell _ _ (.inl (by simp))
 have MJ:=(yM.out.bK gq.out).aj hx6 HQF.out (fun k hk => by simp at hk; exact hk ▸ HQQ.out)
 have hb6:=(HB4.out.aj gq.out (by simp)).bg 2 (.slice As (dA s.rr.reverse).length cs)
 have akh:=(akf.out.aj gq.out (by simp)).bK hx6 (pV (HB4.out.aj gq.out (by simp)) (akf.out.aj gq.out (by simp)) (fun u hu hx => by
  obtain ⟨y,_,rfl⟩:=List.mem_map.1 hx
  simp at hu))
 have ho6:=aF uK.out hx6 (fun g hg hm => by
  have:=(uK.out.lt g hg).1
  simp at hm
  have:=HB4.out.lt
  omega)
 generalize w5.setCell ⟨qm,2,none⟩ (.slice As (dA s.rr.reverse).length cs) = w6 at *
 have e1:=MJ.blk.cell' (i:=1) rfl
 have ano:=MJ.blk.lt
 have hus:Calls Tryz.prog 100 #[.pointer (some ⟨p1.pp,0,none⟩)] w6 fun e w' => e = .returned (.int .i64 (s.used:Int))∧w6 = w':=YE MJ.plan
 have y1:=hb6.cell' (i:=1) rfl
 have f1:=hb6.frozen 1
 have apy:=hb6.lt
 have VL:=hide MJ
 have DX:=hide hb6
 have Ry:=hide akh
 have HO6:=hide ho6
 have HX6:=hide hx6
 clear MJ hb6 akh ho6 hx6 g2 z2 apx
 go_upto_region 6 with (go_at_call 100; refine hus.mono ?_; rintro e w7 ⟨rfl,rfl⟩)
 change Code.wp _ _ _ _ ((w6.setCell ⟨qm,1,none⟩ (.slice (some ⟨w6.heap.size,0,none⟩) s.used s.used)).alloc (.cells (zeros (.int .i32 0) s.used).toArray 21))
 have hxa:ah w6 (w6.setCell ⟨qm,1,none⟩ (.slice (some ⟨w6.heap.size,0,none⟩) s.used s.used)) [qm]:=(ah.refl w6 _).setCell _ _ (.inl (by simp))
 have hx7:ah w6 ((w6.setCell ⟨qm,1,none⟩ (.slice (some ⟨w6.heap.size,0,none⟩) s.used s.used)).alloc (.cells (zeros (.int .i32 0) s.used).toArray 21)) [qm]:=hxa.alloc _
 have hp7:=VL.out.aj hx7 HQF.out (fun k hk => by simp at hk; exact hk ▸ HQQ.out)
 have hb7:=(DX.out.bg 1 (.slice (some ⟨w6.heap.size,0,none⟩) s.used s.used)).alloc (.cells (zeros (.int .i32 0) s.used).toArray 21)
 have hg7:=aC.new (w6.setCell ⟨qm,1,none⟩ (.slice (some ⟨w6.heap.size,0,none⟩) s.used s.used)) 21 (zeros (.int .i32 0) s.used)
 rw [size_setCell] at hg7
 have KU:=Ry.out.bK hx7 (pV DX.out Ry.out (fun u hu hx => by
  obtain ⟨y,_,rfl⟩:=List.mem_map.1 hx
  simp at hu))
 have ho7:=aF HO6.out hx7 (fun g hg hm => by
  have:=(HO6.out.lt g hg).1
  simp at hm
  have:=HB4.out.lt
  omega)
 have hz7:((w6.setCell ⟨qm,1,none⟩ (.slice (some ⟨w6.heap.size,0,none⟩) s.used s.used)).alloc (.cells (zeros (.int .i32 0) s.used).toArray 21)).heap.size = w6.heap.size + 1:=by rw [size_alloc,size_setCell]
 generalize ((w6.setCell ⟨qm,1,none⟩ (.slice (some ⟨w6.heap.size,0,none⟩) s.used s.used)).alloc (.cells (zeros (.int .i32 0) s.used).toArray 21)) = w7 at *
 have e2:=hp7.blk.cell' (i:=2) rfl
 have anp:=hp7.blk.lt
 have HZ4:=hide HB4.out.lt
 generalize hgd:w6.heap.size = gd at *
 obtain ⟨D,hown,hT,hD,hf⟩:=hp7.data
 have Nh:=hide hp7
 have HB7:=hide hb7
 have HG7:=hide hg7
 have akl:=hide KU
 have HO7:=hide ho7
 have HX7:=hide hx7
 have HZ7:=hide hz7
 have HFD:=hide hf
 have HDM:=hide hD
 clear hp7 hb7 hg7 KU ho7 hx7 hxa e1 y1 f1 apy ano hf hD hT
 go_wp2_with (first
  | (at_range; refine wpList_range_own _ rfl _ 152 rfl 3 21 jE Tryz.underlying152 _ p1.md p1.nd D rfl hown ?_; intro w8 hrg0 hg0 hs0)
  | fail)
 have hc8:ah w7 w8 []:=ah.dG hg0 (by simp)
 have HC8:=hide hc8
 generalize hr7:w7.heap.size = r at *
 obtain rfl:r = gd + 1:=by have:=HZ7.out; omega
 have hqr:qm < gd:=by have:=DX.out.lt; omega
 have hg8:=HG7.out.aj hc8 (by simp)
 have hst:zeros (.int .i32 0) s.used = aZ (mV s (Maps.has D)):=(Rx s (fun a ha => by
  have h1:=(HFD.out (.int .i64 (a:Int)) trivial).1
  rw [ha] at h1
  have h1:((findD s.data (a:Int)).map (Lit.int .i32)).isSome = false:=h1.symm
  cases hx:findD s.data (a:Int) with
  | none => rfl
  | some y => rw [hx] at h1; cases h1)).symm
 rw [hst] at hg8
 have HG8:=hide hg8
 clear hc8 hg8 hst hg0 hs0 e2 hown hmk
 go_frame
 go_loopw [4,5] (fun _ _ wr => ∃ (left:Lit→Bool) (cnt:Nat),wr.ranges Tryz.prog 3 (plainElem Tryz.prog 21) p1.md (gd + 1) p1.nd D left cnt∧Hid (ah w8 wr [gd,gd + 1])∧Hid (aC wr gd 21 (aZ (mV s left)))∧Hid (∀ kl,left kl = true→Maps.has D kl = true)) (fun _ _ wr => wr.rangeLeft p1.md (gd + 1))
 case atStart => exact ⟨_,_,hrg0,hide (ah.refl _ _),HG8,hide fun _ h => h⟩
 case round =>
  obtain ⟨left,cnt,hrg,HR,HG,HL2⟩:=hrel
  go_wp2_with (at_next; refine wpList_next_ranges_ii _ rfl _ rfl 3 21 .i64 .i32 jE Tryz.underlying3 Tryz.underlying21 p1.md (gd + 1) p1.nd _ _ _ rfl hrg ?_ ?_)
  · intro _ hl0
    have Rz:ah w7 wr [gd]:=(HC8.out.more (D':=[gd]) (by simp)).trans HR.out (fun k hk => by
     simp at hk
     rcases hk with rfl | rfl
     · exact .inl (by simp)
     · exact .inr (by have:=HZ7.out; omega))
    have arp:w.heap.size < qm:=by have:=apw.out; omega
    have n1:w.heap.size∉[qm]:=by simp; omega
    have n2:w.heap.size∉[gd]:=by simp; omega
    have ad5:=((((V6.out.aj HC2.out (by simp)).aj fU.out (by simp)).aj HX4.out n1).aj gq.out (by simp)).aj HX6.out n1
    have ad6:=ad5.aj HX7.out n1
    have hb2:=ad6.aj Rz n2
    have hbq:=HB7.out.aj Rz (by simp; omega)
    have x0:=hbq.cell' (i:=0) rfl
    have x1:=hbq.cell' (i:=1) rfl
    have x2:=hbq.cell' (i:=2) rfl
    have x3:=hbq.cell' (i:=3) rfl
    have x4:=hbq.cell' (i:=4) rfl
    have v0:=hb2.cell' (i:=0) rfl
    have v1:=hb2.cell' (i:=1) rfl
    have v2:=hb2.cell' (i:=2) rfl
    have v3:=hb2.cell' (i:=3) rfl
    have v4:=hb2.cell' (i:=4) rfl
    have k0:=hb2.frozen 0
    have k1:=hb2.frozen 1
    have k2:=hb2.frozen 2
    have k3:=hb2.frozen 3
    have k4:=hb2.frozen 4
    have hblt:=hb2.lt
    have HB2:=hide hb2
    have arq:=hide ad5
    have apz:=hide ad6
    have HWR:=hide Rz
    have HL0:=hide hl0
    clear hb2 ad5 ad6 Rz hbq hl0 hrg anp n1 n2
    go_wp2
    have hfb:=((((HB2.out.bg 0 (.slice Ac (iG l).length cc)).bg 1 (.slice (some ⟨gd,0,none⟩) s.used s.used)).bg 2 (.slice As (dA s.rr.reverse).length cs)).bg 3 (.slice Ai s.ri.length ci)).bg 4 (.slice Ao s.ro.length co)
    have hcf:ah wr (((((wr.setCell ⟨w.heap.size,0,none⟩ (.slice Ac (iG l).length cc)).setCell ⟨w.heap.size,1,none⟩ (.slice (some ⟨gd,0,none⟩) s.used s.used)).setCell ⟨w.heap.size,2,none⟩ (.slice As (dA s.rr.reverse).length cs)).setCell ⟨w.heap.size,3,none⟩ (.slice Ai s.ri.length ci)).setCell ⟨w.heap.size,4,none⟩ (.slice Ao s.ro.length co)) [w.heap.size]:=((((((ah.refl wr [w.heap.size]).setCell _ _ (.inl (List.mem_singleton.2 rfl))).setCell _ _ (.inl (List.mem_singleton.2 rfl))).setCell _ _ (.inl (List.mem_singleton.2 rfl))).setCell _ _ (.inl (List.mem_singleton.2 rfl))).setCell _ _ (.inl (List.mem_singleton.2 rfl)))
    refine bodyPost_ret (v:=.agg #[.slice Ac (iG l).length cc,.slice (some ⟨gd,0,none⟩) s.used s.used,.slice As (dA s.rr.reverse).length cs,.slice Ai s.ri.length ci,.slice Ao s.ro.length co]) (results_cell_row rfl _ _ w.heap.size 42 _ (0,0) _ rfl hfb Tryz.underlying42 rfl (by kernel_rfl)) rfl ?_
    generalize (((((wr.setCell ⟨w.heap.size,0,none⟩ (.slice Ac (iG l).length cc)).setCell ⟨w.heap.size,1,none⟩ (.slice (some ⟨gd,0,none⟩) s.used s.used)).setCell ⟨w.heap.size,2,none⟩ (.slice As (dA s.rr.reverse).length cs)).setCell ⟨w.heap.size,3,none⟩ (.slice Ai s.ri.length ci)).setCell ⟨w.heap.size,4,none⟩ (.slice Ao s.ro.length co)) = wf at *
    have ars:=HC2.out.size
    have aru:=fU.out.size
    have arv:=HX4.out.size
    have arw:=gq.out.size
    have arx:=HX6.out.size
    have hzx:=HB4.out.lt
    have Nj:ah w7 wf [gd,w.heap.size]:=(HWR.out.more (D':=[gd,w.heap.size]) (fun k hk => .inl (by simp at hk ⊢; exact .inl hk))).trans hcf (fun k hk => .inl (by simp at hk ⊢; exact .inr hk))
    have hcA:ah w w7 (p.foot b.a):=by
     have h1:ah w1 w7 []:=(((((HC2.out.trans fU.out (by simp)).trans HX4.out (fun k hk => by simp at hk; exact .inr (by omega))).trans gq.out (by simp)).trans HX6.out (fun k hk => by simp at hk; exact .inr (by omega))).trans HX7.out (fun k hk => by simp at hk; exact .inr (by omega)))
     exact cZ.out.trans h1 (by simp)
    refine ⟨_,rfl,hcA.trans Nj (fun k hk => ?_),_,_,_,_,_,rfl,?_,?_,?_,?_,?_⟩
    · simp at hk
      rcases hk with rfl | rfl
      · exact .inr (by have:=cZ.out.size; omega)
      · exact .inr (Nat.le_refl _)
    · refine akl.out.bK Nj (fun h0 A n c he hm => ?_)
      have mG:=pV apz.out akl.out (fun u hu hx => by
       obtain ⟨y,_,rfl⟩:=List.mem_map.1 hx
       simp at hu) h0 A n c he
      simp at hm mG
      rcases hm with hm | hm
      · have h6:=Ry.out
        rw [he] at h6
        obtain ⟨b',off,hA,_,hlt'⟩:=h6.at_ (k:=0) (List.getElem?_eq_getElem h0)
        injection hA with hA
        subst hA
        simp at hm
        omega
      · exact mG hm
    · have hgf:=(HG.out.aj hcf (by simp; omega))
      rw [YG s HL0.out] at hgf
      have hlen:s.used = (aZ (EY s)).length:=by simp [aZ,EY]
      exact Sl.blk' hgf hlen (Nat.le_refl _)
    · refine (Sl.own HO7.out).aj Nj (fun A n c he hm => ?_)
      injection he with he1 he2 he3
      have hob:(Value.slice As (dA s.rr.reverse).length cs).ownBlock = some A.block:=by rw [he1]; rfl
      have h1:=HO6.out.lt A.block hob
      simp at hm
      omega
    · have ad7 : Sl w7 (.slice Ai s.ri.length ci) (ints s.ri.reverse) := by
       have:=Sl.own Nh.out.inn
       rw [HAI.out] at this
       exact this
      refine ad7.aj Nj (fun A n c he hm => ?_)
      injection he with he1 he2 he3
      have hob:A.block∈p1.foot b.a:=KP.aW (i:=7) (by show A.block∈p1.iv.ownBlock.toList; rw [HAI.out,he1]; simp [Value.ownBlock])
      have h1:=VL.out.flt _ hob
      simp at hm
      rcases hm with hm | hm
      · omega
      · exact aj9.out (hm ▸ hob)
    · have ad7 : Sl w7 (.slice Ao s.ro.length co) (ints s.ro.reverse) := by
       have:=Sl.own Nh.out.out
       rw [HAO.out] at this
       exact this
      refine ad7.aj Nj (fun A n c he hm => ?_)
      injection he with he1 he2 he3
      have hob:A.block∈p1.foot b.a:=KP.aW (i:=8) (by show A.block∈p1.ov.ownBlock.toList; rw [HAO.out,he1]; simp [Value.ownBlock])
      have h1:=VL.out.flt _ hob
      simp at hm
      rcases hm with hm | hm
      · omega
      · exact aj9.out (hm ▸ hob)
  · intro x c w9 cnt1 hwx hwc hlx hat hrg1 hlt1 hg1 hs1 hen
    have hc9:ah wr w9 [gd + 1]:=ah.dG hg1 (fun k hk => by injection hk with hk; exact .inl (by subst hk; simp))
    have hfx:findD s.data x = some c:=by
     obtain ⟨h1,h2⟩:=HFD.out (.int .i64 x) trivial
     rw [HL2.out _ hlx] at h1
     have h1:true = ((findD s.data x).map (Lit.int .i32)).isSome:=h1
     have h2:∀ z,D.atKey (.int .i64 x) (.lit z) = .lit (((findD s.data x).map (Lit.int .i32)).getD z):=h2
     cases hx:findD s.data x with
     | none => rw [hx] at h1; cases h1
     | some y =>
      rw [hx] at h2
      have h3:=(h2 (.int .i32 0)).symm.trans (hat _)
      simp at h3
      rw [h3]
    obtain ⟨q,hq,hqx⟩:=abj hfx
    have hqu:=HQ5.out q hq
    obtain ⟨a,rfl⟩:∃ a:Nat,x = (a:Int):=⟨q.1,hqx.symm⟩
    have hqa:q.1 = a:=by omega
    rw [hqa] at hqu
    have QV:=hide hfx
    have Rz:ah w7 wr [gd]:=(HC8.out.more (D':=[gd]) (by simp)).trans HR.out (fun k hk => by
     simp at hk
     rcases hk with rfl | rfl
     · exact .inl (by simp)
     · exact .inr (by have:=HZ7.out; omega))
    have RD:=HG.out.aj hc9 (by simp)
    have akp:=(HB7.out.aj Rz (by simp; omega)).aj hc9 (by simp; omega)
    have x1:=akp.cell' (i:=1) rfl
    have hln:a < (mV s left).length:=by rw [YF]; exact hqu
    have xa:=RD.cell' (J6 _ a hln)
    have fa:=RD.frozen a
    have hgl:=RD.lt
    have hia:decide ((a:Int) < 0) = false:=decide_eq_false (by omega)
    have hib:decide ((a:Int) < (s.used:Int)) = true:=decide_eq_true (by omega)
    have HG9:=hide RD
    have HC9:=hide hc9
    have HRG:=hide hrg1
    have apA:=hide hrg
    have vJ:=hide hlt1
    have hne1:some p1.md≠some gd:=fun e => by
     injection e with e
     have:=VL.out.flt p1.md (KP.aW (i:=3) (by simp [KP.part]))
     omega
    clear RD akp Rz hc9 hfx hrg1 hrg hlt1 hg1 hq hqx hlx hat
    go_wp2
    go_roundw
    case rel =>
     refine ⟨_,cnt1,HRG.out.kept (grown_setCell _ _ _ _) hne1 (by simp),hide ((HR.out.trans (HC9.out.more (D':=[gd,gd + 1]) (fun k hk => .inl (by simp at hk ⊢; exact .inr hk))) (fun k hk => .inl hk)).setCell ⟨gd,a,none⟩ _ (.inl (by simp))),hide ?_,hide ?_⟩
     · rw [UY s hqu QV.out,O6]
       exact HG9.out.bg a (.int .i32 c)
     · intro kl hkl
       simp only [Bool.and_eq_true] at hkl
       exact HL2.out kl hkl.1
    case measure =>
     rw [(HRG.out.kept (grown_setCell _ gd a (.int .i32 c)) hne1 (by simp)).left_eq,apA.out.left_eq]
     exact vJ.out
end
end Go.Proofs.YtjcgiddgafjdpaaGreatDoor

/- emit.Again, emit.Run. -/
namespace Go.Proofs.YtjcgiddgafjdpaaGreatDoor
open Go Go.RowKit Go.Deep Go.Maps Go.Proofs.YtjcgiddgafjdpaaGreatDoor.Ab
set_option linter.unusedVariables false
attribute [local go_sem] Oper.semAt_some
def gK:List Nat→List Int→List Int→List Int
 | a :: aS,x :: xs,ws => gK aS xs (ws.set a x)
 | _,_,ws => ws
theorem D6:∀ (aS:List Nat) (xs ws:List Int),(gK aS xs ws).length = ws.length
 | [],_,_ => rfl
 | _ :: _,[],_ => rfl
 | a :: aS,x :: xs,ws => by
  show (gK aS xs (ws.set a x)).length = _
  rw [D6 aS xs,List.length_set]
theorem BN:∀ (aS:List Nat) (xs ws:List Int) (a:Nat) (x:Int),aS.length = xs.length→gK (aS ++ [a]) (xs ++ [x]) ws = (gK aS xs ws).set a x
 | [],[],ws,a,x,_ => rfl
 | [],_ :: _,_,_,_,h => by simp at h
 | _ :: _,[],_,_,_,h => by simp at h
 | b :: aS,y :: xs,ws,a,x,h => BN aS xs (ws.set b y) a x (by simpa using h)
theorem um.keep {w w':World} {v:Value} {code data:List Int} {sec:List Bool} {ins outs:List Nat} (h:um w v code data sec ins outs) (hc:ah w w' []):um w' v code data sec ins outs:=by
 obtain ⟨c,d,se,i,o,rfl,h1,h2,h3,h4,h5⟩:=h
 exact ⟨c,d,se,i,o,rfl,h1.keep hc,h2.keep hc,h3.keep hc,h4.keep hc,h5.keep hc⟩
theorem lK {w:World} {v:Value} {xs:List Value} (h:Sl w v xs):∃ A c,v = .slice A xs.length c∧∀ (j:Nat) (u:Value),xs[j]? = some u→∃ b off,A = some ⟨b,off,none⟩∧w.cell? ⟨b,off + j,none⟩ = some u∧b < w.heap.size:=by
 obtain ⟨A,c,rfl,_⟩:=id h
 exact ⟨A,c,rfl,fun j u hj => h.at_ hj⟩
theorem ints_at {l:List Nat} {j a:Nat} (h:l[j]? = some a):(ints l)[j]? = some (.int .i64 (a:Int)):=by simp [ints,h]
theorem pW (l:List Nat):(ints l).length = l.length:=List.length_map ..
theorem uo (l:List Int):(aZ l).length = l.length:=List.length_map ..
theorem EZ {w:World} {base base' e size n:Nat} {v:Value} {xs:List Value} (h:w.ownsRow base e size v n xs) (hb:base'≤base):w.ownsRow base' e size v n xs:=by
 refine ⟨h.1,?_⟩
 rcases h.2 with hn | ⟨g,cap,cur,rfl,hg,rest⟩
 · exact .inl hn
 · exact .inr ⟨g,cap,cur,rfl,Nat.le_trans hb hg,rest⟩
section
variable {w0 w:World} {c:Nat} {words:List Nat} {s:CS} {ws:List Int} {F:List Nat}
end
end Go.Proofs.YtjcgiddgafjdpaaGreatDoor

/- New rows of int32 or uint8, filled one after another. -/
namespace Go.Proofs.YtjcgiddgafjdpaaGreatDoor
open Go Go.RowKit Go.Deep Go.Maps Go.Proofs.YtjcgiddgafjdpaaGreatDoor.Ab
set_option linter.unusedVariables false
theorem V7:(Tryz.prog.info? 5).map (fun i => (i.zero,i.size,i.bytes)) = some (some (.int .u8 0),1,1):=by kernel_rfl
theorem ad8 (n:Nat) (w:World) (hl:n≤500000):(Instr.makeSlice 38 (.int .i64 n) (.int .i64 n)).run Tryz.prog w = .ok (.slice (some ⟨w.heap.size,0,none⟩) n n) (w.alloc (.cells (zeros (.int .i32 0) n).toArray 21)):=by
 obtain ⟨i0,hi,hz0,hz1,hz2⟩:=info_parts qp
 have h:=run_makeSlice (P:=Tryz.prog) w 38 21 i0 (.int .i32 0) Tryz.underlying38 hi hz0 .i64 .i64 n n (by omega) (by omega) (by rw [hz1]; omega) (by rw [hz2]; omega) (by omega)
 rw [h,hz1,← kD]
 simp [Value.cells]
def jR (l:List Nat) (j:Nat):List Value:=((l.take j).map fun n:Nat => Value.int .i32 (n:Int)) ++ zeros (.int .i32 0) (l.length - j)
theorem abm (l:List Nat) (j:Nat) (h:j≤l.length):(jR l j).length = l.length:=by simp [jR,zeros]; omega
theorem abn (l:List Nat) (j x:Nat) (h:l[j]? = some x):(jR l j).set j (.int .i32 (x:Int)) = jR l (j + 1):=by
 obtain ⟨hj,hx⟩:=List.getElem?_eq_some_iff.1 h
 unfold jR
 have hl:((l.take j).map fun n:Nat => Value.int .i32 (n:Int)).length = j:=by simp; omega
 rw [List.set_append_right _ _ (by omega),hl,Nat.sub_self,List.take_add_one,h]
 obtain ⟨m,hm⟩:∃ m,l.length - j = m + 1:=⟨l.length - j - 1,by omega⟩
 rw [hm,show l.length - (j + 1) = m by omega]
 show _ ++ (Value.int .i32 0 :: zeros _ m).set 0 _ = _
 simp
theorem abo (l:List Nat):jR l l.length = l.map fun n:Nat => Value.int .i32 (n:Int):=by simp [jR,zeros]
theorem ahq (n:Nat) (w:World) (hl:n≤500000):(Instr.makeSlice 31 (.int .i64 n) (.int .i64 n)).run Tryz.prog w = .ok (.slice (some ⟨w.heap.size,0,none⟩) n n) (w.alloc (.cells (zeros (.int .u8 0) n).toArray 5)):=by
 obtain ⟨i0,hi,hz0,hz1,hz2⟩:=info_parts V7
 have h:=run_makeSlice (P:=Tryz.prog) w 31 5 i0 (.int .u8 0) Tryz.underlying31 hi hz0 .i64 .i64 n n (by omega) (by omega) (by rw [hz1]; omega) (by rw [hz2]; omega) (by omega)
 rw [h,hz1,← kD]
 simp [Value.cells]
def nP (l:List Nat) (j:Nat):List Value:=((l.take j).map fun n:Nat => Value.int .u8 (n:Int)) ++ zeros (.int .u8 0) (l.length - j)
theorem abp (l:List Nat) (j:Nat) (h:j≤l.length):(nP l j).length = l.length:=by simp [nP,zeros]; omega
theorem abq (l:List Nat) (j x:Nat) (h:l[j]? = some x):(nP l j).set j (.int .u8 (x:Int)) = nP l (j + 1):=by
 obtain ⟨hj,hx⟩:=List.getElem?_eq_some_iff.1 h
 unfold nP
 have hl:((l.take j).map fun n:Nat => Value.int .u8 (n:Int)).length = j:=by simp; omega
 rw [List.set_append_right _ _ (by omega),hl,Nat.sub_self,List.take_add_one,h]
 obtain ⟨m,hm⟩:∃ m,l.length - j = m + 1:=⟨l.length - j - 1,by omega⟩
 rw [hm,show l.length - (j + 1) = m by omega]
 show _ ++ (Value.int .u8 0 :: zeros _ m).set 0 _ = _
 simp
theorem abr (l:List Nat):nP l l.length = l.map fun n:Nat => Value.int .u8 (n:Int):=by simp [nP,zeros]
end Go.Proofs.YtjcgiddgafjdpaaGreatDoor

/- firm.Words, firm.Bytes: bytes as words, and back. -/
namespace Go.Proofs.YtjcgiddgafjdpaaGreatDoor
open Go Go.RowKit Go.Deep Go.Maps Go.Proofs.YtjcgiddgafjdpaaGreatDoor.Ab
set_option linter.unusedVariables false
attribute [local go_sem] Oper.semAt_some
set_option maxRecDepth 100000 in
set_option maxHeartbeats 2000000 in
theorem RF {w:World} {v:Value} {l:List Nat} (h:Sl w v (gX l)) (hb:∀ x∈l,x < 256) (hl:l.length≤10000) :
 Calls Tryz.prog 23 #[v] w fun e w' => ∃ u,e = .returned u∧ah w w' []∧Sl w' u (aZ (l.map fun n:Nat => (n:Int)))∧∀ A n c,u = .slice (some A) n c→w.heap.size≤A.block:=by
 obtain ⟨A,c,rfl,hx⟩:=lK h
 have hln:(gX l).length = l.length:=by simp [gX]
 rw [hln]
 have hm1:=ad8 l.length w (by omega)
 have HX:=hide hx
 have HB:=hide hb
 have hf0:jR l 0 = zeros (.int .i32 0) l.length:=by simp [jR]
 have hbl:=aC.new w 21 (zeros (.int .i32 0) l.length)
 rw [← hf0] at hbl
 have yT:=hide hbl
 have Gg:=hide ((ah.refl w []).alloc (.cells (zeros (.int .i32 0) l.length).toArray 21))
 rw [← hf0] at hm1 Gg
 clear h hx hb hf0 hbl hln
 go_enter Tryz.func23,Tryz.ntmps23
 go_wp2_with fail
 clear hm1
 generalize w.alloc (.cells (jR l 0).toArray 21) = W2 at *
 generalize hM:w.heap.size = M at *
 have Nk:=hide hM
 go_loopw [4,5,11] (fun _ _ i wr => ∃ j:Nat,j≤l.length∧i = .int .i64 j∧Hid (ah w wr [])∧Hid (aC wr M 21 (jR l j))) (fun _ _ i _ => l.length - (intOf i).toNat)
 case atStart => exact ⟨0,Nat.zero_le _,rfl,Gg,yT⟩
 case round =>
  clear Gg yT
  obtain ⟨j,hj,rfl,HC,HK⟩:=hrel
  by_cases hlt:j < l.length
  · obtain ⟨x,kP⟩:∃ x,l[j]? = some x:=⟨l[j],by simp [hlt]⟩
    obtain ⟨b,o,rfl,hcx,hbb⟩:=HX.out j _ (show (gX l)[j]? = some (.int .u8 (x:Int)) by simp [gX,kP])
    have c1:=HC.out.cell hcx (by simp)
    have hx256:=HB.out x (List.mem_of_getElem? kP)
    have hwr:IntKind.i32.wrap (x:Int) = (x:Int):=by rw [IntKind.wrap_i32]; omega
    obtain ⟨y,hy⟩:∃ y,(jR l j)[j]? = some y:=⟨(jR l j)[j]'(by rw [abm l j hj]; exact hlt),by simp⟩
    have z:=HK.out.cell' hy
    have f:=HK.out.frozen j
    have hbl:=HK.out.lt
    have hset:=abn l j x kP
    have HNX:=hide (show aC (wr.setCell ⟨M,j,none⟩ (.int .i32 (x:Int))) M 21 (jR l (j + 1)) from hset ▸ HK.out.bg j (.int .i32 (x:Int)))
    have HCS:=hide (show ah w (wr.setCell ⟨M,j,none⟩ (.int .i32 (x:Int))) [] from HC.out.trans ((ah.refl wr [M]).setCell _ _ (.inl (List.mem_singleton.2 rfl))) (fun k hk => .inr (by simp at hk; omega)))
    clear hcx kP hy hset
    go_wp2
    go_roundw
    case rel => exact ⟨j + 1,by omega,by go_num,HCS,HNX⟩
    case measure => simp [intOf]; omega
  · have hjl:j = l.length:=by omega
    subst hjl
    rw [abo] at HK
    have hin:Sl wr (.slice (some ⟨M,0,none⟩) l.length l.length) (aZ (l.map fun n:Nat => (n:Int))):=by
     have:=Sl.blk' (n:=l.length) (c:=l.length) HK.out (by simp) (Nat.le_refl _)
     simpa [aZ,List.map_map,Function.comp_def] using this
    have HIN:=hide hin
    clear hin
    go_wp2
    go_ret
    exact ⟨_,rfl,HC.out,HIN.out,fun A n c h => by injection h with h; injection h with h; subst h; exact Nat.le_of_eq Nk.out⟩
set_option maxRecDepth 100000 in
set_option maxHeartbeats 2000000 in
theorem RG {w:World} {v:Value} {l:List Nat} (h:Sl w v (aZ (l.map fun n:Nat => (n:Int)))) (hb:∀ x∈l,x < 256) (hl:l.length≤10000) :
 Calls Tryz.prog 21 #[v] w fun e w' => ∃ u,e = .returned u∧ah w w' []∧Sl w' u (gX l)∧∀ A n c,u = .slice (some A) n c→w.heap.size≤A.block:=by
 obtain ⟨A,c,rfl,hx⟩:=lK h
 have hln:(aZ (l.map fun n:Nat => (n:Int))).length = l.length:=by simp [aZ]
 rw [hln]
 have hm1:=ahq l.length w (by omega)
 have HX:=hide hx
 have HB:=hide hb
 have hf0:nP l 0 = zeros (.int .u8 0) l.length:=by simp [nP]
 have hbl:=aC.new w 5 (zeros (.int .u8 0) l.length)
 rw [← hf0] at hbl
 have yT:=hide hbl
 have Gg:=hide ((ah.refl w []).alloc (.cells (zeros (.int .u8 0) l.length).toArray 5))
 rw [← hf0] at hm1 Gg
 clear h hx hb hf0 hbl hln
 go_enter Tryz.func21,Tryz.ntmps21
 go_wp2_with fail
 clear hm1
 generalize w.alloc (.cells (nP l 0).toArray 5) = W2 at *
 generalize hM:w.heap.size = M at *
 have Nk:=hide hM
 go_loopw [4,5,11] (fun _ _ i wr => ∃ j:Nat,j≤l.length∧i = .int .i64 j∧Hid (ah w wr [])∧Hid (aC wr M 5 (nP l j))) (fun _ _ i _ => l.length - (intOf i).toNat)
 case atStart => exact ⟨0,Nat.zero_le _,rfl,Gg,yT⟩
 case round =>
  clear Gg yT
  obtain ⟨j,hj,rfl,HC,HK⟩:=hrel
  by_cases hlt:j < l.length
  · obtain ⟨x,kP⟩:∃ x,l[j]? = some x:=⟨l[j],by simp [hlt]⟩
    obtain ⟨b,o,rfl,hcx,hbb⟩:=HX.out j _ (show (aZ (l.map fun n:Nat => (n:Int)))[j]? = some (.int .i32 (x:Int)) by simp [aZ,kP])
    have c1:=HC.out.cell hcx (by simp)
    have hx256:=HB.out x (List.mem_of_getElem? kP)
    have hwr:IntKind.u8.wrap (x:Int) = (x:Int):=by rw [IntKind.wrap_u8]; omega
    obtain ⟨y,hy⟩:∃ y,(nP l j)[j]? = some y:=⟨(nP l j)[j]'(by rw [abp l j hj]; exact hlt),by simp⟩
    have z:=HK.out.cell' hy
    have f:=HK.out.frozen j
    have hbl:=HK.out.lt
    have hset:=abq l j x kP
    have HNX:=hide (show aC (wr.setCell ⟨M,j,none⟩ (.int .u8 (x:Int))) M 5 (nP l (j + 1)) from hset ▸ HK.out.bg j (.int .u8 (x:Int)))
    have HCS:=hide (show ah w (wr.setCell ⟨M,j,none⟩ (.int .u8 (x:Int))) [] from HC.out.trans ((ah.refl wr [M]).setCell _ _ (.inl (List.mem_singleton.2 rfl))) (fun k hk => .inr (by simp at hk; omega)))
    clear hcx kP hy hset
    go_wp2
    go_roundw
    case rel => exact ⟨j + 1,by omega,by go_num,HCS,HNX⟩
    case measure => simp [intOf]; omega
  · have hjl:j = l.length:=by omega
    subst hjl
    rw [abr] at HK
    have hin:Sl wr (.slice (some ⟨M,0,none⟩) l.length l.length) (gX l):=by
     have:=Sl.blk' (n:=l.length) (c:=l.length) HK.out (by simp) (Nat.le_refl _)
     simpa [gX,List.map_map,Function.comp_def] using this
    have HIN:=hide hin
    clear hin
    go_wp2
    go_ret
    exact ⟨_,rfl,HC.out,HIN.out,fun A n c h => by injection h with h; injection h with h; subst h; exact Nat.le_of_eq Nk.out⟩
set_option maxRecDepth 100000 in
set_option maxHeartbeats 1000000 in
theorem KW {w:World} (hq:8≤w.heap.size) {v:Value} {l:List Nat} (h:Sl w v (aZ (l.map fun n:Nat => (n:Int)))) (hb:∀ x∈l,x < 256) (hl:l.length≤100000):Calls Tryz.prog 29 #[v] w fun e w' => ∃ u,e = .returned (.tuple #[u,.bool true])∧ah w w' []∧w'.ownsRow w.heap.size 5 1 u l.length (gX l):=by
 obtain ⟨i0,hi0,hz0,hz1,hz2⟩:=info_parts V7
 obtain ⟨A,c,rfl,hx⟩:=lK h
 have hln:(aZ (l.map fun n:Nat => (n:Int))).length = l.length:=by simp [aZ]
 rw [hln]
 have HX:=hide hx
 have HB:=hide hb
 clear h hx hb hln
 go_enter Tryz.func29,Tryz.ntmps29
 go_wp2_with fail
 go_loopw [4,5] (fun v i wr => ∃ j:Nat,j≤l.length∧i = .int .i64 j∧Hid (ah w wr [])∧Hid (wr.ownsRow w.heap.size 5 1 v j (gX (l.take j)))) (fun _ i _ => l.length - (intOf i).toNat)
 case atStart => exact ⟨0,Nat.zero_le _,rfl,hide (ah.refl _ _),hide (World.ownsRow_nil _ _ _ _)⟩
 case round =>
  obtain ⟨j,hj,rfl,HC,HO⟩:=hrel
  by_cases hlt:j < l.length
  · obtain ⟨x,kP⟩:∃ x,l[j]? = some x:=⟨l[j],by simp [hlt]⟩
    obtain ⟨b,o,rfl,hcx,hbb⟩:=HX.out j _ (show (aZ (l.map fun n:Nat => (n:Int)))[j]? = some (.int .i32 (x:Int)) by simp [aZ,kP])
    have c1:=HC.out.cell hcx (by simp)
    have hx256:=HB.out x (List.mem_of_getElem? kP)
    have hwr:IntKind.u8.wrap (x:Int) = (x:Int):=by rw [IntKind.wrap_u8]; omega
    have q1:decide ((x:Int) < 0) = false:=decide_eq_false (by omega)
    have q2:decide ((x:Int) > 255) = false:=decide_eq_false (by omega)
    have QN:=hide (show gX (l.take (j + 1)) = gX (l.take j) ++ [.int .u8 (x:Int)] from by
     rw [List.take_add_one,kP]
     simp [gX])
    obtain ⟨V,vc,rfl⟩:=aO HO.out
    clear hcx kP
    go_wp2_with (at_builtin; refine wpList_append_own _ rfl _ _ 31 rfl w.heap.size 5 i0 (.int .u8 0) 1 1 Tryz.underlying31 hi0 hz0 hz1 hz2 rfl (by decide) _ j _ rfl (HO.out.alloc _) ⟨wr.heap.size,0,none⟩ 1 1 [.int .u8 (x:Int)] rfl rfl ?c1 ?c2 ?c3 ?c4 ?c5 ?_)
    case c1 =>
     intro j u hj
     match j,hj with
     | 0,hj => simp at hj; subst hj; simp [Addr.add]
    case c2 => intro u hu; simp at hu; subst hu; rfl
    case c3 => unfold maxLen; omega
    case c4 => omega
    case c5 => have:=HC.out.size; simp; omega
    intro v' w5 hown' hgrow _
    have HG:Hid (ah w w5 []):=hide ((HC.out.alloc _).trans (D':=(Value.slice V j vc).ownBlock.toList) (ah.dG hgrow (fun k hk => .inl (by simp [hk]))) (fun k hk => .inr (HO.out.lt k (by simpa using hk)).1))
    have uK:=hide hown'
    obtain ⟨A6,c6,hv'⟩:=aO hown'
    clear hown' hgrow
    go_wp2
    go_roundw
    case rel => exact ⟨j + 1,by omega,by go_num,HG,hide (by rw [QN.out]; exact uK.out)⟩
    case measure => simp [intOf]; omega
  · have hjl:j = l.length:=by omega
    subst hjl
    go_wp2
    go_ret2
    have ho:=HO.out
    rw [List.take_of_length_le (Nat.le_refl _)] at ho
    exact ⟨_,rfl,HC.out,ho⟩
end Go.Proofs.YtjcgiddgafjdpaaGreatDoor

/- Xi: runs on a maker of programs: calls that are handed the maker answer words of memory, and go on with its state. -/
namespace Go.Proofs.YtjcgiddgafjdpaaGreatDoor.Xi
open Go Go.RowKit Go.Proofs.YtjcgiddgafjdpaaGreatDoor.Ab
set_option linter.unusedVariables false
set_option linter.unusedSimpArgs false
theorem uq {w:World} {g:Nat} {t t':TypeId} {l l':List Value} (h:aC w g t l) (h':aC w g t' l'):l = l':=by
 unfold aC at h h'
 rw [h] at h'
 injection h' with h'
 injection h' with h'
 have:=congrArg Array.toList h'
 simpa using this
theorem PB.uniq {w:World} {b:Nat} {bm bm':BM} {F F':List Nat} (h:PB w b bm F) (h':PB w b bm' F'):F = F':=by
 obtain ⟨t,m,cv,uv,n,hp,rfl,_⟩:=h
 obtain ⟨t',m',cv',uv',n',hp',rfl,_⟩:=h'
 have e:=uq hp.blk hp'.blk
 simp at e
 obtain ⟨rfl,rfl⟩:=e
 have e:=uq hp.tab.blk hp'.tab.blk
 simp at e
 obtain ⟨rfl,rfl⟩:=e
 rfl
theorem KR.uniq {w:World} {b:MP} {s s':KS} {F F':List Nat} (h:KR w b s F) (h':KR w b s' F'):F = F':=by
 obtain ⟨p,hp,_,rfl⟩:=h
 obtain ⟨p',hp',_,rfl⟩:=h'
 have e:=uq hp.blk hp'.blk
 simp at e
 obtain ⟨e1,e2,e3,e4,e5,e6,e7,e8,e9,e10⟩:=e
 have hb:=hp.lH
 rw [e1] at hb
 have f1:=PB.uniq hb hp'.lH
 have hpl:=hp.plan.blk
 rw [e2] at hpl
 have e:=uq hpl hp'.plan.blk
 simp at e
 unfold KP.foot
 rw [f1,e2,e3,e4,e5,e6,e9,e10,e.2]
open Classical in
noncomputable def RH (b:MP) (s:KS) (w:World):List Nat:=if h:∃ F,KR w b s F then h.choose else []
theorem gQ {b:MP} {s:KS} {w:World} {F:List Nat} (h:KR w b s F):RH b s w = F:=by
 unfold RH
 rw [dif_pos ⟨F,h⟩]
 exact KR.uniq (Exists.choose_spec (⟨F,h⟩:∃ F,KR w b s F)) h
theorem Fr.abt {w w':World} {D:Nat→Prop} (h:Fr w w' D):∃ L:List Nat,ah w w' L∧∀ k∈L,D k:=by
 classical
 refine ⟨(List.range w.heap.size).filter fun k => decide (D k),⟨h.os,h.tape,h.output,h.size,fun k hk hn => h.block k hk fun hd => hn ?_⟩,fun k hk => ?_⟩
 · simp [List.mem_filter,hk,hd]
 · have:=(List.mem_filter.1 hk).2
   simpa using this
def Same (G:Nat→Option Obj) (w:World):Prop:=∀ g,g < 8→w.heap[g]? = G g
theorem Same.aj {G:Nat→Option Obj} {w w':World} {L:List Nat} (h:Same G w) (hz:8≤w.heap.size) (hc:ah w w' L) (hL:∀ k∈L,8≤k):Same G w':=fun g hg => by
 rw [hc.block g (by omega) (fun hm => by have:=hL g hm; omega)]
 exact h g hg
def BO (G:Nat→Option Obj) (X:List Nat) (w:World):Prop:=∀ g∈X,g < w.heap.size∧w.heap[g]? = G g
def RI (X:List Nat):List Nat:=List.range 8 ++ X
theorem BO.aj {G:Nat→Option Obj} {X:List Nat} {w w':World} {L:List Nat} (h:BO G X w) (hc:ah w w' L) (hL:∀ g∈X,g∉L):BO G X w':=fun g hg => by
 obtain ⟨h1,h2⟩:=h g hg
 exact ⟨Nat.lt_of_lt_of_le h1 hc.size,(hc.block g h1 (hL g hg)).trans h2⟩
theorem KX {F1 F:List Nat} {w:World} {R:List Nat} (hs:Sub F1 F w):∀ k∈F1 ++ R,k∈F ++ R∨w.heap.size≤k:=fun k hk => by
 rcases List.mem_append.1 hk with hk | hk
 · exact (hs k hk).imp_left (List.mem_append_left _)
 · exact .inl (List.mem_append_right _ hk)
theorem RJ {G:Nat→Option Obj} {X:List Nat} {w w':World} {F:List Nat} (hf:Fr w w' (·∈F ++ RI X)) (h:Same G w) (h':Same G w') (hx:BO G X w) (hx':BO G X w'):ah w w' F :=
 ⟨hf.os,hf.tape,hf.output,hf.size,fun k hk hn => by
   by_cases hq:k < 8
   · rw [h k hq,h' k hq]
   · by_cases hX:k∈X
     · rw [(hx k hX).2,(hx' k hX).2]
     · exact hf.block k hk (fun hm => by
        rcases List.mem_append.1 hm with hm | hm
        · exact hn hm
        · rcases List.mem_append.1 hm with hm | hm
          · exact hq (List.mem_range.1 hm)
          · exact hX hm)⟩
theorem ah.YH {w w':World} {F:List Nat} {R:List Nat} (h:ah w w' F):ah w w' (F ++ R):=h.more fun k hk => .inl (List.mem_append_left _ hk)
theorem KY {X F F':List Nat} {w:World} {G:Nat→Option Obj} (hx:BO G X w) (h:∀ g∈X,g∉F) (hs:Sub F' F w):∀ g∈X,g∉F':=fun g hg hm => by
 have:=(hx g hg).1
 rcases hs g hm with h1 | h1
 · exact h g hg h1
 · omega
noncomputable def oG (b:MP) (G:Nat→Option Obj) (X:List Nat):dV Tryz.prog where
 σ:=KS
 I:=fun s w => (∃ F,KR w b s F∧∀ g∈X,g∉F)∧Same G w∧BO G X w
 fp:=fun s w => RH b s w ++ RI X
 lt:=fun s w ⟨⟨F,h,hX⟩,_,hS⟩ d hd => by
  rw [gQ h] at hd
  rcases List.mem_append.1 hd with hd | hd
  · exact h.lt d hd
  · rcases List.mem_append.1 hd with hd | hd
    · have:=List.mem_range.1 hd; have:=h.iC.size; omega
    · exact (hS d hd).1
 keep:=fun s w w' D ⟨⟨F,h,hX⟩,hG,hS⟩ hf hD => by
  rw [gQ h] at hD
  obtain ⟨L,hc,hL⟩:=hf.abt
  have hq:∀ k∈L,8≤k:=fun k hk => by
   have:=hD k (hL k hk)
   simp only [RI,List.mem_append,List.mem_range,not_or] at this
   omega
  have hx:∀ g∈X,g∉L:=fun g hg hm => hD g (hL g hm) (List.mem_append_right _ (List.mem_append_right _ hg))
  have h':KR w' b s F:=h.aj hc (fun k hk hm => hD k (hL k hm) (List.mem_append_left _ hk)) hq
  exact ⟨⟨⟨F,h',hX⟩,hG.aj h.iC.size hc hq,hS.aj hc hx⟩,by rw [gQ h,gQ h']⟩
 step:=fun s f cas v s' => ∀ (w:World) (args:List Value) (F:List Nat),KR w b s F→dQ (F ++ RI X) w args cas→Calls Tryz.prog f args.toArray w (gu v s' b F w)
 Dj:=fun s f recv n i s1 => f = 408∧recv = .pointer (some ⟨b.a,0,none⟩)∧∃ m:Nat,n = (m:Int)∧i = .int .i64 (s.used:Int)∧s1 = s.Dj m∧s.can 1 = true∧1≤m∧m≤32767∧s.depth≤10
 fin:=fun s s2 f s' => f = 408∧s' = s2.fin (s.names + 2)∧s2.depth = s.depth + 1∧s2.nc≤799980
 step_ok:=fun s w f args cas v s' ⟨⟨F,h,hX⟩,hG,hS⟩ ha hs => by
  rw [gQ h] at ha
  refine (hs w args F h ha).mono fun e w' hq => ?_
  obtain ⟨he,hc,F',hsub,hk⟩:=hq
  refine ⟨he,⟨⟨F',hk,KY hS hX hsub⟩,hG.aj h.iC.size hc h.high,hS.aj hc hX⟩,?_,fun d hd => ?_⟩
  · rw [gQ h]
    exact Fr.zT (ah.YH hc)
  · rw [gQ hk] at hd
    rw [gQ h]
    exact KX hsub d hd
 EG:=fun s w f recv n i bf first cap s1 s2 s' ⟨⟨F,h,hX⟩,hG,hS⟩ hb hf hcl hbody => by
  obtain ⟨rfl,rfl,m,rfl,rfl,rfl,hcan,hm1,hm2,hd⟩:=hb
  obtain ⟨_,rfl,hd2,hn2⟩:=hf
  have hnc:=(kC hcan).2.2
  refine (UU h m bf first.toArray cap.toArray s2 hd hm1 hm2 hcan hnc hd2 (by omega) hcl fun w1 F1 hk1 hc1 hs1 => ?_).mono fun e w' hq => ?_
  · have hG1:=hG.aj h.iC.size hc1 h.high
    have hS1:=hS.aj hc1 hX
    have hX1:=KY hS hX hs1
    have hb1:=hbody w1 ⟨⟨F1,hk1,hX1⟩,hG1,hS1⟩ (by rw [gQ h]; exact Fr.zT (ah.YH hc1)) (fun d hd => by
     rw [gQ hk1] at hd
     rw [gQ h]
     exact KX hs1 d hd)
    rw [show first.toArray ++ #[Value.int .i64 (s.used:Int)] ++ cap.toArray = (first ++ [Value.int .i64 (s.used:Int)] ++ cap).toArray by simp]
    refine hb1.mono fun e w2 hq => ?_
    obtain ⟨he,⟨⟨F2,hk2,hX2⟩,hG2,hS2⟩,hf2,hg2⟩:=hq
    rw [gQ hk1] at hf2 hg2
    rw [gQ hk2] at hg2
    refine ⟨he,RJ hf2 hG1 hG2 hS1 hS2,F2,fun k hk => ?_,hk2⟩
    rcases hg2 k (List.mem_append_left _ hk) with h1 | h1
    · rcases List.mem_append.1 h1 with h1 | h1
      · exact .inl h1
      · rcases List.mem_append.1 h1 with h1 | h1
        · have:=List.mem_range.1 h1; have:=hk2.high k hk; omega
        · exact absurd hk (hX2 k h1)
    · exact .inr h1
  · obtain ⟨he,hc,F',hsub,hk⟩:=hq
    refine ⟨he,⟨⟨F',hk,KY hS hX hsub⟩,hG.aj h.iC.size hc h.high,hS.aj hc hX⟩,?_,fun d hd => ?_⟩
    · rw [gQ h]
      exact Fr.zT (ah.YH hc)
    · rw [gQ hk] at hd
      rw [gQ h]
      exact KX hsub d hd
inductive KA where
 | bare (p:Addr)
 | n (x:Nat)
 | c (x:Int)
 | li (l:List Int)
 | ln (l:List Nat)
def KA.Is (fp:List Nat) (w:World):KA→Value→Prop
 | .bare p,v => v = .pointer (some p)
 | .n x,v => v = .int .i64 (x:Int)
 | .c x,v => v = .int .i32 x∧aB x
 | .li l,v => Sl w v (aZ l)∧∀ A n c,v = .slice (some A) n c→A.block∉fp
 | .ln l,v => Sl w v (ints l)∧∀ A n c,v = .slice (some A) n c→A.block∉fp
def E5 (fp:List Nat) (w:World):List KA→List Value→Prop
 | [],[] => True
 | a :: l,v :: vs => a.Is fp w v∧E5 fp w l vs
 | _,_ => False
def Gi (ρ:List Nat):AV→Option Nat
 | .opq i => nth ρ i
 | .lit (.int .i64 (.ofNat m)) => some m
 | _ => none
def uO:List AV→Option (List Int)
 | [] => some []
 | .lit (.int .i32 n) :: l => match uO l with | some r => some (n :: r) | none => none
 | _ => none
def Hy (ρ:List Nat):List AV→Option (List Nat)
 | [] => some []
 | a :: l => match Gi ρ a with
  | some x => (match Hy ρ l with | some xs => some (x :: xs) | none => none)
  | none => none
def pk1 (ρ:List Nat):EA→Option KA
 | .v (.lit (.pointer (some p))) => some (.bare p)
 | .v (.lit (.int .i32 n)) => bif (Lit.int .i32 n).wf then some (.c n) else none
 | .v a => match Gi ρ a with | some x => some (.n x) | none => none
 | .l cs => match uO cs with
  | some l => some (.li l)
  | none => match Hy ρ cs with
   | some l => some (.ln l)
   | none => none
def RV (ρ:List Nat):List EA→Option (List KA)
 | [] => some []
 | a :: l => match pk1 ρ a,RV ρ l with | some x,some xs => some (x :: xs) | _,_ => none
def mJ:List KA→List Addr
 | [] => []
 | .bare p :: l => p :: mJ l
 | _ :: l => mJ l
def jY (ρ:List Nat) (ρF:Nat→Value):Prop:=∀ (i x:Nat),ρ[i]? = some x→ρF i = .int .i64 (x:Int)
theorem jY.of_append {ρ τ:List Nat} {ρF:Nat→Value} (h:jY (ρ ++ τ) ρF):jY ρ ρF:=fun i v hv => h i v (by
 have:=(List.getElem?_eq_some_iff.1 hv).1
 rw [List.getElem?_append_left this]; exact hv)
theorem Jm {ρ:List Nat} {ρF:Nat→Value} (hF:jY ρ ρF) {a:AV} {x:Nat} (h:Gi ρ a = some x):a.au (E0 ρF) = .int .i64 (x:Int):=by
 unfold Gi at h
 split at h
 · rw [nZ] at h
   exact hF _ x h
 · injection h with h
   subst h
   rfl
 · cases h
theorem abw {ρF:Nat→Value}:∀ {l:List AV} {r:List Int},uO l = some r→aA (E0 ρF) l = aZ r
 | [],r,h => by unfold uO at h; injection h with h; subst h; rfl
 | .lit v :: l,r,h => by
  cases v with
  | int k n =>
   cases k with
   | i32 =>
    unfold uO at h
    cases hl:uO l with
    | none => rw [hl] at h; cases h
    | some q =>
     rw [hl] at h
     injection h with h
     subst h
     have:=abw (ρF:=ρF) hl
     show Value.int .i32 n :: aA (E0 ρF) l = Value.int .i32 n :: aZ q
     rw [this]
   | _ => unfold uO at h; cases h
  | _ => unfold uO at h; cases h
 | .opq _ :: _,_,h => by unfold uO at h; cases h
 | .ptr _ _ :: _,_,h => by unfold uO at h; cases h
 | .slc _ _ _ _ :: _,_,h => by unfold uO at h; cases h
 | .row _ _ :: _,_,h => by unfold uO at h; cases h
 | .fn _ _ _ :: _,_,h => by unfold uO at h; cases h
 | .qY _ _ :: _,_,h => by unfold uO at h; cases h
 | .agg _ :: _,_,h => by unfold uO at h; cases h
 | .iW _ :: _,_,h => by unfold uO at h; cases h
theorem V_ {ρ:List Nat} {ρF:Nat→Value} (hF:jY ρ ρF):∀ {l:List AV} {r:List Nat},Hy ρ l = some r→aA (E0 ρF) l = ints r
 | [],r,h => by unfold Hy at h; injection h with h; subst h; rfl
 | a :: l,r,h => by
  unfold Hy at h
  cases h1:Gi ρ a with
  | none => rw [h1] at h; cases h
  | some x =>
   rw [h1] at h
   simp only [] at h
   cases h2:Hy ρ l with
   | none => rw [h2] at h; cases h
   | some xs =>
    rw [h2] at h
    injection h with h
    subst h
    show a.au (E0 ρF) :: aA (E0 ρF) l = .int .i64 (x:Int) :: ints xs
    rw [Jm hF h1,V_ hF h2]
theorem Wh {n:Int} (h:(Lit.int .i32 n).wf = true):aB n:=by
 simp only [Lit.wf,IntKind.min,IntKind.max,IntKind.signed,IntKind.bits] at h
 simp at h
 unfold aB
 omega
theorem akt {ρ:List Nat} {ρF:Nat→Value} (hF:jY ρ ρF) {fp:List Nat} {w:World} {v:Value} {a:EA} {m:KA} (h:pk1 ρ a = some m) (hv:Oq fp w v (a.au (E0 ρF))):m.Is fp w v:=by
 unfold pk1 at h
 split at h
 · injection h with h
   subst h
   exact hv
 · rename_i n
   cases hw:(Lit.int .i32 n).wf with
   | false => rw [hw] at h; cases h
   | true =>
    rw [hw] at h
    injection h with h
    subst h
    exact ⟨hv,Wh hw⟩
 · rename_i a' _ _
   cases hp:Gi ρ a' with
   | none => rw [hp] at h; cases h
   | some x =>
    rw [hp] at h
    injection h with h
    subst h
    have e:v = a'.au (E0 ρF):=hv
    rw [Jm hF hp] at e
    exact e
 · rename_i cs
   cases hp:uO cs with
   | none =>
    rw [hp] at h
    simp only [] at h
    cases hq:Hy ρ cs with
    | none => rw [hq] at h; cases h
    | some l =>
     rw [hq] at h
     injection h with h
     subst h
     obtain ⟨h1,h2⟩:=hv
     rw [V_ hF hq] at h1
     exact ⟨h1,h2⟩
   | some l =>
    rw [hp] at h
    injection h with h
    subst h
    obtain ⟨h1,h2⟩:=hv
    rw [abw hp] at h1
    exact ⟨h1,h2⟩
theorem RX {ρ:List Nat} {ρF:Nat→Value} (hF:jY ρ ρF) {fp:List Nat} {w:World}:∀ {l:List EA} {us:List KA} {args:List Value},RV ρ l = some us→dQ fp w args (l.map (EA.au (E0 ρF)))→E5 fp w us args
 | [],us,args,h,ha => by
  unfold RV at h; injection h with h; subst h
  cases args with
  | nil => trivial
  | cons _ _ => exact ha.elim
 | a :: l,us,args,h,ha => by
  unfold RV at h
  cases h1:pk1 ρ a with
  | none => rw [h1] at h; cases h
  | some x =>
   cases h2:RV ρ l with
   | none => rw [h1,h2] at h; cases h
   | some ys =>
    rw [h1,h2] at h
    injection h with h
    subst h
    cases args with
    | nil => exact ha.elim
    | cons v vs => exact ⟨akt hF h1 ha.1,RX hF h2 ha.2⟩
def YK {γ:Type} (f:FuncId) (us:List KA) (s:KS) (k:Option Nat→KS→Option γ):Option γ :=
 bif Nat.beq f 406 then (match us with | [.bare _,.n op,.n a,.n c] => opR s op a c none fun x s' => k (some x) s' | _ => none)
 else bif Nat.beq f 405 then (match us with | [.bare _,.c n] => Q5 s n none fun x s' => k (some x) s' | _ => none)
 else bif Nat.beq f 77 then (match us with | [.bare _,.n v] => OB s v none fun x s' => k (some x) s' | _ => none)
 else bif Nat.beq f 46 then (match us with | [.bare _,.n v] => OB s v none fun x s' => k (some x) s' | _ => none)
 else bif Nat.beq f 50 then (match us with | [.bare _,.n c,.n v] => adN s c v none fun s' => k none s' | _ => none)
 else bif Nat.beq f 404 then (match us with | [.bare _,.n t,.n i] => atR s t i none fun x s' => k (some x) s' | _ => none)
 else bif Nat.beq f 409 then (match us with | [.bare _,.li l] => RP s l none fun x s' => k (some x) s' | _ => none)
 else bif Nat.beq f 407 then (match us with | [.bare _,.ln l] => YJ s l none fun x s' => k (some x) s' | _ => none)
 else none
def ovK:Option Nat→Value
 | some x => .int .i64 (x:Int)
 | none => .tuple #[]
theorem ka2 {fp:List Nat} {w:World} {a c:KA} {args:List Value} (h:E5 fp w [a,c] args):∃ v1 v2,args = [v1,v2]∧a.Is fp w v1∧c.Is fp w v2:=by
 match args,h with
 | [v1,v2],⟨h1,h2,_⟩ => exact ⟨v1,v2,rfl,h1,h2⟩
theorem ka3 {fp:List Nat} {w:World} {a c d:KA} {args:List Value} (h:E5 fp w [a,c,d] args):∃ v1 v2 v3,args = [v1,v2,v3]∧a.Is fp w v1∧c.Is fp w v2∧d.Is fp w v3:=by
 match args,h with
 | [v1,v2,v3],⟨h1,h2,h3,_⟩ => exact ⟨v1,v2,v3,rfl,h1,h2,h3⟩
theorem ka4 {fp:List Nat} {w:World} {a c d e:KA} {args:List Value} (h:E5 fp w [a,c,d,e] args):∃ v1 v2 v3 v4,args = [v1,v2,v3,v4]∧a.Is fp w v1∧c.Is fp w v2∧d.Is fp w v3∧e.Is fp w v4:=by
 match args,h with
 | [v1,v2,v3,v4],⟨h1,h2,h3,h4,_⟩ => exact ⟨v1,v2,v3,v4,rfl,h1,h2,h3,h4⟩
theorem ad_ {γ:Type} {b:MP} {R:List Nat} {f:FuncId} {us:List KA} {s:KS} {k:Option Nat→KS→Option γ} {y:γ} (h:YK f us s k = some y) :
 ∃ o s',k o s' = some y∧((∀ p∈mJ us,p = ⟨b.a,0,none⟩)→∀ (w:World) (args:List Value) (F:List Nat),KR w b s F→E5 (F ++ R) w us args→Calls Tryz.prog f args.toArray w (gu (ovK o) s' b F w)):=by
 unfold YK at h
 cases h1:Nat.beq f 406 with
 | true =>
  rw [h1] at h
  obtain rfl:=beq_iff.1 h1
  simp only [cond_true] at h
  split at h
  · rename_i p op a c
    obtain ⟨g1,g2,g3,g4,g5,g6⟩:=ajG h
    refine ⟨_,_,g6,fun hp w args F hk ha => ?_⟩
    obtain rfl:=hp p (by simp [mJ])
    obtain ⟨v1,v2,v3,v4,rfl,rfl,rfl,rfl,rfl⟩:=ka4 ha
    exact adZ hk op a c g2 g3 g4 g5 g1
  · cases h
 | false =>
 rw [h1] at h
 cases h2:Nat.beq f 405 with
 | true =>
  rw [h2] at h
  obtain rfl:=beq_iff.1 h2
  simp only [cond_true,cond_false] at h
  split at h
  · rename_i p n
    obtain ⟨g1,g2⟩:=aa6 h
    refine ⟨_,_,g2,fun hp w args F hk ha => ?_⟩
    obtain rfl:=hp p (by simp [mJ])
    obtain ⟨v1,v2,rfl,rfl,rfl,hn⟩:=ka2 ha
    exact UO hk n hn g1
  · cases h
 | false =>
 rw [h2] at h
 cases h3:Nat.beq f 77 with
 | true =>
  rw [h3] at h
  obtain rfl:=beq_iff.1 h3
  simp only [cond_true,cond_false] at h
  split at h
  · rename_i p v
    obtain ⟨g1,g2,g3⟩:=Q7 h
    refine ⟨_,_,g3,fun hp w args F hk ha => ?_⟩
    obtain rfl:=hp p (by simp [mJ])
    obtain ⟨v1,v2,rfl,rfl,rfl⟩:=ka2 ha
    exact Ji hk v g2 g1
  · cases h
 | false =>
 rw [h3] at h
 cases h4:Nat.beq f 46 with
 | true =>
  rw [h4] at h
  obtain rfl:=beq_iff.1 h4
  simp only [cond_true,cond_false] at h
  split at h
  · rename_i p v
    obtain ⟨g1,g2,g3⟩:=Q7 h
    refine ⟨_,_,g3,fun hp w args F hk ha => ?_⟩
    obtain rfl:=hp p (by simp [mJ])
    obtain ⟨v1,v2,rfl,rfl,rfl⟩:=ka2 ha
    exact MW hk v g2 g1
  · cases h
 | false =>
 rw [h4] at h
 cases h5:Nat.beq f 50 with
 | true =>
  rw [h5] at h
  obtain rfl:=beq_iff.1 h5
  simp only [cond_true,cond_false] at h
  split at h
  · rename_i p c v
    obtain ⟨g1,g2,g3,g4⟩:=ag9 h
    refine ⟨_,_,g4,fun hp w args F hk ha => ?_⟩
    obtain rfl:=hp p (by simp [mJ])
    obtain ⟨v1,v2,v3,rfl,rfl,rfl,rfl⟩:=ka3 ha
    exact BI hk c v g3 g2 (by have:=(kC g1).2.2; omega)
  · cases h
 | false =>
 rw [h5] at h
 cases h6:Nat.beq f 404 with
 | true =>
  rw [h6] at h
  obtain rfl:=beq_iff.1 h6
  simp only [cond_true,cond_false] at h
  split at h
  · rename_i p t i
    obtain ⟨g1,g2,a,g3,g4,g5⟩:=aks h
    refine ⟨_,_,g5,fun hp w args F hk ha => ?_⟩
    obtain rfl:=hp p (by simp [mJ])
    obtain ⟨v1,v2,v3,rfl,rfl,rfl,rfl⟩:=ka3 ha
    exact abv hk t i a g3 g4 g2 g1
  · cases h
 | false =>
 rw [h6] at h
 cases h7:Nat.beq f 409 with
 | true =>
  rw [h7] at h
  obtain rfl:=beq_iff.1 h7
  simp only [cond_true,cond_false] at h
  split at h
  · rename_i p l
    obtain ⟨g1,g2,g3,g4⟩:=abu h
    refine ⟨_,_,g4,fun hp w args F hk ha => ?_⟩
    obtain rfl:=hp p (by simp [mJ])
    obtain ⟨v1,v2,rfl,rfl,hs,hd⟩:=ka2 ha
    exact RU hk hs (fun A n c e hm => hd A n c e (List.mem_append_left _ hm)) (fun x hx => Wh (g3 x hx)) g2 g1
  · cases h
 | false =>
 rw [h7] at h
 cases h8:Nat.beq f 407 with
 | true =>
  rw [h8] at h
  obtain rfl:=beq_iff.1 h8
  simp only [cond_true,cond_false] at h
  split at h
  · rename_i p l
    obtain ⟨g1,g2,g3,g4,g5⟩:=ad9 h
    refine ⟨_,_,g5,fun hp w args F hk ha => ?_⟩
    obtain rfl:=hp p (by simp [mJ])
    obtain ⟨v1,v2,rfl,rfl,hs,hd⟩:=ka2 ha
    exact UZ hk hs (fun A n c e hm => hd A n c e (List.mem_append_left _ hm)) g3 g2 g1 g4
  · cases h
 | false =>
 rw [h8] at h
 simp only [cond_false] at h
 cases h
def BP (r:AV) (n:Int):Option (Addr × Nat):=match r with
 | .lit (.pointer (some p)) => (match n with | .ofNat m => some (p,m) | _ => none)
 | _ => none
theorem U0 {r:AV} {n:Int} {p:Addr} {m:Nat} (h:BP r n = some (p,m)):r = .lit (.pointer (some p))∧n = (m:Int):=by
 unfold BP at h
 split at h
 · split at h
   · injection h with h
     injection h with h1 h2
     subst h1 h2
     exact ⟨rfl,rfl⟩
   · cases h
 · cases h
def runK {γ:Type}:Nat→List Ev→List Nat→List Addr→KS→(List Nat→List Addr→KS→Option γ)→Option γ
 | 0,_,_,_,_,_ => none
 | f + 1,δ,ρ,ps,s,k => match δ with
  | [] => k ρ ps s
  | .call g args out :: l => (match RV ρ args with
   | some us => YK g us s fun o s' => (match o with
    | some x => (match out with
     | .opq i => bif Nat.beq i (aG ρ) then fL (ρ ++ [x]) fun ρ' => runK f l ρ' (mJ us ++ ps) s' k else none
     | _ => none)
    | none => (match out with
     | .iW [] => runK f l ρ (mJ us ++ ps) s' k
     | _ => none))
   | none => none)
  | .loop g r n i body :: l => (match BP r n with
   | some (p,m) => bif Nat.beq g 408 && Nat.beq i (aG ρ) then adO s m none fun s1 => fL (ρ ++ [s.used]) fun ρ1 => runK f body ρ1 (p :: ps) s1 fun ρ2 ps2 s2 => adP s2 s.depth (s.names + 2) none fun s' => runK f l ρ2 ps2 s' k else none
   | none => none)
  | .zk _ _ _ :: _ => none
theorem aby {ρ:List Nat} {x:Nat} {ρF:Nat→Value} (h:jY (ρ ++ [x]) ρF):ρF (aG ρ) = .int .i64 (x:Int):=h _ _ (by unfold aG; simp)
theorem lM {γ:Type} {b:MP} {G:Nat→Option Obj} {X:List Nat} {y:γ}:∀ (f:Nat) {δ:List Ev} {ρ:List Nat} {ps:List Addr} {s:KS} {k:List Nat→List Addr→KS→Option γ},runK f δ ρ ps s k = some y →
 ∃ ρ' ps' s',k ρ' ps' s' = some y∧(∃ τ,ρ' = ρ ++ τ)∧(∃ σ,ps' = σ ++ ps)∧∀ ρF,(∀ p∈ps',p = ⟨b.a,0,none⟩)→jY ρ' ρF→fF (oG b G X) ρF δ s s'
 | 0,δ,ρ,ps,s,k,h => by unfold runK at h; cases h
 | f + 1,[],ρ,ps,s,k,h => ⟨ρ,ps,s,h,⟨[],by simp⟩,⟨[],by simp⟩,fun _ _ _ => rfl⟩
 | f + 1,.call g args out :: l,ρ,ps,s,k,h => by
  unfold runK at h
  simp only [] at h
  cases hu:RV ρ args with
  | none => rw [hu] at h; cases h
  | some us =>
   rw [hu] at h
   simp only [] at h
   obtain ⟨o,s1,hk,hc⟩:=ad_ (b:=b) (R:=RI X) h
   cases o with
   | some x =>
    simp only [] at hk
    split at hk
    · rename_i i
      cases hi:Nat.beq i (aG ρ) with
      | false => rw [hi] at hk; cases hk
      | true =>
       rw [hi] at hk
       obtain rfl:=beq_iff.1 hi
       simp only [cond_true,qc] at hk
       obtain ⟨ρ',ps',s',h1,⟨τ,rfl⟩,⟨σ,rfl⟩,h4⟩:=lM (b:=b) (G:=G) (X:=X) f hk
       refine ⟨_,_,s',h1,⟨x :: τ,by simp⟩,⟨σ ++ mJ us,by simp⟩,fun ρF hps hF => ⟨s1,?_,h4 ρF hps hF⟩⟩
       show (oG b G X).step s g (args.map (EA.au (E0 ρF))) (ρF (aG ρ)) s1
       rw [aby hF.of_append]
       exact fun w xs F hkr hxs => hc (fun p hp => hps p (by simp [hp])) w xs F hkr (RX hF.of_append.of_append hu hxs)
    · cases hk
   | none =>
    simp only [] at hk
    split at hk
    · obtain ⟨ρ',ps',s',h1,⟨τ,rfl⟩,⟨σ,rfl⟩,h4⟩:=lM (b:=b) (G:=G) (X:=X) f hk
      refine ⟨_,_,s',h1,⟨τ,rfl⟩,⟨σ ++ mJ us,by simp⟩,fun ρF hps hF => ⟨s1,?_,h4 ρF hps hF⟩⟩
      exact fun w xs F hkr hxs => hc (fun p hp => hps p (by simp [hp])) w xs F hkr (RX hF.of_append hu hxs)
    · cases hk
 | f + 1,.zk _ _ _ :: l,ρ,ps,s,k,h => by unfold runK at h; cases h
 | f + 1,.loop g r n i body :: l,ρ,ps,s,k,h => by
  unfold runK at h
  simp only [] at h
  cases hla:BP r n with
  | none => rw [hla] at h; cases h
  | some q =>
   obtain ⟨p,m⟩:=q
   rw [hla] at h
   simp only [] at h
   obtain ⟨rfl,rfl⟩:=U0 hla
   have hq:=jd h
   clear h hla
   obtain ⟨hc,h⟩:=hq
   simp only [Bool.and_eq_true] at hc
   obtain ⟨hg,hi⟩:=hc
   have hg:=beq_iff.1 hg
   have hi:=beq_iff.1 hi
   obtain ⟨g1,g2,g3,g4,h⟩:=ag_ h
   simp only [qc] at h
   obtain ⟨ρ2,ps2,s2,h,⟨τ,rfl⟩,⟨σ,rfl⟩,hb⟩:=lM (b:=b) (G:=G) (X:=X) f h
   obtain ⟨g5,g6,h⟩:=aha h
   obtain ⟨ρ',ps',s',h1,⟨τ',rfl⟩,⟨σ',rfl⟩,h4⟩:=lM (b:=b) (G:=G) (X:=X) f h
   refine ⟨_,_,s',h1,⟨s.used :: (τ ++ τ'),by simp⟩,⟨σ' ++ σ ++ [p],by simp⟩,fun ρF hps hF => ⟨s2.fin (s.names + 2),?_,h4 ρF hps hF⟩⟩
   refine ⟨s.Dj m,s2,⟨hg,?_,m,rfl,?_,rfl,g1,g2,g3,g4⟩,hb ρF (fun q hq => hps q (List.mem_append_right _ hq)) hF.of_append,⟨hg,rfl,g5,g6⟩⟩
   · rw [← hps p (by simp)]
     rfl
   · rw [hi]
     exact aby hF.of_append.of_append
inductive KO where
 | one (x:Nat)
 | iW (l:List Nat)
 | arr (l:List Nat)
def gG (x:Nat):Value:=.int .i64 (x:Int)
def KO.val:KO→Value
 | .one x => gG x
 | .iW l => .tuple (l.map gG).toArray
 | .arr l => .agg (l.map gG).toArray
def BQ (ρ:List Nat):List AV→Option (List Nat)
 | [] => some []
 | a :: l => match Gi ρ a,BQ ρ l with | some x,some xs => some (x :: xs) | _,_ => none
theorem K_ {ρ:List Nat} {ρF:Nat→Value} (hF:jY ρ ρF):∀ {l:List AV} {xs:List Nat},BQ ρ l = some xs→aA (E0 ρF) l = xs.map gG
 | [],xs,h => by unfold BQ at h; injection h with h; subst h; rfl
 | a :: l,xs,h => by
  unfold BQ at h
  cases h1:Gi ρ a with
  | none => rw [h1] at h; cases h
  | some x =>
   cases h2:BQ ρ l with
   | none => rw [h1,h2] at h; cases h
   | some ys =>
    rw [h1,h2] at h
    injection h with h
    subst h
    show a.au (E0 ρF) :: aA (E0 ρF) l = _
    rw [Jm hF h1,K_ hF h2]
    rfl
end Go.Proofs.YtjcgiddgafjdpaaGreatDoor.Xi

/- Xi: what a run on a maker sees of the program. -/
namespace Go.Proofs.YtjcgiddgafjdpaaGreatDoor.Xi
open Go Go.RowKit Go.Proofs.YtjcgiddgafjdpaaGreatDoor.Ab
set_option linter.unusedVariables false
theorem aea (a : Addr) (w : World) : (method 542 88 (.pointer (some a)) "Const").run Tryz.prog w = .ok (405, .pointer (some a)) w := by kernel_rfl
theorem anq (a : Addr) (w : World) : (method 542 88 (.pointer (some a)) "Do").run Tryz.prog w = .ok (406, .pointer (some a)) w := by kernel_rfl
theorem aht (a : Addr) (w : World) : (method 542 88 (.pointer (some a)) "Cell").run Tryz.prog w = .ok (77, .pointer (some a)) w := by kernel_rfl
theorem aku (a : Addr) (w : World) : (method 542 88 (.pointer (some a)) "Get").run Tryz.prog w = .ok (46, .pointer (some a)) w := by kernel_rfl
theorem akv (a : Addr) (w : World) : (method 542 88 (.pointer (some a)) "Set").run Tryz.prog w = .ok (50, .pointer (some a)) w := by kernel_rfl
theorem anr (a : Addr) (w : World) : (method 542 88 (.pointer (some a)) "At").run Tryz.prog w = .ok (404, .pointer (some a)) w := by kernel_rfl
theorem aeb (a : Addr) (w : World) : (method 542 88 (.pointer (some a)) "Table").run Tryz.prog w = .ok (409, .pointer (some a)) w := by kernel_rfl
theorem ahu (a : Addr) (w : World) : (method 542 88 (.pointer (some a)) "Fill").run Tryz.prog w = .ok (407, .pointer (some a)) w := by kernel_rfl
theorem ahv (a : Addr) (w : World) : (method 542 88 (.pointer (some a)) "Loop").run Tryz.prog w = .ok (408, .pointer (some a)) w := by kernel_rfl
def mtK (n:String):Option FuncId:=match n with
 | "Const" => some 405
 | "Do" => some 406
 | "Cell" => some 77
 | "Get" => some 46
 | "Set" => some 50
 | "Loop" => some 408
 | "At" => some 404
 | "Table" => some 409
 | "Fill" => some 407
 | _ => none
set_option maxRecDepth 100000 in
theorem YL:Tryz.prog.types.size + Made.depth = 542:=by kernel_rfl
set_option maxRecDepth 100000 in
theorem akw {n:String} {g:FuncId} (h:mtK n = some g) (a:Addr) (w:World):(method (Tryz.prog.types.size + Made.depth) 88 (.pointer (some a)) n).run Tryz.prog w = .ok (g,.pointer (some a)) w:=by
 rw [YL]
 unfold mtK at h
 split at h
 · obtain rfl:=Option.some.inj h
   exact aea a w
 · obtain rfl:=Option.some.inj h
   exact anq a w
 · obtain rfl:=Option.some.inj h
   exact aht a w
 · obtain rfl:=Option.some.inj h
   exact aku a w
 · obtain rfl:=Option.some.inj h
   exact akv a w
 · obtain rfl:=Option.some.inj h
   exact ahv a w
 · obtain rfl:=Option.some.inj h
   exact anr a w
 · obtain rfl:=Option.some.inj h
   exact aeb a w
 · obtain rfl:=Option.some.inj h
   exact ahu a w
 · cases h
noncomputable def cxK:Cx where
 P:=Tryz.prog
 ev:=fun f _ nv => bif Nat.beq f 50 then some (.iW [],0) else bif Nat.beq f 406 || (Nat.beq f 405 || (Nat.beq f 77 || (Nat.beq f 46 || (Nat.beq f 404 || (Nat.beq f 409 || Nat.beq f 407))))) then some (.opq nv,1) else none
 lp:=fun f => Nat.beq f 408
 mt:=fun t n => bif Nat.beq t 88 then mtK n else none
 br:=fun _ => none
set_option maxRecDepth 100000 in
theorem abz:vg cxK:=fun t n g h a w => by
 have h':(bif Nat.beq t 88 then mtK n else none) = some g:=h
 cases ht:Nat.beq t 88 with
 | false => rw [ht] at h'; cases h'
 | true =>
  rw [ht] at h'
  rw [beq_iff] at ht
  subst ht
  exact akw h' a w
def Jo (b:MP):AV:=.agg [.qY 88 (.lit (.pointer (some ⟨b.a,0,none⟩)))]
end Go.Proofs.YtjcgiddgafjdpaaGreatDoor.Xi

/- A kernel's image: what all have in common. -/
namespace Go.Proofs.YtjcgiddgafjdpaaGreatDoor
open Go Go.RowKit Go.Deep Go.Maps Go.Proofs.YtjcgiddgafjdpaaGreatDoor.Ab Go.Proofs.YtjcgiddgafjdpaaGreatDoor.Xi
set_option linter.unusedVariables false
attribute [local go_sem] Oper.semAt_some
set_option maxRecDepth 100000 in
theorem YM (b:Nat) (w:World):Calls Tryz.prog 48 #[.pointer (some ⟨b,0,none⟩)] w fun e w' => e = .returned (.agg #[.iface 88 (.pointer (some ⟨b,0,none⟩))])∧ah w w' []:=by
 go_enter Tryz.func48,Tryz.ntmps48
 go_wp2
 have hb:=aC.new w 105 [.iface 88 (.pointer (some ⟨b,0,none⟩))]
 refine bodyPost_ret (v:=.agg #[.iface 88 (.pointer (some ⟨b,0,none⟩))]) (results_cell_row rfl _ _ w.heap.size 105 _ (0,0) _ rfl hb Tryz.underlying105 rfl (by kernel_rfl)) rfl ⟨rfl,(ah.refl w []).alloc _⟩
def aec:List Value:=[.slice none 0 0,.slice none 0 0,.slice none 0 0,.slice none 0 0,.slice none 0 0]
theorem um.far {w w':World} {v:Value} {code data:List Int} {sec:List Bool} {ins outs:List Nat} {q:Nat} (h:um w v code data sec ins outs) (hb:aC w q 42 aec) (hc:ah w w' [q]):um w' v code data sec ins outs:=by
 obtain ⟨c,d,se,i,o,rfl,h1,h2,h3,h4,h5⟩:=h
 refine ⟨c,d,se,i,o,rfl,h1.bK hc (pV hb h1 ?_),h2.bK hc (pV hb h2 ?_),h3.bK hc (pV hb h3 ?_),h4.bK hc (pV hb h4 ?_),h5.bK hc (pV hb h5 ?_)⟩
 all_goals
  intro u hu hx
  obtain ⟨y,_,rfl⟩:=List.mem_map.1 hx
  simp [aec] at hu
end Go.Proofs.YtjcgiddgafjdpaaGreatDoor

/- Xi: runs on a maker that are given slices, and may answer slices. -/
namespace Go.Proofs.YtjcgiddgafjdpaaGreatDoor.Xi
open Go Go.RowKit Go.Proofs.YtjcgiddgafjdpaaGreatDoor.Ab
set_option linter.unusedVariables false
set_option linter.unusedSimpArgs false
inductive KE where
 | num (x:Nat)
 | arr (l:List Nat)
 | sli (l:List Nat)
def KE.ca:KE→CA
 | .num x => CA.v (gG x)
 | .arr l => CA.v (.agg (l.map gG).toArray)
 | .sli l => CA.l (l.map gG)
def pke (ρ:List Nat):EA→Option KE
 | .v (.agg cs) => match BQ ρ cs with | some l => some (.arr l) | none => none
 | .v a => match Gi ρ a with | some x => some (.num x) | none => none
 | .l cs => match BQ ρ cs with | some l => some (.sli l) | none => none
def BR (ρ:List Nat):List EA→Option (List KE)
 | [] => some []
 | x :: l => match pke ρ x,BR ρ l with | some y,some ys => some (y :: ys) | _,_ => none
theorem akB {ρ:List Nat} {ρF:Nat→Value} (hF:jY ρ ρF) {x:EA} {y:KE} (h:pke ρ x = some y):x.au (E0 ρF) = y.ca:=by
 unfold pke at h
 split at h
 · rename_i cs
   cases hl:BQ ρ cs with
   | none => rw [hl] at h; cases h
   | some xs =>
    rw [hl] at h
    injection h with h
    subst h
    show CA.v (.agg (aA (E0 ρF) cs).toArray) = _
    rw [K_ hF hl]
    rfl
 · rename_i a _
   cases hl:Gi ρ a with
   | none => rw [hl] at h; cases h
   | some xs =>
    rw [hl] at h
    injection h with h
    subst h
    show CA.v (a.au (E0 ρF)) = _
    rw [Jm hF hl]
    rfl
 · rename_i cs
   cases hl:BQ ρ cs with
   | none => rw [hl] at h; cases h
   | some xs =>
    rw [hl] at h
    injection h with h
    subst h
    show CA.l (aA (E0 ρF) cs) = _
    rw [K_ hF hl]
    rfl
theorem Wi {ρ:List Nat} {ρF:Nat→Value} (hF:jY ρ ρF):∀ {l:List EA} {ys:List KE},BR ρ l = some ys→l.map (EA.au (E0 ρF)) = ys.map KE.ca
 | [],ys,h => by unfold BR at h; injection h with h; subst h; rfl
 | x :: l,ys,h => by
  unfold BR at h
  cases h1:pke ρ x with
  | none => rw [h1] at h; cases h
  | some y =>
   cases h2:BR ρ l with
   | none => rw [h1,h2] at h; cases h
   | some zs =>
    rw [h1,h2] at h
    injection h with h
    subst h
    simp only [List.map_cons]
    rw [akB hF h1,Wi hF h2]
theorem dQ.sub {fp fp':List Nat} {w:World} (hs:∀ k∈fp',k∈fp):∀ {l:List Value} {cs:List CA},dQ fp w l cs→dQ fp' w l cs
 | [],[],_ => trivial
 | a :: l,.v x :: cs,h => ⟨h.1,dQ.sub hs h.2⟩
 | a :: l,.l xs :: cs,h => ⟨⟨h.1.1,fun A n c e hm => h.1.2 A n c e (hs _ hm)⟩,dQ.sub hs h.2⟩
 | [],_ :: _,h => h.elim
 | _ :: _,[],h => h.elim
theorem akC (ρ:List Nat) (ss:List Value):jY ρ (ρS (ρ.map gG) ss):=fun i x hx => by
 have hi:i < ρ.length:=(List.getElem?_eq_some_iff.1 hx).1
 unfold ρS
 rw [if_pos (by simpa using hi),List.getD,List.getElem?_map,hx]
 rfl
theorem Sr {ρ:List Nat}:aG (ρ.map gG) = aG ρ:=by unfold aG; simp
noncomputable def YO (vws:List (List AV)):Cx:={ cxK with vw:=D7 vws }
end Go.Proofs.YtjcgiddgafjdpaaGreatDoor.Xi

/- The filter's image: the runs. -/
namespace Go.Proofs.YtjcgiddgafjdpaaGreatDoor
open Go Go.RowKit Go.Proofs.YtjcgiddgafjdpaaGreatDoor.Ab Go.Proofs.YtjcgiddgafjdpaaGreatDoor.Xi
set_option linter.unusedVariables false
set_option maxRecDepth 100000
noncomputable def cxF:Cx:={ YO [jZ 20 0] with ev:=fun f args nv => bif Nat.beq f 84 then some (.iW [.agg (jZ 4 nv),.opq (nv + 4),.opq (nv + 5)],6) else cxK.ev f args nv }
noncomputable def rF (b:MP):Option (AV × G × List Xi.Ev):=g_ cxF 5000 47 [Jo b,.lit (.int .i64 0),.vw 1000000 0 20,.agg (jZ 7 20)] ⟨.nil,0,27⟩
def YU (b:MP):List AV:=[Jo b,.agg (jZ 4 0),.agg (jZ 3 4),.agg (jZ 3 7),.agg (jZ 3 10)]
noncomputable def rS (b:MP):Option (AV × G × List Xi.Ev):=g_ (YO []) 5000 84 (YU b) ⟨.nil,0,13⟩
def dF (r:Option (AV × G × List Xi.Ev)):List Xi.Ev:=match r with | some (_,_,δ) => δ | none => []
def YV (r:Option (AV × G × List Xi.Ev)) (ρ:List Nat) (ps:List Addr) (s:KS):Option (Bool × List KE × List Nat × List Addr × KS):=match r with
 | some (v,g,_) => (match yU g v with | some (t,xs) => (match BR ρ xs with | some os => some (t,os,ρ,ps,s) | none => none) | none => none)
 | none => none
end Go.Proofs.YtjcgiddgafjdpaaGreatDoor

/- A run on a maker that was reckoned in pieces. -/
namespace Go.Proofs.YtjcgiddgafjdpaaGreatDoor.Xi
open Go Go.RowKit Go.Proofs.YtjcgiddgafjdpaaGreatDoor.Ab
set_option linter.unusedVariables false
set_option linter.unusedSimpArgs false
theorem CV {b:MP} {cx:Cx} {fuel:Nat} {f:FuncId} {vws:List (List AV)} {args:List AV} {ins:List Nat} {s s':KS} {t:Bool} {os:List KE} (hP:cx.P = Tryz.prog) (dW:cx.P.follows .mixedOrders = true) (hmt:vg cx) (hvw:cx.vw = D7 vws)
 {v:AV} {g':G} {δ:List Ev} {ρ τ:List Nat} {xs:List EA} (hc:g_ cx fuel f args ⟨.nil,0,aG ins⟩ = some (v,g',δ)) (hkk:(gI 0 args && vG (aG ins) args && okV (aG ins) vws) = true) (hτ:ρ = ins ++ τ) (hlen:Nat.ble (aG ρ) 1000000 = true) (he:yU g' v = some (t,xs)) (hx:BR ρ xs = some os)
 (hrun:∀ (H:Nat→Option Obj) (X:List Nat) (ρF:Nat→Value),jY ρ ρF→fF (oG b H X) ρF δ s s') (w:World) {F:List Nat} (hk:KR w b s F) (ss:List Value)
 (hss:∀ (i:Nat) cs,vws[i]? = some cs→∃ v,ss[i]? = some v∧Sl w v (aA (dL (ins.map gG)) cs)) (hsF:∀ v∈ss,∀ k,dK v = some k→k∉F) (h1:∀ v∈ss,v.oneCell' = true) {vals:List Value} (hvs:aA (E0 (ρS (ins.map gG) ss)) args = vals) :
 Calls Tryz.prog f vals.toArray w fun e w' => ∃ us F',e = .returned (RZ t us)∧ah w w' F∧Sub F' F w∧KR w' b s' F'∧dQ F' w' us (os.map KE.ca):=by
 obtain ⟨P,ev,lp,mt,br,vw⟩:=cx
 obtain rfl:P = Tryz.prog:=hP
 obtain rfl:vw = D7 vws:=hvw
 simp only [Bool.and_eq_true] at hkk
 obtain ⟨⟨k1,k2⟩,k3⟩:=hkk
 rw [aY] at hlen
 have hlen':ρ.length≤1000000:=hlen
 have hF:jY ρ (ρS (ρ.map gG) ss):=akC ρ ss
 have hone:∀ i,(ρS (ρ.map gG) ss i).oneCell' = true:=fun i => by
  unfold ρS
  split
  · rename_i hi
    have hi':i < ρ.length:=by simpa using hi
    rw [List.getD,List.getElem?_map,List.getElem?_eq_getElem hi']
    rfl
  · cases hj:ss[i - 1000000]? with
    | none => rw [List.getD,hj]; rfl
    | some u => rw [List.getD,hj]; exact h1 u (List.mem_of_getElem? hj)
 have hFi:Ext (ins.map gG) (ρS (ρ.map gG) ss):=by
  have:=abB (ρ.map gG) ss
  rw [hτ,List.map_append] at this ⊢
  exact this.of_append
 have hvk:∀ i cs,D7 vws i = some cs→∃ b a n c,ρS (ρ.map gG) ss i = .slice (some ⟨b,a,none⟩) n c∧cs.length≤c∧gI 0 cs = true∧b∈ss.filterMap dK∧b < w.heap.size∧∀ k v,cs[k]? = some v→∀ E:Env,E.ρ = ρS (ρ.map gG) ss→w.cell? ⟨b,a + k,none⟩ = some (v.au E):=fun i cs hi => by
  unfold D7 at hi
  cases hb:Nat.ble 1000000 i with
  | false => rw [hb] at hi; cases hi
  | true =>
   rw [hb] at hi
   rw [aY] at hb
   simp only [cond_true] at hi
   rw [nZ] at hi
   obtain ⟨z1,z2,z3⟩:=Si k3 hi
   obtain ⟨u,hu,hsl⟩:=hss _ _ hi
   obtain ⟨A,c,rfl,hcap,hcell⟩:=hsl
   rw [aQ] at hcap hcell
   obtain ⟨b,a,rfl,hcell2⟩:=hcell (by omega)
   refine ⟨b,a,cs.length,c,?_,hcap,z1,?_,?_,?_⟩
   · unfold ρS
     rw [if_neg (by simp; omega),List.getD,hu,aQ]; rfl
   · exact List.mem_filterMap.2 ⟨_,List.mem_of_getElem? hu,rfl⟩
   · have:=hcell2 0 (by omega)
     unfold World.cell? at this
     cases hb':w.heap[b]? with
     | none =>
      simp only [hb'] at this
      rw [eq_comm,List.getElem?_eq_none_iff,aQ] at this
      omega
     | some o => exact lt_of_heap hb'
   · intro k y hy E hE
     have hk':k < cs.length:=(List.getElem?_eq_some_iff.1 hy).1
     rw [hcell2 k hk',dh,List.getElem?_map,hy]
     show some (y.au (dL (ins.map gG))) = some (y.au E)
     have e4:aA (E0 (ρS (ρ.map gG) ss)) cs = aA (dL (ins.map gG)) cs:=iT hFi cs (by rw [Sr]; exact z2)
     rw [dh,dh] at e4
     have e5:=congrArg (fun l => l[k]?) e4
     simp only [List.getElem?_map,hy,Option.map_some] at e5
     rw [← e5]
     have z4:y.lt 0 = true:=by
      unfold AV.lt
      rw [aH,pow_eq]
      refine dI fun q hq => ?_
      have:=lC z1 (dZ (List.mem_of_getElem? hy) hq)
      omega
     rw [qJ (E:=E0 (ρS (ρ.map gG) ss)) (E':=E) z4 hE]
 have hXF:∀ g∈(ss.filterMap dK).filter fun b => decide (b < w.heap.size),g∉F:=fun g hg => by
  obtain ⟨u,hu,hub⟩:=List.mem_filterMap.1 (List.mem_filter.1 hg).1
  exact hsF u hu g hub
 have hXs:∀ g∈(ss.filterMap dK).filter fun b => decide (b < w.heap.size),g < w.heap.size:=fun g hg => by
  have:=(List.mem_filter.1 hg).2
  simpa using this
 obtain ⟨_,hcall⟩:=G9 (M:=oG b (fun g => w.heap[g]?) ((ss.filterMap dK).filter fun b => decide (b < w.heap.size))) (ρv:=ρS (ρ.map gG) ss) dW hmt hone (fun i cs hi => by
  obtain ⟨b',a,n,c,y1,y2,y3,y4,y5,y6⟩:=hvk i cs hi
  refine ⟨b',a,n,c,y1,y2,y3,fun s w1 hw1 => ?_⟩
  have hm:b'∈(ss.filterMap dK).filter fun b => decide (b < w.heap.size):=List.mem_filter.2 ⟨y4,by simpa using y5⟩
  obtain ⟨_,_,hS⟩:=hw1
  refine ⟨List.mem_append_right _ (List.mem_append_right _ hm),fun k u hu E hE => ?_⟩
  have:=y6 k u hu E hE
  unfold World.cell? at this ⊢
  rw [show w1.heap[b']? = w.heap[b']? from (hS b' hm).2]
  exact this) fuel |>.2 f args ⟨.nil,0,aG ins⟩ v g' δ hc
 have hrep:Rep (oG b (fun g => w.heap[g]?) ((ss.filterMap dK).filter fun b => decide (b < w.heap.size))) (E0 (ρS (ρ.map gG) ss)) s (⟨.nil,0,aG ins⟩:G).at 0 w:=⟨⟨⟨F,hk,hXF⟩,fun _ _ => rfl,fun g hg => ⟨hXs g hg,rfl⟩⟩,(fun b B hb => by have:=eF hb; cases this),(fun b b' B B' hb => by have:=eF hb; cases this),(fun b B hb => by have:=eF hb; cases this),(fun b B hb => eF hb)⟩
 have hcl:=hcall (E0 (ρS (ρ.map gG) ss)) s s' w rfl hrep (fun u hu => by
  unfold AV.lt
  rw [aH,pow_eq]
  refine dI fun q hq => ?_
  have:=lC k1 (dZ hu hq)
  omega) (hrun _ _ _ hF)
 have Sm:aA (E0 (ρS (ρ.map gG) ss)) args = vals:=by
  rw [← hvs,hτ,List.map_append]
  exact oI (by rw [← List.map_append,← hτ,List.length_map]; exact hlen') args (by rw [Sr]; exact k2)
 rw [Sm] at hcl
 refine hcl.mono ?_
 rintro e w' ⟨E',rfl,hw⟩
 obtain ⟨⟨F',hk',hX'⟩,hG',hS'⟩:=hw.rep.qo
 have eρ:E'.ρ = ρS (ρ.map gG) ss:=hw.rho
 have hsub:Sub F' F w:=fun k hkF => by
  have hgr:=hw.grow k (by show k∈RH b s' w' ++ _; rw [gQ hk']; exact List.mem_append_left _ hkF)
  rcases hgr with hgr | hgr
  · have hgr:k∈RH b s w ++ RI ((ss.filterMap dK).filter fun b => decide (b < w.heap.size)):=hgr
    rw [gQ hk] at hgr
    rcases List.mem_append.1 hgr with h1 | h1
    · exact .inl h1
    · rcases List.mem_append.1 h1 with h1 | h1
      · have:=List.mem_range.1 h1; have:=hk'.high k hkF; omega
      · exact absurd hkF (hX' k h1)
  · exact .inr hgr
 have hcg:ah w w' F:=by
  have hfr:=hw.fr
  refine RJ (X:=(ss.filterMap dK).filter fun b => decide (b < w.heap.size)) (hfr.more fun k _ hkd => ?_) (fun _ _ => rfl) hG' (fun g hg => ⟨hXs g hg,rfl⟩) hS'
  rcases hkd with hkd | ⟨b,B,hb,_⟩
  · have:k∈RH b s w ++ RI ((ss.filterMap dK).filter fun b => decide (b < w.heap.size)):=hkd
    rw [gQ hk] at this
    exact this
  · have:=eF hb; cases this
 have fin:∀ {l:List AV},eargs g' l = some xs→dQ F' w' (aA E' l) (os.map KE.ca):=fun {l} hl => by
  have:=wC hw.rep hl
  rw [eρ,Wi hF hx] at this
  exact this.sub fun k hkF => by
   show k∈RH b s' w' ++ _
   rw [gQ hk']
   exact List.mem_append_left _ hkF
 unfold yU at he
 split at he
 · rename_i vs _
   cases hvs':eargs g' vs with
   | none => rw [hvs'] at he; cases he
   | some l =>
    rw [hvs'] at he
    injection he with he; injection he with he1 he2
    subst he1 he2
    exact ⟨_,F',rfl,hcg,hsub,hk',fin hvs'⟩
 · cases hv':GR g' v with
   | none => rw [hv'] at he; cases he
   | some x =>
    rw [hv'] at he
    injection he with he; injection he with he1 he2
    subst he1 he2
    exact ⟨[v.au E'],F',rfl,hcg,hsub,hk',fin (l:=[v]) (by simp only [eargs,hv'])⟩
end Go.Proofs.YtjcgiddgafjdpaaGreatDoor.Xi
