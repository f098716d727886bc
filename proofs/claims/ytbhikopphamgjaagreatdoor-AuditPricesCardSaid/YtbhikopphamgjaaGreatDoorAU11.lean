/- Texts of this claim, side by side: MkR, MkS, MkT, MakM, MakR, MakS, MakT, MakU, Kimg, MakV, ImgF1, MakW. -/
import Derived.Test.YtbhikopphamgjaaGreatDoorAU9
import Derived.Test.YtbhikopphamgjaaGreatDoorShelfM
import Derived.Maps.RangeWalk
import Derived.Test.YtbhikopphamgjaaGreatDoorAU14
import Derived.Test.YtbhikopphamgjaaGreatDoorImgF0
set_option linter.unusedVariables false
set_option linter.unusedSimpArgs false
set_option maxRecDepth 100000
set_option maxHeartbeats 8000000
namespace Go.Proofs.YtbhikopphamgjaaGreatDoor
section
open Go Go.RowKit Go.Deep Go.Maps Ab Xi
attribute [local go_sem] Oper.semAt_some
theorem size_bool:(Tryz.prog.info? 4).map (·.size) = some 1:=by kernel_rfl
theorem EH:(Tryz.prog.info? 4).map (fun i => (i.zero,i.size,i.bytes)) = some (some (.bool false),1,1):=by kernel_rfl
def mP (b:Bool) (k n:Nat):List Value:=List.replicate k (.bool b) ++ List.replicate (n - k) (.bool false)
theorem aeu (b:Bool) {k n:Nat} (h:k<=n):(mP b k n).length = n:=by unfold mP; simp; omega
theorem Vq (b:Bool) {k m n:Nat} (h:k + m<=n):splice (mP b k n) k (List.replicate m (.bool b)) = mP b (k + m) n:=by
 unfold splice mP;rw [List.take_append_of_le_length (by simp),List.take_replicate,Nat.min_self,List.length_replicate,List.drop_append,List.length_replicate,List.drop_replicate,List.drop_replicate,<- List.append_assoc,<- List.append_assoc,List.replicate_append_replicate,Nat.sub_eq_zero_of_le (by omega:k<=k + m)];simp only [List.replicate_zero,List.append_nil];rw [show n - k - (k + m - k) = n - (k + m) by omega]
theorem ahD (b:Bool) {k n j:Nat} (h:j < k):(mP b k n)[j]? = some (.bool b):=by
 unfold mP;rw [List.getElem?_append_left (by simpa using h),List.getElem?_replicate,if_pos h]
theorem aj8 {b:Bool} {k j:Nat} {u:Value} (h:(List.replicate k (Value.bool b))[j]? = some u):j < k/\u = .bool b:=by
 rw [List.getElem?_replicate] at h;split at h
 . rename_i hj
   injection h with h;exact ⟨hj,h.symm⟩
 . cases h
theorem WE (b:Bool) (k:Nat):∀ v∈List.replicate k (Value.bool b),v.oneCell' = true:=fun v hv => by
 rw [(List.mem_replicate.1 hv).2]; rfl
theorem RJ {W:World} {g m n k:Nat} {b:Bool} (hg:ay W g 4 (mP b m n)) (src:Addr) (sLen sCap dLen dCap:Nat) (hsrc:∀ j,j < k->W.cell? (src.add j) = some (.bool b)) (hk:k = Nat.min sLen dLen) (hf:m + k<=n) :
 ∃ W',(Builtin.copy_ #[57,57] 3 #[.slice (some ⟨g,m,none⟩) dLen dCap,.slice (some src) sLen sCap]).run Tryz.prog W = .ok (.int .i64 (k:Int)) W'/\ay W' g 4 (mP b (m + k) n)/\∀ (w0:World) (B:Nat),Below B w0 W->B<=g->Below B w0 W':=by
 have hr:=run_copy_row (P:=Tryz.prog) W 57 57 3 4 g m dLen dCap src sLen sCap (mP b m n).toArray 4 (List.replicate k (.bool b)) Tryz.underlying57 size_bool hg (by rw [List.length_replicate]; exact hk) (fun j v hj => by obtain ⟨h1,rfl⟩:=aj8 hj; exact hsrc j h1) (by rw [List.length_replicate]; simp only [List.size_toArray]; rw [aeu b (by omega)]; exact hf) (WE b k);rw [List.length_replicate] at hr;have hs:=Vq b (k:=m) (m:=k) (n:=n) hf;unfold splice at hs;rw [List.length_replicate] at hs;rw [show ((mP b m n).toArray.toList.take m ++ List.replicate k (Value.bool b) ++ (mP b m n).toArray.toList.drop (m + k)) = mP b (m + k) n by rw [<- hs,List.append_assoc]] at hr;exact ⟨W.setRow g (mP b (m + k) n).toArray,hr,setRow_heap W g _ _ _ _ hg,fun w0 B hb hB => below_setRow hb hB _⟩
theorem RN (w:World) (q n:Nat) (b:Bool) (hq:w.cell? ⟨q,0,none⟩ = some (.bool b)) (h1:1<=n) (h2:n<=3000) :
 Calls Tryz.prog 134 #[.slice (some ⟨q,0,none⟩) 1 1,.int .i64 (n:Int)] w fun e w' => e = .returned (.slice (some ⟨w.heap.size,0,none⟩) n n)/\ah w w' []/\ay w' w.heap.size 4 (List.replicate n (.bool b)):=by
 obtain ⟨i0,hi0,hz0,hz1,hz2⟩:=info_parts EH;have hmu:∀ W:World,Calls Tryz.prog 172 #[.int .u64 (1:Nat),.int .u64 n] W fun e w' => e = .returned (.tuple #[.int .u64 ((1 * n / 18446744073709551616:Nat):Int),.int .u64 ((1 * n % 18446744073709551616:Nat):Int)])/\W = w':=fun W => (Tryz.bits_Mul 1 n (by decide) (by omega) W).mono fun e w' ⟨h1,h2⟩ => ⟨h1,h2.symm⟩;rw [show 1 * n / 18446744073709551616 = 0 by omega,show 1 * n % 18446744073709551616 = n by omega] at hmu;have hmk:=run_make_row' (P:=Tryz.prog) 57 4 (.bool false) 1 Tryz.underlying57 EH rfl .i64 .i64 n (by omega) (by omega);rw [kN] at hmk;have x1:decide ((n:Int) < 0) = false:=decide_eq_false (by omega);have x2:decide (9223372036854775807 < (n:Int)) = false:=decide_eq_false (by omega);have hwu:IntKind.u64.wrap (n:Int) = (n:Int):=by rw [IntKind.wrap_u64]; omega
 have hwi:wrap64 (n:Int) = (n:Int):=by unfold wrap64; omega
 have HQ:=hide hq;clear hq;go_enter Tryz.func134,Tryz.ntmps134
 have hz0:zeros (.bool false) n = mP b 0 n:=by unfold zeros mP; simp
 have hb0:=ay.new w 4 (zeros (.bool false) n);rw [hz0] at hmk hb0;obtain ⟨w1,hcp,hg1,hb1⟩:=RJ (k:=1) hb0 ⟨q,0,none⟩ 1 1 n n (fun j hj => by obtain rfl:j = 0:=(by omega); rw [add_plain]; exact ((ah.refl w []).alloc _).cell HQ.out (by simp)) (Nat.min_eq_left h1).symm (by omega);have HG1:Hid (ay w1 w.heap.size 4 (mP b 1 n)):=hide (by simpa using hg1);have HW1:=hide (hb1 w w.heap.size (ah.BI ((ah.refl w []).alloc _)) (Nat.le_refl _));clear hb0 hz0 hg1 hb1;go_wp2_with (go_at_call 172; refine (hmu _).mono ?_; rintro e w2 ⟨rfl,rfl⟩);clear hcp hmk hmu HQ;go_loopw [8] (fun v wr => ∃ m:Nat,1<=m/\m<=n/\v = .int .i64 m/\Hid (ay wr w.heap.size 4 (mP b m n))/\Hid (Below w.heap.size w wr)) (fun v _ => n - (intOf v).toNat)
 case atStart => exact ⟨1,Nat.le_refl _,h1,rfl,HG1,HW1⟩
 case round =>
  obtain ⟨m,hm1,hm2,rfl,HG,HW⟩:=hrel;by_cases hlt:m < n
  . have hgd:=HG.out.drew
    obtain ⟨w3,hcp,hg3,hb3⟩:=RJ (k:=min m (n - m)) hgd ⟨w.heap.size,0,none⟩ m n (n - m) (n - m) (fun j hj => by
     have hjm:j < m:=Nat.lt_of_lt_of_le hj (Nat.min_le_left _ _);rw [add_plain,Nat.zero_add]
     exact hgd.cell' (ahD b hjm)) rfl (by have:=Nat.min_le_right m (n - m); omega)
    have hk1:1<=min m (n - m):=by omega
    have hk2:m + min m (n - m)<=n:=by omega
    have HG3:=hide hg3;have HB3:=hide (hb3 w w.heap.size HW.out.drew (Nat.le_refl _));clear hgd hg3 hb3;generalize min m (n - m) = k at *;have hwk:IntKind.i64.wrap ((m:Int) + (k:Int)) = (m:Int) + (k:Int):=by rw [IntKind.wrap_i64]; omega
    go_wp2_with fail
    go_region_with (fail)
    all_goals
     simp only [Act.put,Array.setIfInBounds,List.getElem_toArray,List.getElem_cons_zero,List.getElem_cons_succ];go_simp;go_roundw
     case rel => exact ⟨_,_,_,_,_,_,_,_,_,_,_,_,_,_,⟨m + k,by omega,hk2,by rw [Int.natCast_add],HG3,HB3⟩,rfl⟩
     case measure => simp [intOf]; omega
  . have hk2:m = n:=by omega
    subst hk2;go_wp2;go_ret;refine ⟨rfl,ah.of_below HW.out,?_⟩;have:=HG.out;unfold mP at this;rw [Nat.sub_self,List.replicate_zero,List.append_nil] at this;exact this
def dP (l:List (Nat × Nat × Bool)):List Bool:=l.flatMap fun p => List.replicate p.2.1 p.2.2
def bools (l:List Bool):List Value:=l.map Value.bool
theorem abI (l:List (Nat × Nat × Bool)) (p:Nat × Nat × Bool):bools (dP (l ++ [p])) = bools (dP l) ++ List.replicate p.2.1 (.bool p.2.2):=by
 unfold dP;rw [List.flatMap_append];show bools (_ ++ (List.replicate p.2.1 p.2.2 ++ [])) = _;rw [List.append_nil];unfold bools;rw [List.map_append,List.map_replicate]
theorem RP:∀ (l:List (Nat × Nat × Bool)),(∀ p∈l,p.2.1<=2048)->(dP l).length<=l.length * 2048
 | [],_ => by simp [dP]
 | p :: l,h => by
  have ih:=RP l fun q hq => h q (List.mem_cons_of_mem _ hq);have:=h p List.mem_cons_self;unfold dP at ih ⊢;rw [List.flatMap_cons,List.length_append,List.length_replicate,List.length_cons];omega
theorem EI:∀ (l:List (Nat × Nat × Bool)) (u j:Nat),j < l.length->∃ k a n b,l.reverse[j]? = some (k,n,b)/\(dn l u)[j * 4]? = some (bD (gI k))/\(dn l u)[j * 4 + 1]? = some (.int .i64 (a:Nat))/\(dn l u)[j * 4 + 2]? = some (.int .i64 (n:Nat))/\(dn l u)[j * 4 + 3]? = some (.bool b)
 | [],_,j,h => by simp at h
 | (k,n,b) :: l,u,j,h => by
  have hl:=yA l (u - n);unfold dn;rw [List.reverse_cons];by_cases e:j < l.length
  . obtain ⟨k',a',n',b',hx,h0,h1,h2,h3⟩:=EI l (u - n) j e
    refine ⟨k',a',n',b',?_,?_,?_,?_,?_⟩
    . rw [List.getElem?_append_left (by simpa using e)]; exact hx
    all_goals rw [List.getElem?_append_left (by omega)]; assumption
  . have e:j = l.length:=by simp at h; omega
    subst e;refine ⟨k,u - n,n,b,?_,?_,?_,?_,?_⟩
    . rw [List.getElem?_append_right (by simp)]; simp
    all_goals rw [List.getElem?_append_right (by omega)]
    . rw [show l.length * 4 - (dn l (u - n)).length = 0 by omega]; rfl
    . rw [show l.length * 4 + 1 - (dn l (u - n)).length = 1 by omega]; rfl
    . rw [show l.length * 4 + 2 - (dn l (u - n)).length = 2 by omega]; rfl
    . rw [show l.length * 4 + 3 - (dn l (u - n)).length = 3 by omega]; rfl
theorem Y1 {w:World} {pp used:Nat} {rv:Value} {rr:List (Nat × Nat × Bool)} (h:PL w pp rv used rr):Calls Tryz.prog 87 #[.pointer (some ⟨pp,0,none⟩)] w fun e w' => e = .returned (.int .i64 (used:Int))/\w = w':=by
 have c1:=h.blk.cell' (i:=1) rfl;clear h;go_enter Tryz.func87,Tryz.ntmps87
 go_wp2;go_ret;exact ⟨rfl,rfl⟩
theorem RQ {w:World} {pp used:Nat} {rv:Value} {rr:List (Nat × Nat × Bool)} (h:PL w pp rv used rr) (hn:∀ p∈rr,1<=p.2.1/\p.2.1<=2048) (hl:rr.length<=1000000) :
 Calls Tryz.prog 86 #[.pointer (some ⟨pp,0,none⟩)] w fun e w' => ∃ v,e = .returned v/\ah w w' []/\w'.ownsRow w.heap.size 4 1 v (dP rr.reverse).length (bools (dP rr.reverse)):=by
 obtain ⟨i0,hi,hz0,hz1,hz2⟩:=info_parts EH;have ha:=Oc h;obtain ⟨A,c,rfl,hx⟩:=lD h.row;have HX:=hide hx;have HN:=hide hn;clear h hx hn;go_enter Tryz.func86,Tryz.ntmps86
 go_wp2_with (go_at_call 133; refine ha.mono ?_; rintro e w1 ⟨rfl,rfl⟩);go_loopw [3,9] (fun v i wr => ∃ k:Nat,k<=rr.length/\i = .int .i64 k/\Hid (ah w wr [])/\Hid (wr.ownsRow w.heap.size 4 1 v (dP (rr.reverse.take k)).length (bools (dP (rr.reverse.take k))))) (fun _ i _ => rr.length - (intOf i).toNat)
 case atStart => exact ⟨0,Nat.zero_le _,rfl,hide (ah.refl _ _),hide (World.ownsRow_nil _ _ _ _)⟩
 case round =>
  obtain ⟨k,hk,rfl,HR,HO⟩:=hrel;by_cases hlt:k < rr.length
  . obtain ⟨g,rfl,hgl,hgb,hcells⟩:=HX.out (by omega)
    obtain ⟨kn,a,n,b,hrk,e0,e1,e2,e3⟩:=EI rr used k hlt;have ca:=HR.out.cell (hcells _ _ e0) (by simp);have cb:=HR.out.cell (hcells _ _ e1) (by simp);have cc:=HR.out.cell (hcells _ _ e2) (by simp);have cd:=HR.out.cell (hcells _ _ e3) (by simp);have hgr:g < wr.heap.size:=by have:=HR.out.size; omega
    obtain ⟨hn1,hn2⟩:=HN.out (kn,n,b) (List.mem_reverse.1 (List.mem_of_getElem? hrk));have hn1:1<=n:=hn1;have hn2:n<=2048:=hn2
    have hsn:bools (dP (rr.reverse.take (k + 1))) = bools (dP (rr.reverse.take k)) ++ List.replicate n (.bool b):=by
     rw [List.take_add_one,hrk];exact abI _ _
    have hsz:(dP (rr.reverse.take k)).length<=2048 * 1000000:=by
     have:=RP (rr.reverse.take k) fun p hp => (HN.out p (List.mem_reverse.1 (List.mem_of_mem_take hp))).2;have h2:(rr.reverse.take k).length<=1000000:=by rw [List.length_take,List.length_reverse]; omega
     omega
    have HSN:=hide hsn;obtain ⟨V,vc,rfl⟩:=bI HO.out;have hrp:=fun W q hq => RN W q n b hq hn1 (by omega);clear hcells e0 e1 e2 e3 hsn hrk;unfold bD at *;go_wp2_with fail
    go_at_call 134;have hz1:(wr.alloc (.cells #[.string ⟨(gI kn).toArray⟩,.int .i64 (a:Int),.int .i64 (n:Int),.bool b] 206)).heap.size = wr.heap.size + 1:=size_alloc _ _
    have hq0:((wr.alloc (.cells #[.string ⟨(gI kn).toArray⟩,.int .i64 (a:Int),.int .i64 (n:Int),.bool b] 206)).alloc (.cells #[.bool b] 4)).cell? ⟨wr.heap.size + 1,0,none⟩ = some (.bool b):=by
     have:=(ay.new (wr.alloc (.cells #[.string ⟨(gI kn).toArray⟩,.int .i64 (a:Int),.int .i64 (n:Int),.bool b] 206)) 4 [.bool b]).cell' (i:=0) rfl;rw [hz1] at this;exact this
    refine (hrp _ (wr.heap.size + 1) hq0).mono ?_;have hca:ah wr ((wr.alloc (.cells #[.string ⟨(gI kn).toArray⟩,.int .i64 (a:Int),.int .i64 (n:Int),.bool b] 206)).alloc (.cells #[.bool b] 4)) []:=((ah.refl wr []).alloc _).alloc _;generalize (wr.alloc (.cells #[.string ⟨(gI kn).toArray⟩,.int .i64 (a:Int),.int .i64 (n:Int),.bool b] 206)).alloc (.cells #[.bool b] 4) = w2 at *;rintro e w3 ⟨rfl,hc3,hb3⟩;have hcR:=(HR.out.trans hca (by simp)).trans hc3 (by simp);have HCR:=hide hcR;have Hl:=hide (aF HO.out (hca.trans hc3 (by simp)) (by simp));have HB3:=hide hb3;generalize hg2:w2.heap.size = g2 at *;clear hz1 hq0 hca hc3 hb3 hcR hrp ca cb cc cd;go_wp2_with (at_builtin; refine wpList_append_own _ rfl _ _ 57 rfl w.heap.size 4 i0 (.bool false) 1 1 Tryz.underlying57 hi hz0 hz1 hz2 rfl (by decide) _ (dP (rr.reverse.take k)).length _ rfl Hl.out ⟨g2,0,none⟩ n n (List.replicate n (.bool b)) rfl (by simp) ?c1 (WE b n) ?c3 ?c4 ?c5 ?_)
    case c1 =>
     intro j u hj;rw [add_plain,Nat.zero_add];exact HB3.out.cell' hj
    case c3 => unfold maxLen; omega
    case c4 => omega
    case c5 => exact HCR.out.size
    intro v' w4 hown' hgrow _;have HG:Hid (ah w w4 []):=hide (HCR.out.trans (D':=(Value.slice V (dP (rr.reverse.take k)).length vc).ownBlock.toList) (ah.dh hgrow (fun k hk => .inl (by simp [hk]))) (fun k hk => .inr (HO.out.lt k (by simpa using hk)).1))
    have hll:(dP (rr.reverse.take k)).length + n = (dP (rr.reverse.take (k + 1))).length:=by
     have:=congrArg List.length HSN.out;unfold bools at this;rw [List.length_append,List.length_map,List.length_map,List.length_replicate] at this;omega
    have nU:Hid (w4.ownsRow w.heap.size 4 1 v' (dP (rr.reverse.take (k + 1))).length (bools (dP (rr.reverse.take (k + 1))))):=hide (by rw [HSN.out,<- hll]; exact hown');obtain ⟨A6,c6,hv'⟩:=bI hown';clear hown' hgrow hll;go_wp2;go_roundw
    case rel => exact ⟨k + 1,by omega,by go_num,HG,nU⟩
    case measure => simp [intOf]; omega
  . have hk2:k = rr.length:=by omega
    subst hk2;go_wp2;go_ret;have:=HO.out;rw [List.take_of_length_le (by simp)] at this;exact ⟨_,rfl,HR.out,this⟩
def Gu (s:KS):List Int:=(List.range s.used).map fun a:Nat => (findD s.data (a:Int)).getD 0
def uH (w:World) (v:Value) (code data:List Int) (sec:List Bool) (ins outs:List Nat):Prop :=
 ∃ c d se i o,v = .agg #[c,d,se,i,o]/\Sl w c (gY code)/\Sl w d (bH data)/\Sl w se (bools sec)/\Sl w i (ints ins)/\Sl w o (ints outs)
def RU (v:Value) (F:List Nat) (n:Nat):Prop:=∀ c d se i o,v = .agg #[c,d,se,i,o]->∀ u∈[c,d,se,i,o],∀ A m k,u = .slice (some A) m k->A.block∈F\/n<=A.block
def _root_.Go.Proofs.YtbhikopphamgjaaGreatDoor.Ab.KS.Ku (s:KS):Bool :=
 Nat.ble s.nc 16000 && (s.rd.all (fun p => Nat.ble p.2 1000000) && (s.ru.all (fun p => Nat.ble p.2 1000000 && Nat.ble p.1 100000) && (s.rr.all (fun p => Nat.ble 1 p.2.1 && Nat.ble p.2.1 2048) && s.data.all (fun p => Nat.blt p.1 s.used))))
theorem WG {s:KS} (h:s.Ku = true):s.nc<=16000/\(∀ p∈s.rd,p.2<=1000000)/\(∀ p∈s.ru,p.2<=1000000/\p.1<=100000)/\(∀ p∈s.rr,1<=p.2.1/\p.2.1<=2048)/\(∀ p∈s.data,p.1 < s.used):=by
 unfold KS.Ku at h;simp only [Bool.and_eq_true,List.all_eq_true,Xi.aX,Xi.aI] at h;exact h
theorem ahF {s:KS} (h:s.Ku = true):Fine s.bm:=by
 obtain ⟨_,h1,h2,_,_⟩:=WG h;refine ⟨fun p hp => ?_,fun p hp => ?_⟩
 . obtain ⟨q,hq,rfl⟩:=List.mem_map.1 hp
   have:=h1 q (List.mem_reverse.1 hq);show 0<=(q.2:Int)/\(q.2:Int)<=1000000;omega
 . obtain ⟨q,hq,rfl⟩:=List.mem_map.1 hp
   obtain ⟨h3,h4⟩:=h2 q (List.mem_reverse.1 hq);refine ⟨?_,?_⟩
   . show 0<=(q.2:Int)/\(q.2:Int)<=1000000
     omega
   . show (iy q.1).length<=1000000
     have:=AY (u:=q.1) (by omega);unfold iy mG;rw [Lib.itoa_nonneg,List.length_cons];omega
theorem abJ {l:List (Nat × Int)} {a:Int} {x:Int} (h:findD l a = some x):∃ p∈l,(p.1:Int) = a:=by
 induction l with
 | nil => cases h
 | cons p l ih =>
  obtain ⟨k,y⟩:=p;unfold findD at h;by_cases e:(k:Int) = a
  . exact ⟨_,List.mem_cons_self,e⟩
  . rw [if_neg e] at h
    obtain ⟨q,hq,h2⟩:=ih h;exact ⟨q,List.mem_cons_of_mem _ hq,h2⟩
def nD (s:KS) (left:Lit->Bool):List Int:=(List.range s.used).map fun a:Nat => if left (.int .i64 (a:Int)) = true then 0 else (findD s.data (a:Int)).getD 0
theorem Y2 (s:KS) (left:Lit->Bool):(nD s left).length = s.used:=by simp [nD]
theorem Y3 (s:KS) {left:Lit->Bool} (h:∀ kl,left kl = false):nD s left = Gu s:=by
 unfold nD Gu;refine List.map_congr_left fun a _ => ?_;rw [h,if_neg (by decide)]
theorem RV (s:KS) {left:Lit->Bool} (h:∀ a:Nat,(left (.int .i64 (a:Int)) = false->findD s.data (a:Int) = none)):bH (nD s left) = zeros (.int .i32 0) s.used:=by
 unfold bH nD zeros;rw [List.map_map];apply List.ext_getElem
 . simp
 . intro j h1 h2
   simp only [List.getElem_map,List.getElem_range,Function.comp,List.getElem_replicate]
   cases hl:left (.int .i64 (j:Int)) with
   | true => simp
   | false => simp [h j hl]
theorem Vr (s:KS) {left:Lit->Bool} {a:Nat} {c:Int} (ha:a < s.used) (hc:findD s.data (a:Int) = some c) :
 nD s (fun z => left z && !z.sameKey (.int .i64 (a:Int))) = (nD s left).set a c:=by
 unfold nD;apply List.ext_getElem
 . simp
 . intro j h1 h2
   have hj:j < s.used:=by simpa using h1
   rw [List.getElem_set];simp only [List.getElem_map,List.getElem_range];by_cases e:a = j
   . subst e
     rw [if_pos rfl,hc];have:(Lit.int .i64 (a:Int)).sameKey (.int .i64 (a:Int)) = true:=WideAt.sameKey_self trivial;rw [this];simp
   . rw [if_neg e]
     have:(Lit.int .i64 (j:Int)).sameKey (.int .i64 (a:Int)) = false:=by
      cases h:(Lit.int .i64 (j:Int)).sameKey (.int .i64 (a:Int)) with
      | false => rfl
      | true => have:=WideAt.sameKey_eq h; injection this with _ h; omega
     rw [this];simp
theorem aex:jm ⟨43,0,0,0,0⟩ = 0:=by decide
theorem grown_setCell (w:World) (g i:Nat) (v:Value):w.grownBy (w.setCell ⟨g,i,none⟩ v) (some g) :=
 ⟨rfl,rfl,rfl,by rw [size_setCell]; exact Nat.le_refl _,fun k _ hk => qF w _ _ k (fun e => hk (by rw [e]))⟩
theorem qg {w:World} {q:Nat} {t:TypeId} {cs xs:List Value} {v:Value} (hb:ay w q t cs) (hs:Sl w v xs) (hne:∀ u∈cs,u∉xs) (h0:0 < xs.length) (A:Addr) (n c:Nat) (he:v = .slice (some A) n c):A.block∉[q]:=by
 intro hm;subst he;obtain ⟨b,off,hA,hc,_⟩:=hs.at_ (k:=0) (List.getElem?_eq_getElem h0);injection hA with hA;subst hA;have hm:b = q:=by simpa using hm
 subst hm;rw [hb.cell] at hc;exact hne _ (List.mem_of_getElem? hc) (List.getElem_mem h0)
section
variable {w:World} {b:MP} {s:KS} {F:List Nat}
theorem MI (h:KR w b s F) (hok:(s.ins ⟨43,0,0,0,0⟩).Ku = true) (hru:s.ru.length<=100000) {l:List Int} (hl:Rt (s.ins ⟨43,0,0,0,0⟩) = some l) :
 Calls Tryz.prog 46 #[.pointer (some ⟨b.a,0,none⟩)] w fun e w' => ∃ v,e = .returned v/\ah w w' F/\uH w' v l (Gu s) (dP s.rr.reverse) s.ri.reverse s.ro.reverse/\RU v F w.heap.size:=by
 obtain ⟨i0,hi0,hz0,hz1,hz2⟩:=info_parts tZ;obtain ⟨p,hp,hf,rfl⟩:=h;obtain ⟨q1,q2,q3,q4,q5⟩:=WG hok;have q1:s.nc + 1<=16000:=q1;have HQ5:=hide (show ∀ p∈s.data,p.1 < s.used from q5);have hu2:=hp.wf.used;have c0:=hp.blk.cell' (i:=0) rfl;have hlt:=hp.blk.lt;have hin:=fun o:Obj => (hp.bC ((ah.refl w []).alloc o)).ins ⟨43,0,0,0,0⟩ aex (by omega);unfold aY at hin;have hmk:=run_make_row' (P:=Tryz.prog) 56 21 (.int .i32 0) 4 Tryz.underlying56 tZ rfl .i64 .i64 s.used (by omega) (by omega);rw [kN] at hmk;have HP:=hide hp;have Bg:=hide q1;have HOK:=hide hok;have HL:=hide hl;have HQ4:=hide (show ∀ p∈s.rr,1<=p.2.1/\p.2.1<=2048 from q4);clear hp hf hok hl q1 q2 q3 q4 q5;go_enter Tryz.func46,Tryz.ntmps46
 go_wp2_with fail
 go_at_call 84;refine (hin _).mono ?_;rintro e w1 ⟨rfl,hc1,p1,hp1,hf1,hs1⟩;have aj9:w.heap.size∉p.foot b.a:=fun hm => by have:=HP.out.flt _ hm; omega
 have WI:=hide ((ay.new w 60 [.slice none 0 0,.slice none 0 0,.slice none 0 0,.slice none 0 0,.slice none 0 0]).aj hc1 aj9);have aj_:=hide (je hs1 aj9 (by rw [size_alloc]; omega));have akb:=hide (show w.heap.size < w1.heap.size from (by have:=hc1.size; rw [size_alloc] at this; omega));have bg:Hid (ah w w1 (p.foot b.a)):=hide (((ah.refl w _).alloc _).trans hc1 (fun k hk => .inl hk));have cO:=hide hp1;have d0:=hp1.blk.cell' (i:=0) rfl;have d1:=hp1.blk.cell' (i:=1) rfl;have d8:=hp1.blk.cell' (i:=8) rfl;have d9:=hp1.blk.cell' (i:=9) rfl;have d10:=hp1.blk.cell' (i:=10) rfl;have d11:=hp1.blk.cell' (i:=11) rfl;have d12:=hp1.blk.cell' (i:=12) rfl;have hlt1:=hp1.blk.lt;obtain ⟨Ai,ci,hAi⟩:=bI hp1.inn;obtain ⟨Ao,co,hAo⟩:=bI hp1.out;rw [hAi] at d11;rw [hAo] at d12;have HAI:=hide hAi;have HAO:=hide hAo;have dW:=hide hs1;clear hc1 hp1 hf1 hs1 hin c0 hAi hAo;go_wp2_with fail
 have hb2:=ay.new w1 60 [.slice none 0 0,.slice none 0 0,.slice none 0 0,.slice Ai s.ri.length ci,.slice Ao s.ro.length co];have hp2:=cO.out.bC ((ah.refl w1 []).alloc (.cells #[.slice none 0 0,.slice none 0 0,.slice none 0 0,.slice Ai s.ri.length ci,.slice Ao s.ro.length co] 60));have hc2:ah w1 (w1.alloc (.cells #[.slice none 0 0,.slice none 0 0,.slice none 0 0,.slice Ai s.ri.length ci,.slice Ao s.ro.length co] 60)) []:=(ah.refl w1 []).alloc _;have hnq:w1.heap.size∉p1.foot b.a:=fun hm => by have:=cO.out.flt _ hm; omega
 change Calls _ _ _ (w1.alloc (.cells #[.slice none 0 0,.slice none 0 0,.slice none 0 0,.slice Ai s.ri.length ci,.slice Ao s.ro.length co] 60)) _;have hzq:(w1.alloc (.cells #[.slice none 0 0,.slice none 0 0,.slice none 0 0,.slice Ai s.ri.length ci,.slice Ao s.ro.length co] 60)).heap.size = w1.heap.size + 1:=size_alloc _ _;generalize w1.alloc (.cells #[.slice none 0 0,.slice none 0 0,.slice none 0 0,.slice Ai s.ri.length ci,.slice Ao s.ro.length co] 60) = w2 at *;have HZW:=hide hc2.size;generalize hqm:w1.heap.size = qm at *;go_at_call 85
 have hcl:((s.ins ⟨43,0,0,0,0⟩).bm.code.length)<=16384:=by
  show (s.ins ⟨43,0,0,0,0⟩).rc.reverse.length<=_;rw [List.length_reverse,<- cO.out.wf.nc];have:=Bg.out;show s.nc + 1<=_;omega
 have hfc:=O1 hp2.lV (ahF HOK.out) hcl (by show (s.ru.reverse.map _).length<=_; rw [List.length_map,List.length_reverse]; exact hru) hp2.iP.ert;rw [ajd HL.out] at hfc;refine hfc.mono ?_;rintro e w3 ⟨hc3,vc,rfl,hsl3,hfr3⟩;have apn:=hide hfr3;clear hfr3;obtain ⟨Ac,cc,DJ,_⟩:=id hsl3;subst DJ;have dU:=hide hc3;have ake:=hide hsl3;have Ri:=hide (hp2.bC hc3);have HB3:=hide (hb2.aj hc3 (by simp));have HC2:=hide hc2;have HNQ:=hide hnq;have HZQ:=hide hzq;have f0:=HB3.out.frozen 0;have y0:=HB3.out.cell' (i:=0) rfl;have hlq:=HB3.out.lt;clear hfc hc3 hsl3 hp2 hb2 hc2 hnq hzq hcl d0 d1 d8 d9 d10 d11 d12 hlt hlt1;go_upto_region 4 with (fail)
 change Code.wp _ _ _ _ (w3.setCell ⟨qm,0,none⟩ (.slice Ac (gY l).length cc));have hQq:11<=qm:=by have:=cO.out.iP.size; omega
 have hx4:ah w3 (w3.setCell ⟨qm,0,none⟩ (.slice Ac (gY l).length cc)) [qm]:=(ah.refl w3 _).setCell _ _ (.inl (by simp));have hqf:∀ k∈p1.foot b.a,k∉[qm]:=fun k hk hm => HNQ.out (by simp at hm; exact hm ▸ hk);have jo:=Ri.out.aj hx4 hqf (fun k hk => by simp at hk; exact hk ▸ hQq);have hb4:=HB3.out.aJ 0 (.slice Ac (gY l).length cc)
 have akh:=ake.out.bC hx4 (qg HB3.out ake.out (fun u hu hx => by
  obtain ⟨y,_,rfl⟩:=List.mem_map.1 hx
  simp at hu))
 generalize w3.setCell ⟨qm,0,none⟩ (.slice Ac (gY l).length cc) = w4 at *;have e1:=jo.blk.cell' (i:=1) rfl;have f2:=hb4.frozen 2;have y2:=hb4.cell' (i:=2) rfl;have aki:=RQ jo.plan HQ4.out (by have q1:s.rr.length<=s.names:=jo.wf.cap; have q2:s.names<=100000:=jo.wf.names; show s.rr.length<=_; omega);have aqZ:=jo.blk.lt;have DN:=hide jo;have HB4:=hide hb4;have akj:=hide akh;have HX4:=hide hx4;have HQF:=hide hqf;have HQQ:=hide hQq;clear jo hb4 akh hx4 hqf hQq f0 y0 hlq;go_wp2_with fail
 go_at_call 86;refine aki.mono ?_;rintro e w5 ⟨vs,rfl,hc5,hown5⟩;obtain ⟨As,cs,hvs⟩:=bI hown5;subst hvs;have g2:=(HB4.out.aj hc5 (by simp)).frozen 2;have z2:=(HB4.out.aj hc5 (by simp)).cell' (i:=2) rfl;have apo:=(HB4.out.aj hc5 (by simp)).lt;have dY:=hide hc5;have NY:=hide hown5;clear aki hc5 hown5 f2 y2 e1;go_upto_region 5 with (fail)
 change Code.wp _ _ _ _ (w5.setCell ⟨qm,2,none⟩ (.slice As (dP s.rr.reverse).length cs));have hx6:ah w5 (w5.setCell ⟨qm,2,none⟩ (.slice As (dP s.rr.reverse).length cs)) [qm]:=(ah.refl w5 _).setCell _ _ (.inl (by simp));have NU:=(DN.out.bC dY.out).aj hx6 HQF.out (fun k hk => by simp at hk; exact hk ▸ HQQ.out);have hb6:=(HB4.out.aj dY.out (by simp)).aJ 2 (.slice As (dP s.rr.reverse).length cs)
 have akl:=(akj.out.aj dY.out (by simp)).bC hx6 (qg (HB4.out.aj dY.out (by simp)) (akj.out.aj dY.out (by simp)) (fun u hu hx => by
  obtain ⟨y,_,rfl⟩:=List.mem_map.1 hx
  simp at hu))
 have ho6:=aF NY.out hx6 (fun g hg hm => by
  have:=(NY.out.lt g hg).1;simp at hm;have:=HB4.out.lt
  omega)
 generalize w5.setCell ⟨qm,2,none⟩ (.slice As (dP s.rr.reverse).length cs) = w6 at *;have e1:=NU.blk.cell' (i:=1) rfl;have anf:=NU.blk.lt;have hus:Calls Tryz.prog 87 #[.pointer (some ⟨p1.pp,0,none⟩)] w6 fun e w' => e = .returned (.int .i64 (s.used:Int))/\w6 = w':=Y1 NU.plan;have y1:=hb6.cell' (i:=1) rfl;have f1:=hb6.frozen 1;have apq:=hb6.lt;have Wq:=hide NU;have Bf:=hide hb6;have RX:=hide akl;have HO6:=hide ho6;have HX6:=hide hx6;clear NU hb6 akl ho6 hx6 g2 z2 apo;go_upto_region 6 with (go_at_call 87; refine hus.mono ?_; rintro e w7 ⟨rfl,rfl⟩);change Code.wp _ _ _ _ ((w6.setCell ⟨qm,1,none⟩ (.slice (some ⟨w6.heap.size,0,none⟩) s.used s.used)).alloc (.cells (zeros (.int .i32 0) s.used).toArray 21));have hxa:ah w6 (w6.setCell ⟨qm,1,none⟩ (.slice (some ⟨w6.heap.size,0,none⟩) s.used s.used)) [qm]:=(ah.refl w6 _).setCell _ _ (.inl (by simp));have hx7:ah w6 ((w6.setCell ⟨qm,1,none⟩ (.slice (some ⟨w6.heap.size,0,none⟩) s.used s.used)).alloc (.cells (zeros (.int .i32 0) s.used).toArray 21)) [qm]:=hxa.alloc _;have hp7:=Wq.out.aj hx7 HQF.out (fun k hk => by simp at hk; exact hk ▸ HQQ.out);have hb7:=(Bf.out.aJ 1 (.slice (some ⟨w6.heap.size,0,none⟩) s.used s.used)).alloc (.cells (zeros (.int .i32 0) s.used).toArray 21);have hg7:=ay.new (w6.setCell ⟨qm,1,none⟩ (.slice (some ⟨w6.heap.size,0,none⟩) s.used s.used)) 21 (zeros (.int .i32 0) s.used);rw [size_setCell] at hg7
 have MJ:=RX.out.bC hx7 (qg Bf.out RX.out (fun u hu hx => by
  obtain ⟨y,_,rfl⟩:=List.mem_map.1 hx
  simp at hu))
 have ho7:=aF HO6.out hx7 (fun g hg hm => by
  have:=(HO6.out.lt g hg).1;simp at hm;have:=HB4.out.lt
  omega)
 have hz7:((w6.setCell ⟨qm,1,none⟩ (.slice (some ⟨w6.heap.size,0,none⟩) s.used s.used)).alloc (.cells (zeros (.int .i32 0) s.used).toArray 21)).heap.size = w6.heap.size + 1:=by rw [size_alloc,size_setCell]
 generalize ((w6.setCell ⟨qm,1,none⟩ (.slice (some ⟨w6.heap.size,0,none⟩) s.used s.used)).alloc (.cells (zeros (.int .i32 0) s.used).toArray 21)) = w7 at *;have e2:=hp7.blk.cell' (i:=2) rfl;have ang:=hp7.blk.lt;have HZ4:=hide HB4.out.lt;generalize hgd:w6.heap.size = gd at *;obtain ⟨D,hown,hT,hD,hf⟩:=hp7.data;have HP7:=hide hp7;have HB7:=hide hb7;have HG7:=hide hg7;have akp:=hide MJ;have HO7:=hide ho7;have HX7:=hide hx7;have HZ7:=hide hz7;have HFD:=hide hf;have HDM:=hide hD;clear hp7 hb7 hg7 MJ ho7 hx7 hxa e1 y1 f1 apq anf hf hD hT
 go_wp2_with (first
  | (at_range; refine wpList_range_own _ rfl _ 128 rfl 3 21 jJ Tryz.underlying128 _ p1.md p1.nd D rfl hown ?_; intro w8 hrg0 hg0 hs0)
  | fail)
 have hc8:ah w7 w8 []:=ah.dh hg0 (by simp);have HC8:=hide hc8;generalize hr7:w7.heap.size = r at *;obtain rfl:r = gd + 1:=by have:=HZ7.out; omega
 have hqr:qm < gd:=by have:=Bf.out.lt; omega
 have hg8:=HG7.out.aj hc8 (by simp)
 have hst:zeros (.int .i32 0) s.used = bH (nD s (Maps.has D)):=(RV s (fun a ha => by
  have h1:=(HFD.out (.int .i64 (a:Int)) trivial).1;rw [ha] at h1;have h1:((findD s.data (a:Int)).map (Lit.int .i32)).isSome = false:=h1.symm
  cases hx:findD s.data (a:Int) with
  | none => rfl
  | some y => rw [hx] at h1; cases h1)).symm
 rw [hst] at hg8;have HG8:=hide hg8;clear hc8 hg8 hst hg0 hs0 e2 hown hmk;go_frame;go_loopw [4,5] (fun _ _ wr => ∃ (left:Lit->Bool) (cnt:Nat),wr.ranges Tryz.prog 3 (plainElem Tryz.prog 21) p1.md (gd + 1) p1.nd D left cnt/\Hid (ah w8 wr [gd,gd + 1])/\Hid (ay wr gd 21 (bH (nD s left)))/\Hid (∀ kl,left kl = true->Maps.has D kl = true)) (fun _ _ wr => wr.rangeLeft p1.md (gd + 1))
 case atStart => exact ⟨_,_,hrg0,hide (ah.refl _ _),HG8,hide fun _ h => h⟩
 case round =>
  obtain ⟨left,cnt,hrg,HR,HG,HL2⟩:=hrel;go_wp2_with (at_next; refine wpList_next_ranges_ii _ rfl _ rfl 3 21 .i64 .i32 jJ Tryz.underlying3 Tryz.underlying21 p1.md (gd + 1) p1.nd _ _ _ rfl hrg ?_ ?_)
  . intro _ hl0
    have RY:ah w7 wr [gd]:=(HC8.out.more (D':=[gd]) (by simp)).trans HR.out (fun k hk => by
     simp at hk;rcases hk with rfl | rfl
     . exact .inl (by simp)
     . exact .inr (by have:=HZ7.out; omega))
    have aq0:w.heap.size < qm:=by have:=akb.out; omega
    have n1:w.heap.size∉[qm]:=by simp; omega
    have n2:w.heap.size∉[gd]:=by simp; omega
    have aey:=((((WI.out.aj HC2.out (by simp)).aj dU.out (by simp)).aj HX4.out n1).aj dY.out (by simp)).aj HX6.out n1;have aez:=aey.aj HX7.out n1;have hb2:=aez.aj RY n2;have hbq:=HB7.out.aj RY (by simp; omega);have x0:=hbq.cell' (i:=0) rfl;have x1:=hbq.cell' (i:=1) rfl;have x2:=hbq.cell' (i:=2) rfl;have x3:=hbq.cell' (i:=3) rfl;have x4:=hbq.cell' (i:=4) rfl;have v0:=hb2.cell' (i:=0) rfl;have v1:=hb2.cell' (i:=1) rfl;have v2:=hb2.cell' (i:=2) rfl;have v3:=hb2.cell' (i:=3) rfl;have v4:=hb2.cell' (i:=4) rfl;have k0:=hb2.frozen 0;have k1:=hb2.frozen 1;have k2:=hb2.frozen 2;have k3:=hb2.frozen 3;have k4:=hb2.frozen 4;have hblt:=hb2.lt;have HB2:=hide hb2;have aq1:=hide aey;have apr:=hide aez;have HWR:=hide RY;have HL0:=hide hl0;clear hb2 aey aez RY hbq hl0 hrg ang n1 n2;go_wp2;have hfb:=((((HB2.out.aJ 0 (.slice Ac (gY l).length cc)).aJ 1 (.slice (some ⟨gd,0,none⟩) s.used s.used)).aJ 2 (.slice As (dP s.rr.reverse).length cs)).aJ 3 (.slice Ai s.ri.length ci)).aJ 4 (.slice Ao s.ro.length co);have hcf:ah wr (((((wr.setCell ⟨w.heap.size,0,none⟩ (.slice Ac (gY l).length cc)).setCell ⟨w.heap.size,1,none⟩ (.slice (some ⟨gd,0,none⟩) s.used s.used)).setCell ⟨w.heap.size,2,none⟩ (.slice As (dP s.rr.reverse).length cs)).setCell ⟨w.heap.size,3,none⟩ (.slice Ai s.ri.length ci)).setCell ⟨w.heap.size,4,none⟩ (.slice Ao s.ro.length co)) [w.heap.size]:=((((((ah.refl wr [w.heap.size]).setCell _ _ (.inl (List.mem_singleton.2 rfl))).setCell _ _ (.inl (List.mem_singleton.2 rfl))).setCell _ _ (.inl (List.mem_singleton.2 rfl))).setCell _ _ (.inl (List.mem_singleton.2 rfl))).setCell _ _ (.inl (List.mem_singleton.2 rfl)))
    refine bodyPost_ret (v:=.agg #[.slice Ac (gY l).length cc,.slice (some ⟨gd,0,none⟩) s.used s.used,.slice As (dP s.rr.reverse).length cs,.slice Ai s.ri.length ci,.slice Ao s.ro.length co]) (results_cell_row rfl _ _ w.heap.size 60 _ (0,0) _ rfl hfb Tryz.underlying60 rfl (by kernel_rfl)) rfl ?_;generalize (((((wr.setCell ⟨w.heap.size,0,none⟩ (.slice Ac (gY l).length cc)).setCell ⟨w.heap.size,1,none⟩ (.slice (some ⟨gd,0,none⟩) s.used s.used)).setCell ⟨w.heap.size,2,none⟩ (.slice As (dP s.rr.reverse).length cs)).setCell ⟨w.heap.size,3,none⟩ (.slice Ai s.ri.length ci)).setCell ⟨w.heap.size,4,none⟩ (.slice Ao s.ro.length co)) = wf at *;have aq2:=HC2.out.size;have aq3:=dU.out.size;have aq4:=HX4.out.size;have aq5:=dY.out.size;have aq6:=HX6.out.size;have hzx:=HB4.out.lt;have DW:ah w7 wf [gd,w.heap.size]:=(HWR.out.more (D':=[gd,w.heap.size]) (fun k hk => .inl (by simp at hk ⊢; exact .inl hk))).trans hcf (fun k hk => .inl (by simp at hk ⊢; exact .inr hk))
    have hcA:ah w w7 (p.foot b.a):=by
     have h1:ah w1 w7 []:=(((((HC2.out.trans dU.out (by simp)).trans HX4.out (fun k hk => by simp at hk; exact .inr (by omega))).trans dY.out (by simp)).trans HX6.out (fun k hk => by simp at hk; exact .inr (by omega))).trans HX7.out (fun k hk => by simp at hk; exact .inr (by omega)))
     exact bg.out.trans h1 (by simp)
    refine ⟨_,rfl,hcA.trans DW (fun k hk => ?_),⟨_,_,_,_,_,rfl,?_,?_,?_,?_,?_⟩,?far⟩
    case far =>
     intro c d se i o e u hu A m k hA;injection e with e;simp only [Array.mk.injEq,List.cons.injEq,and_true] at e;obtain ⟨rfl,rfl,rfl,rfl,rfl⟩:=e;have aq7:=bg.out.size;have hz5:=akb.out;have hbk:∀ x,x∈p1.foot b.a->x∈p.foot b.a\/w.heap.size<=x:=fun x hx => (dW.out x hx).imp_right fun h => by rw [size_alloc] at h; omega
     simp only [List.mem_cons,List.not_mem_nil,or_false] at hu;rcases hu with rfl | rfl | rfl | rfl | rfl
     . have:=apn.out A m k hA
       exact .inr (by omega)
     . injection hA with hA
       injection hA with hA;subst hA;have:=HZ4.out;exact .inr (by show w.heap.size<=gd; omega)
     . injection hA with hA
       have:=(HO6.out.lt A.block (by rw [hA]; rfl)).1;exact .inr (by omega)
     . injection hA with he1
       exact hbk _ (KP.aV (i:=7) (by show A.block∈p1.iv.ownBlock.toList; rw [HAI.out,he1]; simp [Value.ownBlock]))
     . injection hA with he1
       exact hbk _ (KP.aV (i:=8) (by show A.block∈p1.ov.ownBlock.toList; rw [HAO.out,he1]; simp [Value.ownBlock]))
    . simp at hk
      rcases hk with rfl | rfl
      . exact .inr (by have:=bg.out.size; omega)
      . exact .inr (Nat.le_refl _)
    . refine akp.out.bC DW (fun h0 A n c he hm => ?_)
      have rP:=qg apr.out akp.out (fun u hu hx => by
       obtain ⟨y,_,rfl⟩:=List.mem_map.1 hx
       simp at hu) h0 A n c he
      simp at hm rP;rcases hm with hm | hm
      . have h6:=RX.out
        rw [he] at h6;obtain ⟨b',off,hA,_,hlt'⟩:=h6.at_ (k:=0) (List.getElem?_eq_getElem h0);injection hA with hA;subst hA;simp at hm;omega
      . exact rP hm
    . have hgf:=(HG.out.aj hcf (by simp; omega))
      rw [Y3 s HL0.out] at hgf;have hlen:s.used = (bH (Gu s)).length:=by simp [bH,Gu]
      exact Sl.blk' hgf hlen (Nat.le_refl _)
    . refine (Sl.own HO7.out).aj DW (fun A n c he hm => ?_)
      injection he with he1 he2 he3;have hob:(Value.slice As (dP s.rr.reverse).length cs).ownBlock = some A.block:=by rw [he1]; rfl
      have h1:=HO6.out.lt A.block hob;simp at hm;omega
    . have aeA : Sl w7 (.slice Ai s.ri.length ci) (ints s.ri.reverse) := by
       have:=Sl.own HP7.out.inn;rw [HAI.out] at this;exact this
      refine aeA.aj DW (fun A n c he hm => ?_);injection he with he1 he2 he3;have hob:A.block∈p1.foot b.a:=KP.aV (i:=7) (by show A.block∈p1.iv.ownBlock.toList; rw [HAI.out,he1]; simp [Value.ownBlock]);have h1:=Wq.out.flt _ hob;simp at hm;rcases hm with hm | hm
      . omega
      . exact aj_.out (hm ▸ hob)
    . have aeA : Sl w7 (.slice Ao s.ro.length co) (ints s.ro.reverse) := by
       have:=Sl.own HP7.out.out;rw [HAO.out] at this;exact this
      refine aeA.aj DW (fun A n c he hm => ?_);injection he with he1 he2 he3;have hob:A.block∈p1.foot b.a:=KP.aV (i:=8) (by show A.block∈p1.ov.ownBlock.toList; rw [HAO.out,he1]; simp [Value.ownBlock]);have h1:=Wq.out.flt _ hob;simp at hm;rcases hm with hm | hm
      . omega
      . exact aj_.out (hm ▸ hob)
  . intro x c w9 cnt1 hwx hwc hlx hat hrg1 hlt1 hg1 hs1 hen
    have hc9:ah wr w9 [gd + 1]:=ah.dh hg1 (fun k hk => by injection hk with hk; exact .inl (by subst hk; simp))
    have hfx:findD s.data x = some c:=by
     obtain ⟨h1,h2⟩:=HFD.out (.int .i64 x) trivial;rw [HL2.out _ hlx] at h1;have h1:true = ((findD s.data x).map (Lit.int .i32)).isSome:=h1;have h2:∀ z,D.atKey (.int .i64 x) (.lit z) = .lit (((findD s.data x).map (Lit.int .i32)).getD z):=h2
     cases hx:findD s.data x with
     | none => rw [hx] at h1; cases h1
     | some y =>
      rw [hx] at h2;have h3:=(h2 (.int .i32 0)).symm.trans (hat _);simp at h3;rw [h3]
    obtain ⟨q,hq,hqx⟩:=abJ hfx;have hqu:=HQ5.out q hq;obtain ⟨a,rfl⟩:∃ a:Nat,x = (a:Int):=⟨q.1,hqx.symm⟩
    have hqa:q.1 = a:=by omega
    rw [hqa] at hqu;have HFX:=hide hfx
    have RY:ah w7 wr [gd]:=(HC8.out.more (D':=[gd]) (by simp)).trans HR.out (fun k hk => by
     simp at hk;rcases hk with rfl | rfl
     . exact .inl (by simp)
     . exact .inr (by have:=HZ7.out; omega))
    have RZ:=HG.out.aj hc9 (by simp);have aku:=(HB7.out.aj RY (by simp; omega)).aj hc9 (by simp; omega);have x1:=aku.cell' (i:=1) rfl;have hln:a < (nD s left).length:=by rw [Y2]; exact hqu
    have xa:=RZ.cell' (LK _ a hln);have fa:=RZ.frozen a;have hgl:=RZ.lt;have hia:decide ((a:Int) < 0) = false:=decide_eq_false (by omega);have hib:decide ((a:Int) < (s.used:Int)) = true:=decide_eq_true (by omega);have HG9:=hide RZ;have HC9:=hide hc9;have HRG:=hide hrg1;have aps:=hide hrg;have sH:=hide hlt1
    have hne1:some p1.md≠some gd:=fun e => by
     injection e with e;have:=Wq.out.flt p1.md (KP.aV (i:=3) (by simp [KP.part]));omega
    clear RZ aku RY hc9 hfx hrg1 hrg hlt1 hg1 hq hqx hlx hat;go_wp2;go_roundw
    case rel =>
     refine ⟨_,cnt1,HRG.out.kept (grown_setCell _ _ _ _) hne1 (by simp),hide ((HR.out.trans (HC9.out.more (D':=[gd,gd + 1]) (fun k hk => .inl (by simp at hk ⊢; exact .inr hk))) (fun k hk => .inl hk)).setCell ⟨gd,a,none⟩ _ (.inl (by simp))),hide ?_,hide ?_⟩
     . rw [Vr s hqu HFX.out,Qh]
       exact HG9.out.aJ a (.int .i32 c)
     . intro kl hkl
       simp only [Bool.and_eq_true] at hkl;exact HL2.out kl hkl.1
    case measure =>
     rw [(HRG.out.kept (grown_setCell _ gd a (.int .i32 c)) hne1 (by simp)).left_eq,aps.out.left_eq];exact sH.out
end
end

namespace Xi
open Go Go.RowKit Ab
theorem uI {w:World} {g:Nat} {t t':TypeId} {l l':List Value} (h:ay w g t l) (h':ay w g t' l'):l = l':=by
 unfold ay at h h';rw [h] at h';injection h' with h';injection h' with h';have:=congrArg Array.toList h'
 simpa using this
theorem PB.uniq {w:World} {b:Nat} {bm bm':BM} {F F':List Nat} (h:PB w b bm F) (h':PB w b bm' F'):F = F':=by
 obtain ⟨t,m,cv,uv,n,hp,rfl,_⟩:=h;obtain ⟨t',m',cv',uv',n',hp',rfl,_⟩:=h';have e:=uI hp.blk hp'.blk;simp at e;obtain ⟨rfl,rfl⟩:=e;have e:=uI hp.tab.blk hp'.tab.blk;simp at e;obtain ⟨rfl,rfl⟩:=e;rfl
theorem KR.uniq {w:World} {b:MP} {s s':KS} {F F':List Nat} (h:KR w b s F) (h':KR w b s' F'):F = F':=by
 obtain ⟨p,hp,_,rfl⟩:=h;obtain ⟨p',hp',_,rfl⟩:=h';have e:=uI hp.blk hp'.blk;simp at e;obtain ⟨e1,e2,e3,e4,e5,e6,e7,e8,e9,e10⟩:=e;have hb:=hp.lV;rw [e1] at hb;have f1:=PB.uniq hb hp'.lV;have hpl:=hp.plan.blk;rw [e2] at hpl;have e:=uI hpl hp'.plan.blk;simp at e;unfold KP.foot;rw [f1,e2,e3,e4,e5,e6,e9,e10,e.2]
open Classical in
noncomputable def R_ (b:MP) (s:KS) (w:World):List Nat:=if h:∃ F,KR w b s F then h.choose else []
theorem h_ {b:MP} {s:KS} {w:World} {F:List Nat} (h:KR w b s F):R_ b s w = F:=by
 unfold R_;rw [dif_pos ⟨F,h⟩];exact KR.uniq (Exists.choose_spec (⟨F,h⟩:∃ F,KR w b s F)) h
theorem Fr.abN {w w':World} {D:Nat->Prop} (h:Fr w w' D):∃ L:List Nat,ah w w' L/\∀ k∈L,D k:=by
 classical
 refine ⟨(List.range w.heap.size).filter fun k => decide (D k),⟨h.os,h.tape,h.output,h.size,fun k hk hn => h.block k hk fun hd => hn ?_⟩,fun k hk => ?_⟩
 . simp [List.mem_filter,hk,hd]
 . have:=(List.mem_filter.1 hk).2
   simpa using this
def Same (G:Nat->Option Obj) (w:World):Prop:=∀ g,g < 11->w.heap[g]? = G g
theorem Same.aj {G:Nat->Option Obj} {w w':World} {L:List Nat} (h:Same G w) (hz:11<=w.heap.size) (hc:ah w w' L) (hL:∀ k∈L,11<=k):Same G w':=fun g hg => by
 rw [hc.block g (by omega) (fun hm => by have:=hL g hm; omega)];exact h g hg
def C9 (G:Nat->Option Obj) (X:List Nat) (w:World):Prop:=∀ g∈X,g < w.heap.size/\w.heap[g]? = G g
def Si (X:List Nat):List Nat:=List.range 11 ++ X
theorem C9.aj {G:Nat->Option Obj} {X:List Nat} {w w':World} {L:List Nat} (h:C9 G X w) (hc:ah w w' L) (hL:∀ g∈X,g∉L):C9 G X w':=fun g hg => by
 obtain ⟨h1,h2⟩:=h g hg;exact ⟨Nat.lt_of_lt_of_le h1 hc.size,(hc.block g h1 (hL g hg)).trans h2⟩
theorem MK {F1 F:List Nat} {w:World} {R:List Nat} (hs:Sub F1 F w):∀ k∈F1 ++ R,k∈F ++ R\/w.heap.size<=k:=fun k hk => by
 rcases List.mem_append.1 hk with hk | hk
 . exact (hs k hk).imp_left (List.mem_append_left _)
 . exact .inl (List.mem_append_right _ hk)
theorem Sj {G:Nat->Option Obj} {X:List Nat} {w w':World} {F:List Nat} (hf:Fr w w' (·∈F ++ Si X)) (h:Same G w) (h':Same G w') (hx:C9 G X w) (hx':C9 G X w'):ah w w' F :=
 ⟨hf.os,hf.tape,hf.output,hf.size,fun k hk hn => by
   by_cases hq:k < 11
   . rw [h k hq,h' k hq]
   . by_cases hX:k∈X
     . rw [(hx k hX).2,(hx' k hX).2]
     . exact hf.block k hk (fun hm => by
        rcases List.mem_append.1 hm with hm | hm
        . exact hn hm
        . rcases List.mem_append.1 hm with hm | hm
          . exact hq (List.mem_range.1 hm)
          . exact hX hm)⟩
theorem ah.Y4 {w w':World} {F:List Nat} {R:List Nat} (h:ah w w' F):ah w w' (F ++ R):=h.more fun k hk => .inl (List.mem_append_left _ hk)
theorem ML {X F F':List Nat} {w:World} {G:Nat->Option Obj} (hx:C9 G X w) (h:∀ g∈X,g∉F) (hs:Sub F' F w):∀ g∈X,g∉F':=fun g hg hm => by
 have:=(hx g hg).1;rcases hs g hm with h1 | h1
 . exact h g hg h1
 . omega
noncomputable def oP (b:MP) (G:Nat->Option Obj) (X:List Nat):fM Tryz.prog where
 σ:=KS
 I:=fun s w => (∃ F,KR w b s F/\∀ g∈X,g∉F)/\Same G w/\C9 G X w
 fp:=fun s w => R_ b s w ++ Si X
 lt:=fun s w ⟨⟨F,h,hX⟩,_,hS⟩ d hd => by
  rw [h_ h] at hd;rcases List.mem_append.1 hd with hd | hd
  . exact h.lt d hd
  . rcases List.mem_append.1 hd with hd | hd
    . have:=List.mem_range.1 hd; have:=h.iP.size; omega
    . exact (hS d hd).1
 keep:=fun s w w' D ⟨⟨F,h,hX⟩,hG,hS⟩ hf hD => by
  rw [h_ h] at hD;obtain ⟨L,hc,hL⟩:=hf.abN
  have hq:∀ k∈L,11<=k:=fun k hk => by
   have:=hD k (hL k hk);simp only [Si,List.mem_append,List.mem_range,not_or] at this;omega
  have hx:∀ g∈X,g∉L:=fun g hg hm => hD g (hL g hm) (List.mem_append_right _ (List.mem_append_right _ hg));have h':KR w' b s F:=h.aj hc (fun k hk hm => hD k (hL k hm) (List.mem_append_left _ hk)) hq;exact ⟨⟨⟨F,h',hX⟩,hG.aj h.iP.size hc hq,hS.aj hc hx⟩,by rw [h_ h,h_ h']⟩
 step:=fun s f cas v s' => ∀ (w:World) (args:List Value) (F:List Nat),KR w b s F->fF (F ++ Si X) w args cas->Calls Tryz.prog f args.toArray w (gW v s' b F w)
 G8:=fun s f recv n i s1 => f = 313/\recv = .pointer (some ⟨b.a,0,none⟩)/\∃ m:Nat,n = (m:Int)/\i = .int .i64 (s.used:Int)/\s1 = s.G8 m/\s.can 1 = true/\1<=m/\m<=32767/\s.depth<=10
 fin:=fun s s2 f s' => f = 313/\s' = s2.fin (s.names + 2)/\s2.depth = s.depth + 1/\s2.nc<=799980
 step_ok:=fun s w f args cas v s' ⟨⟨F,h,hX⟩,hG,hS⟩ ha hs => by
  rw [h_ h] at ha;refine (hs w args F h ha).mono fun e w' hq => ?_;obtain ⟨he,hc,F',hsub,hk⟩:=hq;refine ⟨he,⟨⟨F',hk,ML hS hX hsub⟩,hG.aj h.iP.size hc h.high,hS.aj hc hX⟩,?_,fun d hd => ?_⟩
  . rw [h_ h]
    exact Fr.Ec (ah.Y4 hc)
  . rw [h_ hk] at hd
    rw [h_ h];exact MK hsub d hd
 LW:=fun s w f recv n i bf first cap s1 s2 s' ⟨⟨F,h,hX⟩,hG,hS⟩ hb hf hcl hbody => by
  obtain ⟨rfl,rfl,m,rfl,rfl,rfl,hcan,hm1,hm2,hd⟩:=hb;obtain ⟨_,rfl,hd2,hn2⟩:=hf;have hnc:=(kL hcan).2.2;refine (Vp h m bf first.toArray cap.toArray s2 hd hm1 hm2 hcan hnc hd2 (by omega) hcl fun w1 F1 hk1 hc1 hs1 => ?_).mono fun e w' hq => ?_
  . have hG1:=hG.aj h.iP.size hc1 h.high
    have hS1:=hS.aj hc1 hX;have hX1:=ML hS hX hs1
    have hb1:=hbody w1 ⟨⟨F1,hk1,hX1⟩,hG1,hS1⟩ (by rw [h_ h]; exact Fr.Ec (ah.Y4 hc1)) (fun d hd => by
     rw [h_ hk1] at hd;rw [h_ h]
     exact MK hs1 d hd)
    rw [show first.toArray ++ #[Value.int .i64 (s.used:Int)] ++ cap.toArray = (first ++ [Value.int .i64 (s.used:Int)] ++ cap).toArray by simp];refine hb1.mono fun e w2 hq => ?_;obtain ⟨he,⟨⟨F2,hk2,hX2⟩,hG2,hS2⟩,hf2,hg2⟩:=hq;rw [h_ hk1] at hf2 hg2;rw [h_ hk2] at hg2;refine ⟨he,Sj hf2 hG1 hG2 hS1 hS2,F2,fun k hk => ?_,hk2⟩;rcases hg2 k (List.mem_append_left _ hk) with h1 | h1
    . rcases List.mem_append.1 h1 with h1 | h1
      . exact .inl h1
      . rcases List.mem_append.1 h1 with h1 | h1
        . have:=List.mem_range.1 h1; have:=hk2.high k hk; omega
        . exact absurd hk (hX2 k h1)
    . exact .inr h1
  . obtain ⟨he,hc,F',hsub,hk⟩:=hq
    refine ⟨he,⟨⟨F',hk,ML hS hX hsub⟩,hG.aj h.iP.size hc h.high,hS.aj hc hX⟩,?_,fun d hd => ?_⟩
    . rw [h_ h]
      exact Fr.Ec (ah.Y4 hc)
    . rw [h_ hk] at hd
      rw [h_ h];exact MK hsub d hd
inductive KA where
 | bare (p:Addr)
 | n (x:Nat)
 | c (x:Int)
 | li (l:List Int)
 | ln (l:List Nat)
def KA.Is (fp:List Nat) (w:World):KA->Value->Prop
 | .bare p,v => v = .pointer (some p)
 | .n x,v => v = .int .i64 (x:Int)
 | .c x,v => v = .int .i32 x/\aC x
 | .li l,v => Sl w v (bH l)/\∀ A n c,v = .slice (some A) n c->A.block∉fp
 | .ln l,v => Sl w v (ints l)/\∀ A n c,v = .slice (some A) n c->A.block∉fp
def Gv (fp:List Nat) (w:World):List KA->List Value->Prop
 | [],[] => True
 | a :: l,v :: vs => a.Is fp w v/\Gv fp w l vs
 | _,_ => False
def Hw (ρ:List Nat):AV->Option Nat
 | .opq i => nth ρ i
 | .lit (.int .i64 (.ofNat m)) => some m
 | _ => none
def vk:List AV->Option (List Int)
 | [] => some []
 | .lit (.int .i32 n) :: l => match vk l with | some r => some (n :: r) | none => none
 | _ => none
def I_ (ρ:List Nat):List AV->Option (List Nat)
 | [] => some []
 | a :: l => match Hw ρ a with
  | some x => (match I_ ρ l with | some xs => some (x :: xs) | none => none)
  | none => none
def pk1 (ρ:List Nat):EA->Option KA
 | .v (.lit (.pointer (some p))) => some (.bare p)
 | .v (.lit (.int .i32 n)) => bif (Lit.int .i32 n).wf then some (.c n) else none
 | .v a => match Hw ρ a with | some x => some (.n x) | none => none
 | .l cs => match vk cs with
  | some l => some (.li l)
  | none => match I_ ρ cs with
   | some l => some (.ln l)
   | none => none
def SA (ρ:List Nat):List EA->Option (List KA)
 | [] => some []
 | a :: l => match pk1 ρ a,SA ρ l with | some x,some xs => some (x :: xs) | _,_ => none
def mQ:List KA->List Addr
 | [] => []
 | .bare p :: l => p :: mQ l
 | _ :: l => mQ l
def kF (ρ:List Nat) (ρF:Nat->Value):Prop:=∀ (i x:Nat),ρ[i]? = some x->ρF i = .int .i64 (x:Int)
theorem kF.of_append {ρ τ:List Nat} {ρF:Nat->Value} (h:kF (ρ ++ τ) ρF):kF ρ ρF:=fun i v hv => h i v (by
 have:=(List.getElem?_eq_some_iff.1 hv).1
 rw [List.getElem?_append_left this]; exact hv)
theorem Kw {ρ:List Nat} {ρF:Nat->Value} (hF:kF ρ ρF) {a:AV} {x:Nat} (h:Hw ρ a = some x):a.aA (E0 ρF) = .int .i64 (x:Int):=by
 unfold Hw at h;split at h
 . rw [oC] at h
   exact hF _ x h
 . injection h with h
   subst h;rfl
 . cases h
theorem abQ {ρF:Nat->Value}:∀ {l:List AV} {r:List Int},vk l = some r->aB (E0 ρF) l = bH r
 | [],r,h => by unfold vk at h; injection h with h; subst h; rfl
 | .lit v :: l,r,h => by
  cases v with
  | int k n =>
   cases k with
   | i32 =>
    unfold vk at h
    cases hl:vk l with
    | none => rw [hl] at h; cases h
    | some q =>
     rw [hl] at h;injection h with h;subst h;have:=abQ (ρF:=ρF) hl;show Value.int .i32 n :: aB (E0 ρF) l = Value.int .i32 n :: bH q;rw [this]
   | _ => unfold vk at h; cases h
  | _ => unfold vk at h; cases h
 | .opq _ :: _,_,h => by unfold vk at h; cases h
 | .ptr _ _ :: _,_,h => by unfold vk at h; cases h
 | .slc _ _ _ _ :: _,_,h => by unfold vk at h; cases h
 | .row _ _ :: _,_,h => by unfold vk at h; cases h
 | .fn _ _ _ :: _,_,h => by unfold vk at h; cases h
 | .qY _ _ :: _,_,h => by unfold vk at h; cases h
 | .agg _ :: _,_,h => by unfold vk at h; cases h
 | .jl _ :: _,_,h => by unfold vk at h; cases h
theorem WM {ρ:List Nat} {ρF:Nat->Value} (hF:kF ρ ρF):∀ {l:List AV} {r:List Nat},I_ ρ l = some r->aB (E0 ρF) l = ints r
 | [],r,h => by unfold I_ at h; injection h with h; subst h; rfl
 | a :: l,r,h => by
  unfold I_ at h
  cases h1:Hw ρ a with
  | none => rw [h1] at h; cases h
  | some x =>
   rw [h1] at h;simp only [] at h
   cases h2:I_ ρ l with
   | none => rw [h2] at h; cases h
   | some xs =>
    rw [h2] at h;injection h with h;subst h;show a.aA (E0 ρF) :: aB (E0 ρF) l = .int .i64 (x:Int) :: ints xs;rw [Kw hF h1,WM hF h2]
theorem WO {n:Int} (h:(Lit.int .i32 n).wf = true):aC n:=by
 simp only [Lit.wf,IntKind.min,IntKind.max,IntKind.signed,IntKind.bits] at h;simp at h;unfold aC;omega
theorem akw {ρ:List Nat} {ρF:Nat->Value} (hF:kF ρ ρF) {fp:List Nat} {w:World} {v:Value} {a:EA} {m:KA} (h:pk1 ρ a = some m) (hv:Pz fp w v (a.aA (E0 ρF))):m.Is fp w v:=by
 unfold pk1 at h;split at h
 . injection h with h
   subst h;exact hv
 . rename_i n
   cases hw:(Lit.int .i32 n).wf with
   | false => rw [hw] at h; cases h
   | true =>
    rw [hw] at h;injection h with h;subst h;exact ⟨hv,WO hw⟩
 . rename_i a' _ _
   cases hp:Hw ρ a' with
   | none => rw [hp] at h; cases h
   | some x =>
    rw [hp] at h;injection h with h;subst h;have e:v = a'.aA (E0 ρF):=hv;rw [Kw hF hp] at e;exact e
 . rename_i cs
   cases hp:vk cs with
   | none =>
    rw [hp] at h;simp only [] at h
    cases hq:I_ ρ cs with
    | none => rw [hq] at h; cases h
    | some l =>
     rw [hq] at h;injection h with h;subst h;obtain ⟨h1,h2⟩:=hv;rw [WM hF hq] at h1;exact ⟨h1,h2⟩
   | some l =>
    rw [hp] at h;injection h with h;subst h;obtain ⟨h1,h2⟩:=hv;rw [abQ hp] at h1;exact ⟨h1,h2⟩
theorem SB {ρ:List Nat} {ρF:Nat->Value} (hF:kF ρ ρF) {fp:List Nat} {w:World}:∀ {l:List EA} {us:List KA} {args:List Value},SA ρ l = some us->fF fp w args (l.map (EA.aA (E0 ρF)))->Gv fp w us args
 | [],us,args,h,ha => by
  unfold SA at h; injection h with h; subst h
  cases args with
  | nil => trivial
  | cons _ _ => exact ha.elim
 | a :: l,us,args,h,ha => by
  unfold SA at h
  cases h1:pk1 ρ a with
  | none => rw [h1] at h; cases h
  | some x =>
   cases h2:SA ρ l with
   | none => rw [h1,h2] at h; cases h
   | some ys =>
    rw [h1,h2] at h;injection h with h;subst h
    cases args with
    | nil => exact ha.elim
    | cons v vs => exact ⟨akw hF h1 ha.1,SB hF h2 ha.2⟩
def Y7 {γ:Type} (f:FuncId) (us:List KA) (s:KS) (k:Option Nat->KS->Option γ):Option γ :=
 bif Nat.beq f 311 then (match us with | [.bare _,.n op,.n a,.n c] => opR s op a c none fun x s' => k (some x) s' | _ => none)
 else bif Nat.beq f 310 then (match us with | [.bare _,.c n] => Ru s n none fun x s' => k (some x) s' | _ => none)
 else bif Nat.beq f 64 then (match us with | [.bare _,.n v] => PO s v none fun x s' => k (some x) s' | _ => none)
 else bif Nat.beq f 40 then (match us with | [.bare _,.n v] => PO s v none fun x s' => k (some x) s' | _ => none)
 else bif Nat.beq f 44 then (match us with | [.bare _,.n c,.n v] => aea s c v none fun s' => k none s' | _ => none)
 else bif Nat.beq f 309 then (match us with | [.bare _,.n t,.n i] => atR s t i none fun x s' => k (some x) s' | _ => none)
 else bif Nat.beq f 314 then (match us with | [.bare _,.li l] => Sr s l none fun x s' => k (some x) s' | _ => none)
 else bif Nat.beq f 312 then (match us with | [.bare _,.ln l] => Y6 s l none fun x s' => k (some x) s' | _ => none)
 else none
def ovK:Option Nat->Value
 | some x => .int .i64 (x:Int)
 | none => .tuple #[]
theorem ka2 {fp:List Nat} {w:World} {a c:KA} {args:List Value} (h:Gv fp w [a,c] args):∃ v1 v2,args = [v1,v2]/\a.Is fp w v1/\c.Is fp w v2:=by
 match args,h with
 | [v1,v2],⟨h1,h2,_⟩ => exact ⟨v1,v2,rfl,h1,h2⟩
theorem ka3 {fp:List Nat} {w:World} {a c d:KA} {args:List Value} (h:Gv fp w [a,c,d] args):∃ v1 v2 v3,args = [v1,v2,v3]/\a.Is fp w v1/\c.Is fp w v2/\d.Is fp w v3:=by
 match args,h with
 | [v1,v2,v3],⟨h1,h2,h3,_⟩ => exact ⟨v1,v2,v3,rfl,h1,h2,h3⟩
theorem ka4 {fp:List Nat} {w:World} {a c d e:KA} {args:List Value} (h:Gv fp w [a,c,d,e] args):∃ v1 v2 v3 v4,args = [v1,v2,v3,v4]/\a.Is fp w v1/\c.Is fp w v2/\d.Is fp w v3/\e.Is fp w v4:=by
 match args,h with
 | [v1,v2,v3,v4],⟨h1,h2,h3,h4,_⟩ => exact ⟨v1,v2,v3,v4,rfl,h1,h2,h3,h4⟩
theorem aeC {γ:Type} {b:MP} {R:List Nat} {f:FuncId} {us:List KA} {s:KS} {k:Option Nat->KS->Option γ} {y:γ} (h:Y7 f us s k = some y) :
 ∃ o s',k o s' = some y/\((∀ p∈mQ us,p = ⟨b.a,0,none⟩)->∀ (w:World) (args:List Value) (F:List Nat),KR w b s F->Gv (F ++ R) w us args->Calls Tryz.prog f args.toArray w (gW (ovK o) s' b F w)):=by
 unfold Y7 at h
 cases h1:Nat.beq f 311 with
 | true =>
  rw [h1] at h;obtain rfl:=beq_iff.1 h1;simp only [cond_true] at h;split at h
  . rename_i p op a c
    obtain ⟨g1,g2,g3,g4,g5,g6⟩:=ajf h;refine ⟨_,_,g6,fun hp w args F hk ha => ?_⟩;obtain rfl:=hp p (by simp [mQ]);obtain ⟨v1,v2,v3,v4,rfl,rfl,rfl,rfl,rfl⟩:=ka4 ha;exact aep hk op a c g2 g3 g4 g5 g1
  . cases h
 | false =>
 rw [h1] at h
 cases h2:Nat.beq f 310 with
 | true =>
  rw [h2] at h;obtain rfl:=beq_iff.1 h2;simp only [cond_true,cond_false] at h;split at h
  . rename_i p n
    obtain ⟨g1,g2⟩:=abe h;refine ⟨_,_,g2,fun hp w args F hk ha => ?_⟩;obtain rfl:=hp p (by simp [mQ]);obtain ⟨v1,v2,rfl,rfl,rfl,hn⟩:=ka2 ha;exact Vl hk n hn g1
  . cases h
 | false =>
 rw [h2] at h
 cases h3:Nat.beq f 64 with
 | true =>
  rw [h3] at h;obtain rfl:=beq_iff.1 h3;simp only [cond_true,cond_false] at h;split at h
  . rename_i p v
    obtain ⟨g1,g2,g3⟩:=Rw h;refine ⟨_,_,g3,fun hp w args F hk ha => ?_⟩;obtain rfl:=hp p (by simp [mQ]);obtain ⟨v1,v2,rfl,rfl,rfl⟩:=ka2 ha;exact Ko hk v g2 g1
  . cases h
 | false =>
 rw [h3] at h
 cases h4:Nat.beq f 40 with
 | true =>
  rw [h4] at h;obtain rfl:=beq_iff.1 h4;simp only [cond_true,cond_false] at h;split at h
  . rename_i p v
    obtain ⟨g1,g2,g3⟩:=Rw h;refine ⟨_,_,g3,fun hp w args F hk ha => ?_⟩;obtain rfl:=hp p (by simp [mQ]);obtain ⟨v1,v2,rfl,rfl,rfl⟩:=ka2 ha;exact Og hk v g2 g1
  . cases h
 | false =>
 rw [h4] at h
 cases h5:Nat.beq f 44 with
 | true =>
  rw [h5] at h;obtain rfl:=beq_iff.1 h5;simp only [cond_true,cond_false] at h;split at h
  . rename_i p c v
    obtain ⟨g1,g2,g3,g4⟩:=ahf h;refine ⟨_,_,g4,fun hp w args F hk ha => ?_⟩;obtain rfl:=hp p (by simp [mQ]);obtain ⟨v1,v2,v3,rfl,rfl,rfl,rfl⟩:=ka3 ha;exact CW hk c v g3 g2 (by have:=(kL g1).2.2; omega)
  . cases h
 | false =>
 rw [h5] at h
 cases h6:Nat.beq f 309 with
 | true =>
  rw [h6] at h;obtain rfl:=beq_iff.1 h6;simp only [cond_true,cond_false] at h;split at h
  . rename_i p t i
    obtain ⟨g1,g2,a,g3,g4,g5⟩:=akv h;refine ⟨_,_,g5,fun hp w args F hk ha => ?_⟩;obtain rfl:=hp p (by simp [mQ]);obtain ⟨v1,v2,v3,rfl,rfl,rfl,rfl⟩:=ka3 ha;exact abP hk t i a g3 g4 g2 g1
  . cases h
 | false =>
 rw [h6] at h
 cases h7:Nat.beq f 314 with
 | true =>
  rw [h7] at h;obtain rfl:=beq_iff.1 h7;simp only [cond_true,cond_false] at h;split at h
  . rename_i p l
    obtain ⟨g1,g2,g3,g4⟩:=abO h;refine ⟨_,_,g4,fun hp w args F hk ha => ?_⟩;obtain rfl:=hp p (by simp [mQ]);obtain ⟨v1,v2,rfl,rfl,hs,hd⟩:=ka2 ha;exact Sz hk hs (fun A n c e hm => hd A n c e (List.mem_append_left _ hm)) (fun x hx => WO (g3 x hx)) g2 g1
  . cases h
 | false =>
 rw [h7] at h
 cases h8:Nat.beq f 312 with
 | true =>
  rw [h8] at h;obtain rfl:=beq_iff.1 h8;simp only [cond_true,cond_false] at h;split at h
  . rename_i p l
    obtain ⟨g1,g2,g3,g4,g5⟩:=aeB h;refine ⟨_,_,g5,fun hp w args F hk ha => ?_⟩;obtain rfl:=hp p (by simp [mQ]);obtain ⟨v1,v2,rfl,rfl,hs,hd⟩:=ka2 ha;exact Vs hk hs (fun A n c e hm => hd A n c e (List.mem_append_left _ hm)) g3 g2 g1 g4
  . cases h
 | false =>
 rw [h8] at h;simp only [cond_false] at h;cases h
def C_ (r:AV) (n:Int):Option (Addr × Nat):=match r with
 | .lit (.pointer (some p)) => (match n with | .ofNat m => some (p,m) | _ => none)
 | _ => none
theorem Vt {r:AV} {n:Int} {p:Addr} {m:Nat} (h:C_ r n = some (p,m)):r = .lit (.pointer (some p))/\n = (m:Int):=by
 unfold C_ at h;split at h
 . split at h
   . injection h with h
     injection h with h1 h2;subst h1 h2;exact ⟨rfl,rfl⟩
   . cases h
 . cases h
def runK {γ:Type}:Nat->List Ev->List Nat->List Addr->KS->(List Nat->List Addr->KS->Option γ)->Option γ
 | 0,_,_,_,_,_ => none
 | f + 1,δ,ρ,ps,s,k => match δ with
  | [] => k ρ ps s
  | .call g args out :: l => (match SA ρ args with
   | some us => Y7 g us s fun o s' => (match o with
    | some x => (match out with
     | .opq i => bif Nat.beq i (aH ρ) then fL (ρ ++ [x]) fun ρ' => runK f l ρ' (mQ us ++ ps) s' k else none
     | _ => none)
    | none => (match out with
     | .jl [] => runK f l ρ (mQ us ++ ps) s' k
     | _ => none))
   | none => none)
  | .loop g r n i body :: l => (match C_ r n with
   | some (p,m) => bif Nat.beq g 313 && Nat.beq i (aH ρ) then aeb s m none fun s1 => fL (ρ ++ [s.used]) fun ρ1 => runK f body ρ1 (p :: ps) s1 fun ρ2 ps2 s2 => aec s2 s.depth (s.names + 2) none fun s' => runK f l ρ2 ps2 s' k else none
   | none => none)
  | .zS _ _ _ :: _ => none
theorem abS {ρ:List Nat} {x:Nat} {ρF:Nat->Value} (h:kF (ρ ++ [x]) ρF):ρF (aH ρ) = .int .i64 (x:Int):=h _ _ (by unfold aH; simp)
theorem lX {γ:Type} {b:MP} {G:Nat->Option Obj} {X:List Nat} {y:γ}:∀ (f:Nat) {δ:List Ev} {ρ:List Nat} {ps:List Addr} {s:KS} {k:List Nat->List Addr->KS->Option γ},runK f δ ρ ps s k = some y ->
 ∃ ρ' ps' s',k ρ' ps' s' = some y/\(∃ τ,ρ' = ρ ++ τ)/\(∃ σ,ps' = σ ++ ps)/\∀ ρF,(∀ p∈ps',p = ⟨b.a,0,none⟩)->kF ρ' ρF->gy (oP b G X) ρF δ s s'
 | 0,δ,ρ,ps,s,k,h => by unfold runK at h; cases h
 | f + 1,[],ρ,ps,s,k,h => ⟨ρ,ps,s,h,⟨[],by simp⟩,⟨[],by simp⟩,fun _ _ _ => rfl⟩
 | f + 1,.call g args out :: l,ρ,ps,s,k,h => by
  unfold runK at h;simp only [] at h
  cases hu:SA ρ args with
  | none => rw [hu] at h; cases h
  | some us =>
   rw [hu] at h;simp only [] at h;obtain ⟨o,s1,hk,hc⟩:=aeC (b:=b) (R:=Si X) h
   cases o with
   | some x =>
    simp only [] at hk;split at hk
    . rename_i i
      cases hi:Nat.beq i (aH ρ) with
      | false => rw [hi] at hk; cases hk
      | true =>
       rw [hi] at hk;obtain rfl:=beq_iff.1 hi;simp only [cond_true,qy] at hk;obtain ⟨ρ',ps',s',h1,⟨τ,rfl⟩,⟨σ,rfl⟩,h4⟩:=lX (b:=b) (G:=G) (X:=X) f hk;refine ⟨_,_,s',h1,⟨x :: τ,by simp⟩,⟨σ ++ mQ us,by simp⟩,fun ρF hps hF => ⟨s1,?_,h4 ρF hps hF⟩⟩;show (oP b G X).step s g (args.map (EA.aA (E0 ρF))) (ρF (aH ρ)) s1;rw [abS hF.of_append];exact fun w xs F hkr hxs => hc (fun p hp => hps p (by simp [hp])) w xs F hkr (SB hF.of_append.of_append hu hxs)
    . cases hk
   | none =>
    simp only [] at hk;split at hk
    . obtain ⟨ρ',ps',s',h1,⟨τ,rfl⟩,⟨σ,rfl⟩,h4⟩:=lX (b:=b) (G:=G) (X:=X) f hk
      refine ⟨_,_,s',h1,⟨τ,rfl⟩,⟨σ ++ mQ us,by simp⟩,fun ρF hps hF => ⟨s1,?_,h4 ρF hps hF⟩⟩;exact fun w xs F hkr hxs => hc (fun p hp => hps p (by simp [hp])) w xs F hkr (SB hF.of_append hu hxs)
    . cases hk
 | f + 1,.zS _ _ _ :: l,ρ,ps,s,k,h => by unfold runK at h; cases h
 | f + 1,.loop g r n i body :: l,ρ,ps,s,k,h => by
  unfold runK at h;simp only [] at h
  cases hla:C_ r n with
  | none => rw [hla] at h; cases h
  | some q =>
   obtain ⟨p,m⟩:=q;rw [hla] at h;simp only [] at h;obtain ⟨rfl,rfl⟩:=Vt hla;have hq:=jq h;clear h hla;obtain ⟨hc,h⟩:=hq;simp only [Bool.and_eq_true] at hc;obtain ⟨hg,hi⟩:=hc;have hg:=beq_iff.1 hg;have hi:=beq_iff.1 hi;obtain ⟨g1,g2,g3,g4,h⟩:=ahg h;simp only [qy] at h;obtain ⟨ρ2,ps2,s2,h,⟨τ,rfl⟩,⟨σ,rfl⟩,hb⟩:=lX (b:=b) (G:=G) (X:=X) f h;obtain ⟨g5,g6,h⟩:=ahh h;obtain ⟨ρ',ps',s',h1,⟨τ',rfl⟩,⟨σ',rfl⟩,h4⟩:=lX (b:=b) (G:=G) (X:=X) f h;refine ⟨_,_,s',h1,⟨s.used :: (τ ++ τ'),by simp⟩,⟨σ' ++ σ ++ [p],by simp⟩,fun ρF hps hF => ⟨s2.fin (s.names + 2),?_,h4 ρF hps hF⟩⟩;refine ⟨s.G8 m,s2,⟨hg,?_,m,rfl,?_,rfl,g1,g2,g3,g4⟩,hb ρF (fun q hq => hps q (List.mem_append_right _ hq)) hF.of_append,⟨hg,rfl,g5,g6⟩⟩
   . rw [<- hps p (by simp)]
     rfl
   . rw [hi]
     exact abS hF.of_append.of_append
inductive KO where
 | one (x:Nat)
 | jl (l:List Nat)
 | arr (l:List Nat)
def gZ (x:Nat):Value:=.int .i64 (x:Int)
def KO.val:KO->Value
 | .one x => gZ x
 | .jl l => .tuple (l.map gZ).toArray
 | .arr l => .agg (l.map gZ).toArray
def Dc (ρ:List Nat):List AV->Option (List Nat)
 | [] => some []
 | a :: l => match Hw ρ a,Dc ρ l with | some x,some xs => some (x :: xs) | _,_ => none
theorem MQ {ρ:List Nat} {ρF:Nat->Value} (hF:kF ρ ρF):∀ {l:List AV} {xs:List Nat},Dc ρ l = some xs->aB (E0 ρF) l = xs.map gZ
 | [],xs,h => by unfold Dc at h; injection h with h; subst h; rfl
 | a :: l,xs,h => by
  unfold Dc at h
  cases h1:Hw ρ a with
  | none => rw [h1] at h; cases h
  | some x =>
   cases h2:Dc ρ l with
   | none => rw [h1,h2] at h; cases h
   | some ys =>
    rw [h1,h2] at h;injection h with h;subst h;show a.aA (E0 ρF) :: aB (E0 ρF) l = _;rw [Kw hF h1,MQ hF h2];rfl
end Xi

namespace Xi
open Go Go.RowKit Ab
theorem aeD (a : Addr) (w : World) : (method 495 85 (.pointer (some a)) "Const").run Tryz.prog w = .ok (310, .pointer (some a)) w := by kernel_rfl
theorem anh (a : Addr) (w : World) : (method 495 85 (.pointer (some a)) "Do").run Tryz.prog w = .ok (311, .pointer (some a)) w := by kernel_rfl
theorem ahI (a : Addr) (w : World) : (method 495 85 (.pointer (some a)) "Cell").run Tryz.prog w = .ok (64, .pointer (some a)) w := by kernel_rfl
theorem akx (a : Addr) (w : World) : (method 495 85 (.pointer (some a)) "Get").run Tryz.prog w = .ok (40, .pointer (some a)) w := by kernel_rfl
theorem aky (a : Addr) (w : World) : (method 495 85 (.pointer (some a)) "Set").run Tryz.prog w = .ok (44, .pointer (some a)) w := by kernel_rfl
theorem ani (a : Addr) (w : World) : (method 495 85 (.pointer (some a)) "At").run Tryz.prog w = .ok (309, .pointer (some a)) w := by kernel_rfl
theorem aeE (a : Addr) (w : World) : (method 495 85 (.pointer (some a)) "Table").run Tryz.prog w = .ok (314, .pointer (some a)) w := by kernel_rfl
theorem ahJ (a : Addr) (w : World) : (method 495 85 (.pointer (some a)) "Fill").run Tryz.prog w = .ok (312, .pointer (some a)) w := by kernel_rfl
theorem ahK (a : Addr) (w : World) : (method 495 85 (.pointer (some a)) "Loop").run Tryz.prog w = .ok (313, .pointer (some a)) w := by kernel_rfl
def mtK (n:String):Option FuncId:=match n with
 | "Const" => some 310
 | "Do" => some 311
 | "Cell" => some 64
 | "Get" => some 40
 | "Set" => some 44
 | "Loop" => some 313
 | "At" => some 309
 | "Table" => some 314
 | "Fill" => some 312
 | _ => none
theorem Y8:Tryz.prog.types.size + Made.depth = 495:=by kernel_rfl
theorem akz {n:String} {g:FuncId} (h:mtK n = some g) (a:Addr) (w:World):(method (Tryz.prog.types.size + Made.depth) 85 (.pointer (some a)) n).run Tryz.prog w = .ok (g,.pointer (some a)) w:=by
 rw [Y8];unfold mtK at h;split at h
 . obtain rfl:=Option.some.inj h
   exact aeD a w
 . obtain rfl:=Option.some.inj h
   exact anh a w
 . obtain rfl:=Option.some.inj h
   exact ahI a w
 . obtain rfl:=Option.some.inj h
   exact akx a w
 . obtain rfl:=Option.some.inj h
   exact aky a w
 . obtain rfl:=Option.some.inj h
   exact ahK a w
 . obtain rfl:=Option.some.inj h
   exact ani a w
 . obtain rfl:=Option.some.inj h
   exact aeE a w
 . obtain rfl:=Option.some.inj h
   exact ahJ a w
 . cases h
noncomputable def cxK:Cx where
 P:=Tryz.prog
 ev:=fun f _ nv => bif Nat.beq f 44 then some (.jl [],0) else bif Nat.beq f 311 || (Nat.beq f 310 || (Nat.beq f 64 || (Nat.beq f 40 || (Nat.beq f 309 || (Nat.beq f 314 || Nat.beq f 312))))) then some (.opq nv,1) else none
 lp:=fun f => Nat.beq f 313
 mt:=fun t n => bif Nat.beq t 85 then mtK n else none
 br:=fun _ => none
theorem abT:xX cxK:=fun t n g h a w => by
 have h':(bif Nat.beq t 85 then mtK n else none) = some g:=h
 cases ht:Nat.beq t 85 with
 | false => rw [ht] at h'; cases h'
 | true =>
  rw [ht] at h';rw [beq_iff] at ht;subst ht;exact akz h' a w
def Ky (b:MP):AV:=.agg [.qY 85 (.lit (.pointer (some ⟨b.a,0,none⟩)))]
end Xi

section
open Go Go.RowKit Go.Deep Go.Maps Ab Xi
attribute [local go_sem] Oper.semAt_some
theorem Y9 (b:Nat) (w:World):Calls Tryz.prog 42 #[.pointer (some ⟨b,0,none⟩)] w fun e w' => e = .returned (.agg #[.iface 85 (.pointer (some ⟨b,0,none⟩))])/\ah w w' []:=by
 go_enter Tryz.func42,Tryz.ntmps42
 go_wp2;have hb:=ay.new w 103 [.iface 85 (.pointer (some ⟨b,0,none⟩))];refine bodyPost_ret (v:=.agg #[.iface 85 (.pointer (some ⟨b,0,none⟩))]) (results_cell_row rfl _ _ w.heap.size 103 _ (0,0) _ rfl hb Tryz.underlying103 rfl (by kernel_rfl)) rfl ⟨rfl,(ah.refl w []).alloc _⟩
def aeF:List Value:=[.slice none 0 0,.slice none 0 0,.slice none 0 0,.slice none 0 0,.slice none 0 0]
theorem uH.far {w w':World} {v:Value} {code data:List Int} {sec:List Bool} {ins outs:List Nat} {q:Nat} (h:uH w v code data sec ins outs) (hb:ay w q 60 aeF) (hc:ah w w' [q]):uH w' v code data sec ins outs:=by
 obtain ⟨c,d,se,i,o,rfl,h1,h2,h3,h4,h5⟩:=h;refine ⟨c,d,se,i,o,rfl,h1.bC hc (qg hb h1 ?_),h2.bC hc (qg hb h2 ?_),h3.bC hc (qg hb h3 ?_),h4.bC hc (qg hb h4 ?_),h5.bC hc (qg hb h5 ?_)⟩
 all_goals
  intro u hu hx;obtain ⟨y,_,rfl⟩:=List.mem_map.1 hx;simp [aeF] at hu
end

namespace Xi
open Go Go.RowKit Ab
inductive KE where
 | num (x:Nat)
 | arr (l:List Nat)
 | sli (l:List Nat)
def KE.ca:KE->CA
 | .num x => CA.v (gZ x)
 | .arr l => CA.v (.agg (l.map gZ).toArray)
 | .sli l => CA.l (l.map gZ)
def pke (ρ:List Nat):EA->Option KE
 | .v (.agg cs) => match Dc ρ cs with | some l => some (.arr l) | none => none
 | .v a => match Hw ρ a with | some x => some (.num x) | none => none
 | .l cs => match Dc ρ cs with | some l => some (.sli l) | none => none
def Di (ρ:List Nat):List EA->Option (List KE)
 | [] => some []
 | x :: l => match pke ρ x,Di ρ l with | some y,some ys => some (y :: ys) | _,_ => none
theorem akJ {ρ:List Nat} {ρF:Nat->Value} (hF:kF ρ ρF) {x:EA} {y:KE} (h:pke ρ x = some y):x.aA (E0 ρF) = y.ca:=by
 unfold pke at h;split at h
 . rename_i cs
   cases hl:Dc ρ cs with
   | none => rw [hl] at h; cases h
   | some xs =>
    rw [hl] at h;injection h with h;subst h;show CA.v (.agg (aB (E0 ρF) cs).toArray) = _;rw [MQ hF hl];rfl
 . rename_i a _
   cases hl:Hw ρ a with
   | none => rw [hl] at h; cases h
   | some xs =>
    rw [hl] at h;injection h with h;subst h;show CA.v (a.aA (E0 ρF)) = _;rw [Kw hF hl];rfl
 . rename_i cs
   cases hl:Dc ρ cs with
   | none => rw [hl] at h; cases h
   | some xs =>
    rw [hl] at h;injection h with h;subst h;show CA.l (aB (E0 ρF) cs) = _;rw [MQ hF hl];rfl
theorem WX {ρ:List Nat} {ρF:Nat->Value} (hF:kF ρ ρF):∀ {l:List EA} {ys:List KE},Di ρ l = some ys->l.map (EA.aA (E0 ρF)) = ys.map KE.ca
 | [],ys,h => by unfold Di at h; injection h with h; subst h; rfl
 | x :: l,ys,h => by
  unfold Di at h
  cases h1:pke ρ x with
  | none => rw [h1] at h; cases h
  | some y =>
   cases h2:Di ρ l with
   | none => rw [h1,h2] at h; cases h
   | some zs =>
    rw [h1,h2] at h;injection h with h;subst h;simp only [List.map_cons];rw [akJ hF h1,WX hF h2]
theorem fF.sub {fp fp':List Nat} {w:World} (hs:∀ k∈fp',k∈fp):∀ {l:List Value} {cs:List CA},fF fp w l cs->fF fp' w l cs
 | [],[],_ => trivial
 | a :: l,.v x :: cs,h => ⟨h.1,fF.sub hs h.2⟩
 | a :: l,.l xs :: cs,h => ⟨⟨h.1.1,fun A n c e hm => h.1.2 A n c e (hs _ hm)⟩,fF.sub hs h.2⟩
 | [],_ :: _,h => h.elim
 | _ :: _,[],h => h.elim
theorem akK (ρ:List Nat) (ss:List Value):kF ρ (ρS (ρ.map gZ) ss):=fun i x hx => by
 have hi:i < ρ.length:=(List.getElem?_eq_some_iff.1 hx).1;unfold ρS;rw [if_pos (by simpa using hi),List.getD,List.getElem?_map,hx];rfl
theorem Td {ρ:List Nat}:aH (ρ.map gZ) = aH ρ:=by unfold aH; simp
noncomputable def Ze (vws:List (List AV)):Cx:={ cxK with vw:=EO vws }
end Xi

section
open Go Go.RowKit Ab Xi
set_option maxRecDepth 100000
noncomputable def cxF:Cx:={ Ze [mW 20 0] with ev:=fun f args nv => bif Nat.beq f 71 then some (.jl [.agg (mW 4 nv),.opq (nv + 4),.opq (nv + 5)],6) else cxK.ev f args nv }
noncomputable def rF (b:MP):Option (AV × G × List Xi.Ev):=jk cxF 5000 41 [Ky b,.lit (.int .i64 0),.vw 1000000 0 20,.agg (mW 7 20)] ⟨.nil,0,27⟩
def Zt (b:MP):List AV:=[Ky b,.agg (mW 4 0),.agg (mW 3 4),.agg (mW 3 7),.agg (mW 3 10)]
noncomputable def rS (b:MP):Option (AV × G × List Xi.Ev):=jk (Ze []) 5000 71 (Zt b) ⟨.nil,0,13⟩
def dF (r:Option (AV × G × List Xi.Ev)):List Xi.Ev:=match r with | some (_,_,δ) => δ | none => []
def Zu (r:Option (AV × G × List Xi.Ev)) (ρ:List Nat) (ps:List Addr) (s:KS):Option (Bool × List KE × List Nat × List Addr × KS):=match r with
 | some (v,g,_) => (match zD g v with | some (t,xs) => (match Di ρ xs with | some os => some (t,os,ρ,ps,s) | none => none) | none => none)
 | none => none
end

namespace Xi
open Go Go.RowKit Ab
theorem DY {b:MP} {cx:Cx} {fuel:Nat} {f:FuncId} {vws:List (List AV)} {args:List AV} {ins:List Nat} {s s':KS} {t:Bool} {os:List KE} (hP:cx.P = Tryz.prog) (dK:cx.P.follows .mixedOrders = true) (hmt:xX cx) (hvw:cx.vw = EO vws)
 {v:AV} {g':G} {δ:List Ev} {ρ τ:List Nat} {xs:List EA} (hc:jk cx fuel f args ⟨.nil,0,aH ins⟩ = some (v,g',δ)) (hkk:(iG 0 args && vO (aH ins) args && okV (aH ins) vws) = true) (hτ:ρ = ins ++ τ) (hlen:Nat.ble (aH ρ) 1000000 = true) (he:zD g' v = some (t,xs)) (hx:Di ρ xs = some os)
 (hrun:∀ (H:Nat->Option Obj) (X:List Nat) (ρF:Nat->Value),kF ρ ρF->gy (oP b H X) ρF δ s s') (w:World) {F:List Nat} (hk:KR w b s F) (ss:List Value)
 (hss:∀ (i:Nat) cs,vws[i]? = some cs->∃ v,ss[i]? = some v/\Sl w v (aB (jd (ins.map gZ)) cs)) (hsF:∀ v∈ss,∀ k,fJ v = some k->k∉F) (h1:∀ v∈ss,v.oneCell' = true) {vals:List Value} (hvs:aB (E0 (ρS (ins.map gZ) ss)) args = vals) :
 Calls Tryz.prog f vals.toArray w fun e w' => ∃ us F',e = .returned (SX t us)/\ah w w' F/\Sub F' F w/\KR w' b s' F'/\fF F' w' us (os.map KE.ca):=by
 obtain ⟨P,ev,lp,mt,br,vw⟩:=cx;obtain rfl:P = Tryz.prog:=hP;obtain rfl:vw = EO vws:=hvw;simp only [Bool.and_eq_true] at hkk;obtain ⟨⟨k1,k2⟩,k3⟩:=hkk;rw [aX] at hlen;have hlen':ρ.length<=1000000:=hlen;have hF:kF ρ (ρS (ρ.map gZ) ss):=akK ρ ss
 have hone:∀ i,(ρS (ρ.map gZ) ss i).oneCell' = true:=fun i => by
  unfold ρS;split
  . rename_i hi
    have hi':i < ρ.length:=by simpa using hi
    rw [List.getD,List.getElem?_map,List.getElem?_eq_getElem hi'];rfl
  . cases hj:ss[i - 1000000]? with
    | none => rw [List.getD,hj]; rfl
    | some u => rw [List.getD,hj]; exact h1 u (List.mem_of_getElem? hj)
 have hFi:Ext (ins.map gZ) (ρS (ρ.map gZ) ss):=by
  have:=abW (ρ.map gZ) ss;rw [hτ,List.map_append] at this ⊢;exact this.of_append
 have hvk:∀ i cs,EO vws i = some cs->∃ b a n c,ρS (ρ.map gZ) ss i = .slice (some ⟨b,a,none⟩) n c/\cs.length<=c/\iG 0 cs = true/\b∈ss.filterMap fJ/\b < w.heap.size/\∀ k v,cs[k]? = some v->∀ E:Env,E.ρ = ρS (ρ.map gZ) ss->w.cell? ⟨b,a + k,none⟩ = some (v.aA E):=fun i cs hi => by
  unfold EO at hi
  cases hb:Nat.ble 1000000 i with
  | false => rw [hb] at hi; cases hi
  | true =>
   rw [hb] at hi;rw [aX] at hb;simp only [cond_true] at hi;rw [oC] at hi;obtain ⟨z1,z2,z3⟩:=S9 k3 hi;obtain ⟨u,hu,hsl⟩:=hss _ _ hi;obtain ⟨A,c,rfl,hcap,hcell⟩:=hsl;rw [aQ] at hcap hcell;obtain ⟨b,a,rfl,hcell2⟩:=hcell (by omega);refine ⟨b,a,cs.length,c,?_,hcap,z1,?_,?_,?_⟩
   . unfold ρS
     rw [if_neg (by simp; omega),List.getD,hu,aQ]; rfl
   . exact List.mem_filterMap.2 ⟨_,List.mem_of_getElem? hu,rfl⟩
   . have:=hcell2 0 (by omega)
     unfold World.cell? at this
     cases hb':w.heap[b]? with
     | none =>
      simp only [hb'] at this;rw [eq_comm,List.getElem?_eq_none_iff,aQ] at this;omega
     | some o => exact lt_of_heap hb'
   . intro k y hy E hE
     have hk':k < cs.length:=(List.getElem?_eq_some_iff.1 hy).1;rw [hcell2 k hk',dG,List.getElem?_map,hy];show some (y.aA (jd (ins.map gZ))) = some (y.aA E);have e4:aB (E0 (ρS (ρ.map gZ) ss)) cs = aB (jd (ins.map gZ)) cs:=jI hFi cs (by rw [Td]; exact z2);rw [dG,dG] at e4;have e5:=congrArg (fun l => l[k]?) e4;simp only [List.getElem?_map,hy,Option.map_some] at e5;rw [<- e5]
     have z4:y.lt 0 = true:=by
      unfold AV.lt;rw [aI,pow_eq];refine eY fun q hq => ?_;have:=nH z1 (fU (List.mem_of_getElem? hy) hq);omega
     rw [uS (E:=E0 (ρS (ρ.map gZ) ss)) (E':=E) z4 hE]
 have hXF:∀ g∈(ss.filterMap fJ).filter fun b => decide (b < w.heap.size),g∉F:=fun g hg => by
  obtain ⟨u,hu,hub⟩:=List.mem_filterMap.1 (List.mem_filter.1 hg).1;exact hsF u hu g hub
 have hXs:∀ g∈(ss.filterMap fJ).filter fun b => decide (b < w.heap.size),g < w.heap.size:=fun g hg => by
  have:=(List.mem_filter.1 hg).2
  simpa using this
 obtain ⟨_,hcall⟩:=QK (M:=oP b (fun g => w.heap[g]?) ((ss.filterMap fJ).filter fun b => decide (b < w.heap.size))) (ρv:=ρS (ρ.map gZ) ss) dK hmt hone (fun i cs hi => by
  obtain ⟨b',a,n,c,y1,y2,y3,y4,y5,y6⟩:=hvk i cs hi;refine ⟨b',a,n,c,y1,y2,y3,fun s w1 hw1 => ?_⟩;have hm:b'∈(ss.filterMap fJ).filter fun b => decide (b < w.heap.size):=List.mem_filter.2 ⟨y4,by simpa using y5⟩;obtain ⟨_,_,hS⟩:=hw1;refine ⟨List.mem_append_right _ (List.mem_append_right _ hm),fun k u hu E hE => ?_⟩;have:=y6 k u hu E hE;unfold World.cell? at this ⊢;rw [show w1.heap[b']? = w.heap[b']? from (hS b' hm).2]
  exact this) fuel |>.2 f args ⟨.nil,0,aH ins⟩ v g' δ hc
 have hrep:Rep (oP b (fun g => w.heap[g]?) ((ss.filterMap fJ).filter fun b => decide (b < w.heap.size))) (E0 (ρS (ρ.map gZ) ss)) s (⟨.nil,0,aH ins⟩:G).at 0 w:=⟨⟨⟨F,hk,hXF⟩,fun _ _ => rfl,fun g hg => ⟨hXs g hg,rfl⟩⟩,(fun b B hb => by have:=iw hb; cases this),(fun b b' B B' hb => by have:=iw hb; cases this),(fun b B hb => by have:=iw hb; cases this),(fun b B hb => iw hb)⟩
 have hcl:=hcall (E0 (ρS (ρ.map gZ) ss)) s s' w rfl hrep (fun u hu => by
  unfold AV.lt;rw [aI,pow_eq];refine eY fun q hq => ?_;have:=nH k1 (fU hu hq)
  omega) (hrun _ _ _ hF)
 have Tc:aB (E0 (ρS (ρ.map gZ) ss)) args = vals:=by
  rw [<- hvs,hτ,List.map_append];exact oQ (by rw [<- List.map_append,<- hτ,List.length_map]; exact hlen') args (by rw [Td]; exact k2)
 rw [Tc] at hcl;refine hcl.mono ?_;rintro e w' ⟨E',rfl,hw⟩;obtain ⟨⟨F',hk',hX'⟩,hG',hS'⟩:=hw.rep.qG;have eρ:E'.ρ = ρS (ρ.map gZ) ss:=hw.rho
 have hsub:Sub F' F w:=fun k hkF => by
  have hgr:=hw.grow k (by show k∈R_ b s' w' ++ _; rw [h_ hk']; exact List.mem_append_left _ hkF);rcases hgr with hgr | hgr
  . have hgr:k∈R_ b s w ++ Si ((ss.filterMap fJ).filter fun b => decide (b < w.heap.size)):=hgr
    rw [h_ hk] at hgr;rcases List.mem_append.1 hgr with h1 | h1
    . exact .inl h1
    . rcases List.mem_append.1 h1 with h1 | h1
      . have:=List.mem_range.1 h1; have:=hk'.high k hkF; omega
      . exact absurd hkF (hX' k h1)
  . exact .inr hgr
 have hcg:ah w w' F:=by
  have hfr:=hw.fr;refine Sj (X:=(ss.filterMap fJ).filter fun b => decide (b < w.heap.size)) (hfr.more fun k _ hkd => ?_) (fun _ _ => rfl) hG' (fun g hg => ⟨hXs g hg,rfl⟩) hS';rcases hkd with hkd | ⟨b,B,hb,_⟩
  . have:k∈R_ b s w ++ Si ((ss.filterMap fJ).filter fun b => decide (b < w.heap.size)):=hkd
    rw [h_ hk] at this;exact this
  . have:=iw hb; cases this
 have fin:∀ {l:List AV},eargs g' l = some xs->fF F' w' (aB E' l) (os.map KE.ca):=fun {l} hl => by
  have:=wI hw.rep hl;rw [eρ,WX hF hx] at this
  exact this.sub fun k hkF => by
   show k∈R_ b s' w' ++ _;rw [h_ hk'];exact List.mem_append_left _ hkF
 unfold zD at he;split at he
 . rename_i vs _
   cases hvs':eargs g' vs with
   | none => rw [hvs'] at he; cases he
   | some l =>
    rw [hvs'] at he;injection he with he; injection he with he1 he2;subst he1 he2;exact ⟨_,F',rfl,hcg,hsub,hk',fin hvs'⟩
 . cases hv':Iq g' v with
   | none => rw [hv'] at he; cases he
   | some x =>
    rw [hv'] at he;injection he with he; injection he with he1 he2;subst he1 he2;exact ⟨[v.aA E'],F',rfl,hcg,hsub,hk',fin (l:=[v]) (by simp only [eargs,hv'])⟩
end Xi
end Go.Proofs.YtbhikopphamgjaaGreatDoor
