/- Texts of this claim, side by side: AudA, AudB, AudS, AudR, MapK. -/
import Derived.Test.YtbhikopphamgjaaGreatDoorAU22
import Derived.RangeFuncBound
import Derived.Shelf.RegionOpen
import Derived.OwnWalkIn
import Derived.LoopNIn
import Derived.LoopIn
import Derived.Test.YtbhikopphamgjaaGreatDoorAU8
import Derived.StillTailTactics
set_option linter.unusedVariables false
set_option linter.unusedSimpArgs false
set_option maxRecDepth 100000
set_option maxHeartbeats 8000000
namespace Go.Proofs.YtbhikopphamgjaaGreatDoor
section
open Go Go.RowKit Go.Deep Go.Shelf Xi
attribute [local go_sem] Oper.semAt_some
def jy (w:World) (k:Nat):Prop:=∃ cs t fr,w.heap[k]? = some (.cells cs t fr)
theorem LD {w:World} {a:Addr} {v:Value} (h:w.cell? a = some v):jy w a.block:=by
 unfold World.cell? at h;split at h
 . exact ⟨_,_,_,‹_›⟩
 . cases h
def KS (K:List Nat) (w w':World):Prop:=∀ k∈K,∀ cs t fr,w.heap[k]? = some (.cells cs t fr)->w'.heap[k]? = some (.cells cs t fr)
theorem KS.trans {K:List Nat} {A B C:World} (h:KS K A B) (k:KS K B C):KS K A C:=fun i hi cs t fr h0 => k i hi cs t fr (h i hi cs t fr h0)
theorem KS.putObj {K:List Nat} (w:World) (l:Nat) (o o':Obj) (h:w.heap[l]? = some o) (hc:o.isCells = false):KS K w (w.putObj l o'):=fun k hk cs t fr h0 => by
 by_cases e:k = l
 . subst e
   rw [h] at h0;injection h0 with h0;subst h0;simp [Obj.isCells] at hc
 . rw [World.putObj_heap_other e]
   exact h0
theorem KS.aj {K:List Nat} {w w':World} {D:List Nat} (hc:ah w w' D) (hD:∀ k∈K,k∉D):KS K w w':=fun k hk cs t fr h0 => hc.heap h0 (hD k hk)
theorem KS.cell {K:List Nat} {w w':World} (h:KS K w w') {a:Addr} {v:Value} (ha:a.block∈K) (hc:w.cell? a = some v):w'.cell? a = some v:=by
 obtain ⟨cs,t,fr,h1⟩:=LD hc;have h2:=h _ ha cs t fr h1;unfold World.cell? at hc ⊢;rw [h1] at hc;rw [h2];exact hc
theorem yT {B:Nat} {w w':World} {D:List Nat} (hc:ah w w' D) (hD:∀ k∈D,jy w k):KeepsFrom B w w' :=
 ⟨hc.size,fun i o _ hi ho => by
   refine hc.heap hi (fun hm => ?_);obtain ⟨cs,t,fr,hcs⟩:=hD i hm;rw [hcs] at hi;injection hi with hi;subst hi
   simp [Obj.isCells] at ho⟩
def jG (w:World) (A:Option Addr) (ds:List aP) (vs:Nat->Value):Prop:=0 < ds.length->∃ b off,A = some ⟨b,off,Option.none⟩/\∀ (k:Nat) (d:aP),ds[k]? = some d->w.cell? ⟨b,off + k * 2,Option.none⟩ = some (.bool d.1)/\w.cell? ⟨b,off + k * 2 + 1,Option.none⟩ = some (vs k)/\(∃ B cb,vs k = .slice B d.2.length cb)/\Sl w (vs k) (dB d.2)
theorem jG.of {w:World} {A:Option Addr} {ds:List aP} (h:r_ w A ds):∃ vs,jG w A ds vs:=by
 by_cases h0:0 < ds.length
 . obtain ⟨b,off,rfl,hx⟩:=h h0
   have hp:∀ k:Nat,∃ v:Value,∀ d:aP,ds[k]? = some d->w.cell? ⟨b,off + k * 2,Option.none⟩ = some (.bool d.1)/\w.cell? ⟨b,off + k * 2 + 1,Option.none⟩ = some v/\(∃ B cb,v = .slice B d.2.length cb)/\Sl w v (dB d.2):=fun k => by
    cases hk:ds[k]? with
    | none => exact ⟨undef,fun d hd => by cases hd⟩
    | some d =>
     obtain ⟨B,cb,c1,c2,c3⟩:=hx k d hk;exact ⟨_,fun d' hd => by injection hd with hd; subst hd; exact ⟨c1,c2,⟨B,cb,rfl⟩,c3⟩⟩
   obtain ⟨f,hf⟩:=Classical.axiomOfChoice hp;exact ⟨f,fun _ => ⟨b,off,rfl,fun k d hk => hf k d hk⟩⟩
 . exact ⟨fun _ => undef,fun h => absurd h h0⟩
theorem jG.keep {w w':World} {A:Option Addr} {ds:List aP} {vs:Nat->Value} (h:jG w A ds vs) (hc:ah w w' []):jG w' A ds vs:=fun h0 => by
 obtain ⟨b,off,rfl,hx⟩:=h h0;refine ⟨b,off,rfl,fun k d hk => ?_⟩;obtain ⟨c1,c2,c3,c4⟩:=hx k d hk;exact ⟨hc.cell c1 (by simp),hc.cell c2 (by simp),c3,c4.keep hc⟩
def bW (d:aP):Bool × Nat:=(d.1,if d.1 then d.2.length else 0)
def DI (f:Bool) (n:Nat):Value:=.agg #[.bool f,.int .i64 ((if f then n else 0:Nat):Int)]
theorem FK {w:World} (f:Bool) (B:Option Addr) (n c:Nat):Calls Tryz.prog 18 #[.agg #[.bool f,.slice B n c]] w fun e w' => e = .returned (DI f n)/\ah w w' []:=by
 have b0:=(ay.new w 38 [.bool f,.slice B n c]).alloc (.cells #[.bool false,.int .i64 0] 48);have z0:=b0.cell' (i:=0) rfl;have z1:=b0.cell' (i:=1) rfl;have hc:=(ah.refl w []).alloc (.cells #[.bool f,.slice B n c] 38);unfold DI
 cases f with
 | false =>
  go_enter Tryz.func18,Tryz.ntmps18
  go_wp2;refine bodyPost_ret (v:=.agg #[.bool false,.int .i64 0]) (results_cell_row rfl _ _ (w.heap.size + 1) 48 _ (0,0) _ rfl (by have:=ay.new (w.alloc (.cells #[.bool false,.slice B n c] 38)) 48 [.bool false,.int .i64 0]; rwa [size_alloc] at this) Tryz.underlying48 rfl (by kernel_rfl)) rfl ⟨rfl,hc.alloc _⟩
 | true =>
  go_enter Tryz.func18,Tryz.ntmps18
  go_wp2;refine bodyPost_ret (v:=.agg #[.bool true,.int .i64 (n:Int)]) (results_cell_row rfl _ _ (w.heap.size + 1) 48 _ (0,0) _ rfl (by have:=ay.new (w.alloc (.cells #[.bool true,.slice B n c] 38)) 48 [.bool true,.int .i64 (n:Int)]; rwa [size_alloc] at this) Tryz.underlying48 rfl (by kernel_rfl)) rfl ⟨rfl,hc.alloc _⟩
theorem Ih (A:Option Addr) (n c:Nat) (A':Option Addr) (n' c':Nat) (w:World):Calls Tryz.prog 17 #[.slice A n c,.slice A' n' c'] w fun e w' => e = .returned (.func (.func 32) #[] #[.pointer (some ⟨w.heap.size,0,none⟩),.pointer (some ⟨w.heap.size + 1,0,none⟩)])/\w' = (w.alloc (.cells #[.slice A n c] 22)).alloc (.cells #[.slice A' n' c'] 22):=by
 go_enter Tryz.func17,Tryz.ntmps17
 go_wp2;go_ret;exact ⟨rfl,rfl⟩
theorem Uz (f f':Bool) (n n':Int) (w:World):(Op.equalIn 10000 48 (.agg #[.bool f,.int .i64 n]) (.agg #[.bool f',.int .i64 n'])).run Tryz.prog w = .ok (f == f' && n == n') w:=by
 have u3:=Tryz.underlying3;have k3:=Tryz.isAgg3;have z3:=Tryz.sizeOf3;have u4:=Tryz.underlying4;have k4:=Tryz.isAgg4;have z4:=Tryz.sizeOf4;rw [show (10000:Nat) = 9999 + 1 from rfl,Op.equalIn];simp only [Sem.run_bind,run_underlying Tryz.underlying48,Result.andThen_ok];go_simp;by_cases h0:f = f' <;> by_cases h1:n = n' <;> simp [h0,h1]
def ZY (ds es:List aP) (vs us:Nat->Value) (x:Fin (min ds.length es.length)):Array Value:=#[.agg #[.bool (ds[x.val]'(by omega)).1,vs x.val],.agg #[.bool (es[x.val]'(by omega)).1,us x.val]]
theorem anQ {m:Nat} (k:Nat) (hk:k < m):(List.finRange m).take (k + 1) = (List.finRange m).take k ++ [⟨k,hk⟩]:=by
 rw [List.take_add_one,List.getElem?_eq_getElem (by simpa using hk),List.getElem_finRange]; rfl
def amq:Value->Bool
 | .bool b => !b
 | _ => false
def zN (l ba oa nd ca bb ob ne cb i:Nat) (X Y:Value) (γ:Value):Nat->Value
 | 0 => .func (.yield l) #[] #[]
 | 1 => .slice (some ⟨ba,oa,none⟩) nd ca
 | 2 => .int .i64 (i:Int)
 | 3 => .pointer (some ⟨ba,oa + i * 2,none⟩)
 | 4 => X
 | 5 => .slice (some ⟨bb,ob,none⟩) ne cb
 | 6 => .int .i64 (i:Int)
 | 7 => .pointer (some ⟨bb,ob + i * 2,none⟩)
 | 8 => Y
 | 9 => γ
 | 10 => .bool (amq γ)
 | _ => undef
theorem apS (l ba oa nd ca bb ob ne cb i:Nat) (X Y:Value) (γ v:Value):∀ j,j∉([9,10]:List Nat)->zN l ba oa nd ca bb ob ne cb i X Y v j = zN l ba oa nd ca bb ob ne cb i X Y γ j:=fun j hj => by
 match j,hj with
 | 0,_ => rfl
 | 1,_ => rfl
 | 2,_ => rfl
 | 3,_ => rfl
 | 4,_ => rfl
 | 5,_ => rfl
 | 6,_ => rfl
 | 7,_ => rfl
 | 8,_ => rfl
 | 9,hj => exact absurd (by decide) hj
 | 10,hj => exact absurd (by decide) hj
 | _ + 11,_ => rfl
theorem amr (v:Nat->Value) (t0 t1 t2 t3 t4 t5 t6 t7 t8 t9 t10 t11 t12 t13 t14 t15 t16 t17 t18 t19 t20 t21 t22 t23 t24:Value):jE v (some 13 :: some 14 :: some 15 :: some 16 :: some 17 :: some 18 :: some 19 :: some 20 :: some 21 :: some 22 :: some 23 :: []) 0 (t0 :: t1 :: t2 :: t3 :: t4 :: t5 :: t6 :: t7 :: t8 :: t9 :: t10 :: t11 :: t12 :: t13 :: t14 :: t15 :: t16 :: t17 :: t18 :: t19 :: t20 :: t21 :: t22 :: t23 :: t24 :: []) = (t0 :: t1 :: t2 :: t3 :: t4 :: t5 :: t6 :: t7 :: t8 :: t9 :: t10 :: t11 :: t12 :: v 0 :: v 1 :: v 2 :: v 3 :: v 4 :: v 5 :: v 6 :: v 7 :: v 8 :: v 9 :: v 10 :: t24 :: []):=by kernel_rfl
def zO {α:Type} (K:List Nat) (J Jx:List α->World->Prop) (wr:World) (xs:List α) (γ:Value):Bool->World->Prop
 | false,w' => w' = wr.drew
 | true,w' => ∃ bv,γ = .bool bv/\((bv = true/\J xs w'/\KS K wr w')\/(bv = false/\Jx xs w'))
theorem pairs_stops {w:World} (n:Nat) (hn:1<=n) (p0 p1:Nat) {A A':Option Addr} {c c':Nat} {ds es:List aP} {vs us:Nat->Value} (c0:w.cell? ⟨p0,0,none⟩ = some (.slice A ds.length c)) (c1:w.cell? ⟨p1,0,none⟩ = some (.slice A' es.length c')) (h:jG w A ds vs) (h':jG w A' es us) (K:List Nat) (k0:p0∈K) (k1:p1∈K) (kA:0 < ds.length->∀ b o,A = some ⟨b,o,none⟩->b∈K) (kB:0 < es.length->∀ b o,A' = some ⟨b,o,none⟩->b∈K) (hl:ds.length<=maxLen) (hl':es.length<=maxLen) :
 SeqStopsK Fence.wide n Tryz.prog 32 #[.pointer (some ⟨p0,0,none⟩),.pointer (some ⟨p1,0,none⟩)] (ZY ds es vs us) (KS K) (fun xs => xs = List.finRange (min ds.length es.length)) (fun _ => True) (min ds.length es.length) w:=by
 intro l J Jx W hW hJ hJx hY h0;have dK:Tryz.prog.follows .mixedOrders = true:=by kernel_rfl
 have d0:=(hW.cell (p:=⟨p0,0,none⟩) (World.block_lt_of_cell? w _ c0)).trans c0;have d1:=(hW.cell (p:=⟨p1,0,none⟩) (World.block_lt_of_cell? w _ c1)).trans c1;unfold maxLen at hl hl';obtain ⟨m,hm⟩:∃ m,min ds.length es.length = m:=⟨_,rfl⟩
 have hmin:(if (es.length:Int) < (ds.length:Int) then (es.length:Int) else (ds.length:Int)) = (m:Int):=by
  split <;> omega
 have HH:=hide h;have HH':=hide h';have HWB:=hide hW;refine callsIn_of_wp Tryz.func32 rfl trivial ?_ rfl;simp only [Tryz.ntmps32,List.size_toArray,List.length_cons,List.length_nil,Nat.reduceAdd,Nat.reduceSub,Array.replicate_succ,Array.replicate_zero,List.push_toArray,List.append_toArray,List.nil_append,List.cons_append];clear c0 c1 h h' hW
 gi_wp2_with fail
 gi_loopw [4,10] (fun _ v wr => ∃ i:Nat,v = .int .i64 (i:Int)/\i<=m/\J ((List.finRange (min ds.length es.length)).take i) wr/\Hid (KS K W wr)) (fun _ v _ => m - (intOf v).toNat)
 case atStart => exact ⟨0,rfl,by omega,h0,hide (fun k hk cs t fr h => h)⟩
 case round =>
  clear h0;obtain ⟨i,rfl,hi,hj,HK⟩:=hrel;by_cases hlt:i < m
  . have hx:i < min ds.length es.length:=by omega
    obtain ⟨ba,oa,rfl,hxA⟩:=HH.out (by omega);obtain ⟨bb,ob,rfl,hxB⟩:=HH'.out (by omega);obtain ⟨qa0,qa1,⟨Ba,ca',ea⟩,_⟩:=hxA i (ds[i]'(by omega)) (by simp);obtain ⟨qb0,qb1,⟨Bb,cb',eb⟩,_⟩:=hxB i (es[i]'(by omega)) (by simp);have cW:∀ (a:Addr) (v:Value),a.block∈K->w.cell? a = some v->wr.cell? a = some v:=fun a v ha hc => HK.out.cell ha ((HWB.out.cell (p:=a) (World.block_lt_of_cell? w _ hc)).trans hc);replace qa0:=cW _ _ (kA (by omega) _ _ rfl) qa0;replace qa1:=cW _ _ (kA (by omega) _ _ rfl) qa1;replace qb0:=cW _ _ (kB (by omega) _ _ rfl) qb0;replace qb1:=cW _ _ (kB (by omega) _ _ rfl) qb1;have e0:wr.cell? ⟨p0,0,none⟩ = _:=HK.out.cell k0 d0;have e1:wr.cell? ⟨p1,0,none⟩ = _:=HK.out.cell k1 d1;have hjd:J ((List.finRange (min ds.length es.length)).take i) wr.drew:=hJ _ _ _ none hj (⟨rfl,rfl,rfl,Nat.le_refl _,fun _ _ _ => rfl⟩) (fun r e => by cases e);obtain ⟨fn,tmps,assign,body,hy,hR⟩:=hY _ (⟨i,hx⟩:Fin (min ds.length es.length)) wr.drew hjd (by simp; omega);rw [<- anQ i hx] at hR;unfold ZY at hy;simp only at hy;rw [ea] at hy qa1;rw [eb] at hy qb1;have HR:=hide hR;have HKW:=HK;clear hY hR HK cW
    gi_wp2_with fail
    refine yS (F:=Fence.wide) (fun _ => trivial) dK _ _ (fun γ => zN l ba oa ds.length c bb ob es.length c' i (.agg #[.bool (ds[i]'(by omega)).1,.slice Ba (ds[i]'(by omega)).2.length ca']) (.agg #[.bool (es[i]'(by omega)).1,.slice Bb (es[i]'(by omega)).2.length cb']) γ) (fun (γ:Value) L w' => zO K J Jx wr ((List.finRange (min ds.length es.length)).take (i + 1)) γ (L 9) w') (.bool false) (by kernel_rfl) [] (by kernel_rfl) (fun p hp γ => by simp at hp) (by kernel_rfl) ?step ?start ?fin ?ext
    case start => rfl
    case ext =>
     intro γ L L' w' h hw;have hw':zO K J Jx wr ((List.finRange (min ds.length es.length)).take (i + 1)) γ (L 9) w':=hw;rw [h 9 (by decide)] at hw';exact hw'
    case step =>
     intro i_ o_ ho_ L av w1 γ hdn ak hW hL hpre K' Q' hK;have hW:zO K J Jx wr ((List.finRange (min ds.length es.length)).take (i + 1)) γ (L 9) w1:=hW
     match i_,ho_ with
     | 0,ho =>
      injection ho with ho; subst ho;have b0:av.tmps.getD 0 undef = .func (.yield l) #[] #[]:=dM ak 0 (by kernel_rfl);clear ak
      have hW1:w1 = wr.drew:=by
       have h9:L 9 = false:=by cases h:L 9 with | false => rfl | true => (have hx:L 0 = true:=(hdn 9 _ rfl h ⟨0,.data⟩ (by simp) rfl); rw [hL] at hx; cases hx)
       have hW':=hW;rw [h9] at hW';exact hW'
      refine fZ (v:=.func (.yield l) #[] #[]) (w':=w1) ?_ (hK γ w1 (fun _ _ => rfl) (show zO K J Jx wr ((List.finRange (min ds.length es.length)).take (i + 1)) _ (if (9:Nat) = 0 then true else L 9) _ from by rw [if_neg (by decide)]; exact hW));subst hW1;go_simp
      try (first | rfl | (intro hh; omega))
     | 1,ho =>
      injection ho with ho; subst ho;have b1:av.tmps.getD 1 undef = .pointer (some ⟨p0,0,none⟩):=dM ak 1 (by kernel_rfl);clear ak
      have hW1:w1 = wr.drew:=by
       have h9:L 9 = false:=by cases h:L 9 with | false => rfl | true => (have hx:L 1 = true:=(hdn 3 _ rfl (hdn 4 _ rfl (hdn 9 _ rfl h ⟨4,.data⟩ (by simp) rfl) ⟨3,.data⟩ (by simp) rfl) ⟨1,.data⟩ (by simp) rfl); rw [hL] at hx; cases hx)
       have hW':=hW;rw [h9] at hW';exact hW'
      refine fZ (v:=.slice (some ⟨ba,oa,none⟩) ds.length c) (w':=w1) ?_ (hK γ w1 (fun _ _ => rfl) (show zO K J Jx wr ((List.finRange (min ds.length es.length)).take (i + 1)) _ (if (9:Nat) = 1 then true else L 9) _ from by rw [if_neg (by decide)]; exact hW));subst hW1;go_simp
      try (first | rfl | (intro hh; omega))
     | 2,ho =>
      injection ho with ho; subst ho;have b4:av.tmps.getD 4 undef = .int .i64 (i:Int):=dM ak 4 (by kernel_rfl);clear ak
      have hW1:w1 = wr.drew:=by
       have h9:L 9 = false:=by cases h:L 9 with | false => rfl | true => (have hx:L 2 = true:=(hdn 3 _ rfl (hdn 4 _ rfl (hdn 9 _ rfl h ⟨4,.data⟩ (by simp) rfl) ⟨3,.data⟩ (by simp) rfl) ⟨2,.data⟩ (by simp) rfl); rw [hL] at hx; cases hx)
       have hW':=hW;rw [h9] at hW';exact hW'
      refine fZ (v:=.int .i64 (i:Int)) (w':=w1) ?_ (hK γ w1 (fun _ _ => rfl) (show zO K J Jx wr ((List.finRange (min ds.length es.length)).take (i + 1)) _ (if (9:Nat) = 2 then true else L 9) _ from by rw [if_neg (by decide)]; exact hW));subst hW1;go_simp
      try (first | rfl | (intro hh; omega))
     | 3,ho =>
      injection ho with ho; subst ho;have s1:=aG ak 14 1 (by kernel_rfl) (hpre ⟨1,.data⟩ (by simp) rfl);simp only [zN] at s1;have s2:=aG ak 15 2 (by kernel_rfl) (hpre ⟨2,.data⟩ (by simp) rfl);simp only [zN] at s2;clear ak
      have hW1:w1 = wr.drew:=by
       have h9:L 9 = false:=by cases h:L 9 with | false => rfl | true => (have hx:L 3 = true:=(hdn 4 _ rfl (hdn 9 _ rfl h ⟨4,.data⟩ (by simp) rfl) ⟨3,.data⟩ (by simp) rfl); rw [hL] at hx; cases hx)
       have hW':=hW;rw [h9] at hW';exact hW'
      refine fZ (v:=.pointer (some ⟨ba,oa + i * 2,none⟩)) (w':=w1) ?_ (hK γ w1 (fun _ _ => rfl) (show zO K J Jx wr ((List.finRange (min ds.length es.length)).take (i + 1)) _ (if (9:Nat) = 3 then true else L 9) _ from by rw [if_neg (by decide)]; exact hW));subst hW1;go_simp
      try (first | rfl | (intro hh; omega))
     | 4,ho =>
      injection ho with ho; subst ho;have s3:=aG ak 16 3 (by kernel_rfl) (hpre ⟨3,.data⟩ (by simp) rfl);simp only [zN] at s3;clear ak
      have hW1:w1 = wr.drew:=by
       have h9:L 9 = false:=by cases h:L 9 with | false => rfl | true => (have hx:L 4 = true:=(hdn 9 _ rfl h ⟨4,.data⟩ (by simp) rfl); rw [hL] at hx; cases hx)
       have hW':=hW;rw [h9] at hW';exact hW'
      refine fZ (v:=(.agg #[.bool (ds[i]'(by omega)).1,.slice Ba (ds[i]'(by omega)).2.length ca'])) (w':=w1) ?_ (hK γ w1 (fun _ _ => rfl) (show zO K J Jx wr ((List.finRange (min ds.length es.length)).take (i + 1)) _ (if (9:Nat) = 4 then true else L 9) _ from by rw [if_neg (by decide)]; exact hW));subst hW1;go_simp
      try (first | rfl | (intro hh; omega))
     | 5,ho =>
      injection ho with ho; subst ho;have b2:av.tmps.getD 2 undef = .pointer (some ⟨p1,0,none⟩):=dM ak 2 (by kernel_rfl);clear ak
      have hW1:w1 = wr.drew:=by
       have h9:L 9 = false:=by cases h:L 9 with | false => rfl | true => (have hx:L 5 = true:=(hdn 7 _ rfl (hdn 8 _ rfl (hdn 9 _ rfl h ⟨8,.data⟩ (by simp) rfl) ⟨7,.data⟩ (by simp) rfl) ⟨5,.data⟩ (by simp) rfl); rw [hL] at hx; cases hx)
       have hW':=hW;rw [h9] at hW';exact hW'
      refine fZ (v:=.slice (some ⟨bb,ob,none⟩) es.length c') (w':=w1) ?_ (hK γ w1 (fun _ _ => rfl) (show zO K J Jx wr ((List.finRange (min ds.length es.length)).take (i + 1)) _ (if (9:Nat) = 5 then true else L 9) _ from by rw [if_neg (by decide)]; exact hW));subst hW1;go_simp
      try (first | rfl | (intro hh; omega))
     | 6,ho =>
      injection ho with ho; subst ho;have b4:av.tmps.getD 4 undef = .int .i64 (i:Int):=dM ak 4 (by kernel_rfl);clear ak
      have hW1:w1 = wr.drew:=by
       have h9:L 9 = false:=by cases h:L 9 with | false => rfl | true => (have hx:L 6 = true:=(hdn 7 _ rfl (hdn 8 _ rfl (hdn 9 _ rfl h ⟨8,.data⟩ (by simp) rfl) ⟨7,.data⟩ (by simp) rfl) ⟨6,.data⟩ (by simp) rfl); rw [hL] at hx; cases hx)
       have hW':=hW;rw [h9] at hW';exact hW'
      refine fZ (v:=.int .i64 (i:Int)) (w':=w1) ?_ (hK γ w1 (fun _ _ => rfl) (show zO K J Jx wr ((List.finRange (min ds.length es.length)).take (i + 1)) _ (if (9:Nat) = 6 then true else L 9) _ from by rw [if_neg (by decide)]; exact hW));subst hW1;go_simp
      try (first | rfl | (intro hh; omega))
     | 7,ho =>
      injection ho with ho; subst ho;have s5:=aG ak 18 5 (by kernel_rfl) (hpre ⟨5,.data⟩ (by simp) rfl);simp only [zN] at s5;have s6:=aG ak 19 6 (by kernel_rfl) (hpre ⟨6,.data⟩ (by simp) rfl);simp only [zN] at s6;clear ak
      have hW1:w1 = wr.drew:=by
       have h9:L 9 = false:=by cases h:L 9 with | false => rfl | true => (have hx:L 7 = true:=(hdn 8 _ rfl (hdn 9 _ rfl h ⟨8,.data⟩ (by simp) rfl) ⟨7,.data⟩ (by simp) rfl); rw [hL] at hx; cases hx)
       have hW':=hW;rw [h9] at hW';exact hW'
      refine fZ (v:=.pointer (some ⟨bb,ob + i * 2,none⟩)) (w':=w1) ?_ (hK γ w1 (fun _ _ => rfl) (show zO K J Jx wr ((List.finRange (min ds.length es.length)).take (i + 1)) _ (if (9:Nat) = 7 then true else L 9) _ from by rw [if_neg (by decide)]; exact hW));subst hW1;go_simp
      try (first | rfl | (intro hh; omega))
     | 8,ho =>
      injection ho with ho; subst ho;have s7:=aG ak 20 7 (by kernel_rfl) (hpre ⟨7,.data⟩ (by simp) rfl);simp only [zN] at s7;clear ak
      have hW1:w1 = wr.drew:=by
       have h9:L 9 = false:=by cases h:L 9 with | false => rfl | true => (have hx:L 8 = true:=(hdn 9 _ rfl h ⟨8,.data⟩ (by simp) rfl); rw [hL] at hx; cases hx)
       have hW':=hW;rw [h9] at hW';exact hW'
      refine fZ (v:=(.agg #[.bool (es[i]'(by omega)).1,.slice Bb (es[i]'(by omega)).2.length cb'])) (w':=w1) ?_ (hK γ w1 (fun _ _ => rfl) (show zO K J Jx wr ((List.finRange (min ds.length es.length)).take (i + 1)) _ (if (9:Nat) = 8 then true else L 9) _ from by rw [if_neg (by decide)]; exact hW));subst hW1;go_simp
      try (first | rfl | (intro hh; omega))
     | 9,ho =>
      injection ho with ho; subst ho;have s0:=aG ak 13 0 (by kernel_rfl) (hpre ⟨0,.data⟩ (by simp) rfl);simp only [zN] at s0;have s4:=aG ak 17 4 (by kernel_rfl) (hpre ⟨4,.data⟩ (by simp) rfl);simp only [zN] at s4;have s8:=aG ak 21 8 (by kernel_rfl) (hpre ⟨8,.data⟩ (by simp) rfl);simp only [zN] at s8;clear ak
      have hW1:w1 = wr.drew:=by
       have hW':=hW;rw [hL] at hW';exact hW'
      subst hW1;refine ZX ?_ HR.out ?_
      . go_simp
      . rintro e w2 he2
        have hdf:∀ (bv:Bool),(bv = true/\J ((List.finRange (min ds.length es.length)).take (i + 1)) w2/\KS K wr w2)\/(bv = false/\Jx ((List.finRange (min ds.length es.length)).take (i + 1)) w2)->K' (av.put (some 22) (.bool bv)) w2:=fun bv hb =>
         hK (.bool bv) w2 (fun j hj => apS _ _ _ _ _ _ _ _ _ _ _ _ _ _ j (by
          intro hm;simp only [List.mem_cons,List.not_mem_nil,or_false] at hm;rcases hm with rfl | rfl
          . rw [hL] at hj; cases hj
          . have h9:=hdn 10 _ rfl hj ⟨9,.data⟩ (by simp) rfl
            replace h9:L 9 = true:=h9
            rw [hL] at h9; cases h9)) (show zO K J Jx wr ((List.finRange (min ds.length es.length)).take (i + 1)) (.bool bv) (if (9:Nat) = 9 then true else L 9) w2 from by rw [if_pos rfl]; exact ⟨bv,rfl,hb⟩)
        rcases he2 with ⟨rfl,h1,h2⟩ | ⟨rfl,h1⟩
        . exact ⟨_,rfl,hdf true (.inl ⟨rfl,h1,h2⟩)⟩
        . exact ⟨_,rfl,hdf false (.inr ⟨rfl,h1⟩)⟩
     | 10,ho =>
      injection ho with ho; subst ho;have s9:=aG ak 22 9 (by kernel_rfl) (hpre ⟨9,.data⟩ (by simp) rfl);simp only [zN] at s9;clear ak;have l9:=hpre ⟨9,.data⟩ (by simp) rfl;have hW':=hW;rw [l9] at hW';obtain ⟨bv,rfl,_⟩:∃ bv,γ = .bool bv/\_:=hW';refine fZ (v:=.bool (!bv)) (w':=w1) ?_ (hK (.bool bv) w1 (fun _ _ => rfl) (show zO K J Jx wr ((List.finRange (min ds.length es.length)).take (i + 1)) _ (if (9:Nat) = 10 then true else L 9) _ from by rw [if_neg (by decide)]; exact hW));go_simp
     | _ + 11,ho => cases ho
    case fin =>
     intro γ w2 hW;obtain ⟨bv,rfl,hbv⟩:∃ bv,γ = .bool bv/\((bv = true/\J ((List.finRange (min ds.length es.length)).take (i + 1)) w2/\KS K wr w2)\/(bv = false/\Jx ((List.finRange (min ds.length es.length)).take (i + 1)) w2)):=hW;rw [fK,dJ,eP];simp only [List.map_cons,List.map_nil];rw [amr];simp only [zN,amq];rcases hbv with ⟨rfl,hj2,hk2⟩ | ⟨rfl,hjx⟩
     . gi_wp2
       go_roundw
       case rel => exact ⟨i + 1,by simp,by omega,hj2,hide (HKW.out.trans hk2)⟩
       case measure => simp [intOf]; omega
     . gi_wp2
       refine bodyPost_ret (results_none rfl _ _ _) rfl ?_;exact ⟨⟨_,rfl⟩,.inr ⟨_,trivial,hjx⟩⟩
  . obtain rfl:i = m:=by omega
    gi_wp2
    refine bodyPost_end (results_none rfl _ _ _) rfl ?_;refine ⟨⟨_,rfl⟩,.inl ⟨_,rfl,?_⟩⟩;have e:(List.finRange (min ds.length es.length)).take i = List.finRange (min ds.length es.length):=List.take_of_length_le (by simp; omega);rw [e] at hj;exact hj
end

section
open Go Go.RowKit Go.Deep Go.Shelf Xi
attribute [local go_sem] Oper.semAt_some
def gJ (ds es:List aP):Bool:=decide (ds.map bW = es.map bW)
def UC (ds es:List aP) (k:Nat):Prop:=∀ d e,ds[k]? = some d->es[k]? = some e->bW d = bW e
theorem UD {ds es:List aP} {k:Nat} {d e:aP} (hd:ds[k]? = some d) (he:es[k]? = some e) (h:bW d≠bW e):gJ ds es = false:=decide_eq_false fun hm => h (by
 have h1:(ds.map bW)[k]? = some (bW d):=by rw [List.getElem?_map,hd]; rfl
 rw [hm,List.getElem?_map,he] at h1
 exact (Option.some.inj h1).symm)
theorem OI {ds es:List aP} (h:∀ k,k < min ds.length es.length->UC ds es k):gJ ds es = decide (ds.length = es.length):=by
 unfold gJ;congr 1;refine propext ⟨fun hm => by simpa using congrArg List.length hm,fun hl => List.ext_getElem? fun k => ?_⟩;rw [List.getElem?_map,List.getElem?_map];by_cases hk:k < ds.length
 . have h1:ds[k]? = some (ds[k]):=by simp
   have h2:es[k]? = some (es[k]'(by omega)):=by simp
   rw [h1,h2];exact congrArg some (h k (by omega) _ _ h1 h2)
 . rw [List.getElem?_eq_none (by omega),List.getElem?_eq_none (by omega)]
theorem kind_eq (d e:aP):(d.1 == e.1 && ((if d.1 then d.2.length else 0:Nat):Int) == ((if e.1 then e.2.length else 0:Nat):Int)) = decide (bW d = bW e):=by
 unfold bW;rw [Bool.eq_iff_iff];simp only [Bool.and_eq_true,beq_iff_eq,decide_eq_true_eq,Prod.mk.injEq];exact and_congr_right fun _ => Int.ofNat_inj
theorem uw {β:Type} (b:Nat) (t:TypeId) (f:β->List Value):Own (fun s W => ay W b t (f s)):=fun s A B row hs hg hr =>
 (hg.block _ (lt_of_heap hs) (fun e => by
   obtain ⟨o,ho,hc⟩:=hr b e.symm;rw [show A.heap[b]? = _ from hs] at ho;cases ho
   simp [Obj.isCells] at hc)).trans hs
theorem vT {B:Nat} {w w':World} (hc:ah w w' []):KeepsFrom B w w':=⟨hc.size,fun i o _ hi _ => hc.heap hi (by simp)⟩
theorem XJ {β:Type} {w:World} {B:Nat} (hB:w.heap.size<=B):OwnFrom B (fun (_:β) W => ah w W []):=fun s X Y row hs hg hr => hs.trans (ah.dh (D:=row.toList) hg (fun k hk => .inl (by simp [hk]))) (fun k hk => .inr (by have:=(hr k (by simpa using hk)).1; omega))
def XK (f:Bool) (B:Option Addr) (n c:Nat) (f':Bool) (B':Option Addr) (n' c':Nat) (_:Unit):Nat->Value
 | 0 => .agg #[.bool f,.slice B n c]
 | 1 => DI f n
 | 2 => .agg #[.bool f',.slice B' n' c']
 | 3 => DI f' n'
 | 4 => (.bool (!(f == f' && ((if f then n else 0:Nat):Int) == ((if f' then n' else 0:Nat):Int))))
 | _ => undef
theorem amu (v:Nat->Value) (t0 t1 t2 t3 t4 t5 t6 t7 t8 t9 t10 t11 t12 t13 t14 t15 t16 t17 t18 t19 t20 t21:Value):jE v (some 12 :: some 13 :: some 14 :: some 15 :: some 16 :: []) 0 (t0 :: t1 :: t2 :: t3 :: t4 :: t5 :: t6 :: t7 :: t8 :: t9 :: t10 :: t11 :: t12 :: t13 :: t14 :: t15 :: t16 :: t17 :: t18 :: t19 :: t20 :: t21 :: []) = (t0 :: t1 :: t2 :: t3 :: t4 :: t5 :: t6 :: t7 :: t8 :: t9 :: t10 :: t11 :: v 0 :: v 1 :: v 2 :: v 3 :: v 4 :: t17 :: t18 :: t19 :: t20 :: t21 :: []):=by kernel_rfl
theorem Ii {w W:World} {D:Nat} {b:Bool} {ts:Array Value} {R:Ending->World->Prop} (ht:ts.getD 4 undef = .pointer (some ⟨w.heap.size,0,none⟩)) (hc:ah w W []) (hD:w.heap.size < D) (hb:ay W w.heap.size 4 [.bool b]) (hK:W.heap[D]? = some (.deferred (some []))) (hR:∀ w',ah w w' []->R (.returned (.bool b)) w') :
 bodyPostM Fence.wide 6 Tryz.prog Tryz.f8 R .ret { tmps:=ts,defers:=[{ target:=.collected D,args:=#[] }] } W:=by
 have hp:ay (W.putObj D (.deferred none)) w.heap.size 4 [.bool b]:=(World.putObj_heap_other (by omega)).trans hb;have y0:=hp.cell' (i:=0) rfl;refine ⟨by simp,.inl ⟨_,_,rfl,run_takeDeferred hK,?_⟩⟩;refine ⟨.bool b,?_,hR _ (hc.trans (ah.dh (D:=[D]) (grownBy_putObj' _ D (.deferred none)) (fun k e => by cases e; exact .inl (by simp))) (fun k hk => .inr (by simp at hk; omega)))⟩;simp only [Array.getD_eq_getD_getElem?] at ht;simp [results,Tryz.f8,go_sem,y0,ht]
theorem lJ {w:World} {A A':Option Addr} {c c':Nat} {ds es:List aP} {vs us:Nat->Value} (h:jG w A ds vs) (h':jG w A' es us) (hl:ds.length<=maxLen) (hl':es.length<=maxLen) :
 Calls Tryz.prog 8 #[.slice A ds.length c,.slice A' es.length c'] w fun e w' => e = .returned (.bool (gJ ds es))/\ah w w' []:=by
 have dK:Tryz.prog.follows .mixedOrders = true:=by kernel_rfl
 refine (callsIn_wide (n:=6)).1 ?_;refine callsIn_of_wp_marks Tryz.func8 rfl trivial ?_ rfl;simp only [Tryz.ntmps8,List.size_toArray,List.length_cons,List.length_nil,Nat.reduceAdd,Nat.reduceSub,Array.replicate_succ,Array.replicate_zero,List.push_toArray,List.append_toArray,List.nil_append,List.cons_append]
 gi_wp2_with fail
 refine ⟨trivial,?_⟩;refine (callsIn_wide.2 (Ih _ _ _ _ _ _ _)).mono ?_;rintro e w1 ⟨rfl,hw1⟩;have b0:=((ay.new w 4 [.bool false]).alloc (.cells #[.slice A ds.length c] 22)).alloc (.cells #[.slice A' es.length c'] 22);have b1:=(ay.new (w.alloc (.cells #[.bool false] 4)) 22 [.slice A ds.length c]).alloc (.cells #[.slice A' es.length c'] 22);have b2:=ay.new ((w.alloc (.cells #[.bool false] 4)).alloc (.cells #[.slice A ds.length c] 22)) 22 [.slice A' es.length c'];have hcw:=(((ah.refl w []).alloc (.cells #[.bool false] 4)).alloc (.cells #[.slice A ds.length c] 22)).alloc (.cells #[.slice A' es.length c'] 22);have afL:w1 = ((w.alloc (.cells #[.bool false] 4)).alloc (.cells #[.slice A ds.length c] 22)).alloc (.cells #[.slice A' es.length c'] 22):=hw1;rw [<- afL] at b0 b1 b2 hcw;have hsz:w1.heap.size = w.heap.size + 3:=by rw [afL]; simp
 clear hw1 afL;simp only [size_alloc] at b1 b2
 gi_wp2_with fail
 refine wpIn_rangeFunc_ownH rfl (by decide) (gf:=32) (lb:=#[.pointer (some ⟨w.heap.size + 1,0,none⟩),.pointer (some ⟨w.heap.size + 1 + 1,0,none⟩)]) rfl trivial (enters_of Tryz.func32 (by kernel_rfl) rfl)
  (pairs_stops (6 - 1) (by decide) (w.heap.size + 1) (w.heap.size + 1 + 1) (b1.cell' (i:=0) rfl) (b2.cell' (i:=0) rfl) (h.keep hcw) (h'.keep hcw) (List.range w1.heap.size) (by simp; omega) (by simp; omega) ?kA ?kB hl hl') KS.trans (fun W l o o' hl h0 hc hw => KS.putObj W l o o' h0 hc) (Below.refl _ _) (fun _ => rfl)
  (fun pre W => (∀ y∈pre,UC ds es y.val)/\ay W w.heap.size 4 [.bool false]/\ah w W [])
  (fun c pre W => (c = .ret/\gJ ds es = false)/\ay W w.heap.size 4 [.bool false]/\ah w W [])
  (OwnFrom.and (fun s X Y row hs hg hr => hs) (OwnFrom.and ((uw _ _ (fun _ => _)).from _) (XJ (by omega))))
  (fun c => OwnFrom.and (fun s X Y row hs hg hr => hs) (OwnFrom.and ((uw _ _ (fun _ => _)).from _) (XJ (by omega))))
  ⟨by simp,b0,hcw⟩
  (fun x a' W => ∃ B1 B2,w.heap.size < B1/\w.heap.size < B2/\ay W B1 38 [.bool (ds[x.val]'(by omega)).1,vs x.val]/\ay W B2 38 [.bool (es[x.val]'(by omega)).1,us x.val]/\a' = { tmps:=#[.slice A ds.length c,.slice A' es.length c',undef,undef,.pointer (some ⟨w.heap.size,0,none⟩),.pointer (some ⟨B1,0,none⟩),.pointer (some ⟨B2,0,none⟩),.slice A ds.length c,.slice A' es.length c',.func (.func 32) #[] #[.pointer (some ⟨w.heap.size + 1,0,none⟩),.pointer (some ⟨w.heap.size + 1 + 1,0,none⟩)],(.agg #[.bool (ds[x.val]'(by omega)).1,vs x.val]),(.agg #[.bool (es[x.val]'(by omega)).1,us x.val]),undef,undef,undef,undef,undef,undef,undef,undef,undef,undef],defers:=[] })
  (fun x a' _ X Y row hs hg hr => by
    obtain ⟨B1,B2,h1,h2,h3,h4,h5⟩:=hs
    exact ⟨B1,B2,h1,h2,uw B1 _ (fun (_:Unit) => _) () X Y row h3 hg (fun r e => (hr r e).2),uw B2 _ (fun (_:Unit) => _) () X Y row h4 hg (fun r e => (hr r e).2),h5⟩)
  ?assign ?body ?done ?stop
 case kA =>
  rintro h0 b o rfl;obtain ⟨b',o',e,hx⟩:=h h0;injection e with e; injection e with e1 e2;subst e1;have:=World.block_lt_of_cell? w _ (hx 0 (ds[0]'h0) (by simp)).1;simp only at this;exact List.mem_range.2 (by omega)
 case kB =>
  rintro h0 b o rfl;obtain ⟨b',o',e,hx⟩:=h' h0;injection e with e; injection e with e1 e2;subst e1;have:=World.block_lt_of_cell? w _ (hx 0 (es[0]'h0) (by simp)).1;simp only at this;exact List.mem_range.2 (by omega)
 case assign =>
  rintro l pre x W K ⟨hp,hb,hc⟩ hK;have hxl:=x.isLt;have hxd:x.val < ds.length:=by omega
  have hxe:x.val < es.length:=by omega
  have hs:=hc.size;obtain ⟨bA,oA,rfl,hxA⟩:=h (by omega);obtain ⟨bE,oE,rfl,hxE⟩:=h' (by omega);obtain ⟨_,_,⟨B,n,ev⟩,_⟩:=hxA x.val (ds[x.val]'hxd) (List.getElem?_eq_getElem hxd);obtain ⟨_,_,⟨B',n',ev'⟩,_⟩:=hxE x.val (es[x.val]'hxe) (List.getElem?_eq_getElem hxe);unfold ZY;simp only [ev,ev'] at hK ⊢;clear hxA hxE
  gi_wp2
  have z1:=(ay.new W 38 [.bool (ds[x.val]'hxd).1,(.slice B (ds[x.val]'hxd).2.length n)]).alloc (.cells #[.bool (es[x.val]'hxe).1,(.slice B' (es[x.val]'hxe).2.length n')] 38);have z2:=ay.new (W.alloc (.cells #[.bool (ds[x.val]'hxd).1,(.slice B (ds[x.val]'hxd).2.length n)] 38)) 38 [.bool (es[x.val]'hxe).1,(.slice B' (es[x.val]'hxe).2.length n')];have hcn:=((ah.refl W []).alloc (.cells #[.bool (ds[x.val]'hxd).1,(.slice B (ds[x.val]'hxd).2.length n)] 38)).alloc (.cells #[.bool (es[x.val]'hxe).1,(.slice B' (es[x.val]'hxe).2.length n')] 38);simp only [size_alloc] at z2;refine hK _ _ (vT hcn) (KS.aj hcn (by simp)) ⟨hp,hb.aj hcn (by simp),hc.trans hcn (by simp)⟩ ⟨W.heap.size,W.heap.size + 1,hb.lt,by omega,z1,z2,rfl⟩
 case body =>
  rintro l pre x a' W hl ⟨r,hr⟩ ⟨hp,hb,hc⟩ ⟨B1,B2,h1,h2,x1,x2,rfl⟩ hlt;have hxl:=x.isLt;have hxd:x.val < ds.length:=by omega
  have hxe:x.val < es.length:=by omega
  have hx0:0 < ds.length:=by have:=x.isLt; omega
  have hx0':0 < es.length:=by have:=x.isLt; omega
  obtain ⟨bA,oA,rfl,hxA⟩:=h hx0;obtain ⟨bE,oE,rfl,hxE⟩:=h' hx0';obtain ⟨_,_,⟨B,n,ev⟩,_⟩:=hxA x.val (ds[x.val]'hxd) (by simp);obtain ⟨_,_,⟨B',n',ev'⟩,_⟩:=hxE x.val (es[x.val]'hxe) (by simp);have hke:=kind_eq (ds[x.val]'hxd) (es[x.val]'hxe);rw [ev] at x1 ⊢;rw [ev'] at x2 ⊢;have hno:=fun hk:bW (ds[x.val]'hxd)≠bW (es[x.val]'hxe) => UD (ds:=ds) (es:=es) (k:=x.val) (d:=ds[x.val]'hxd) (e:=es[x.val]'hxe) (List.getElem?_eq_getElem hxd) (List.getElem?_eq_getElem hxe) hk
  have hyes:bW (ds[x.val]'hxd) = bW (es[x.val]'hxe)->UC ds es x.val:=fun hk d e hd he => by
   rw [List.getElem?_eq_getElem hxd] at hd;rw [List.getElem?_eq_getElem hxe] at he;injection hd with hd; injection he with he;subst hd; subst he;exact hk
  generalize ds[x.val]'hxd = dd at *;generalize es[x.val]'hxe = ee at *;obtain ⟨f,dl⟩:=dd;obtain ⟨f',el⟩:=ee;simp only at x1 x2 hke ⊢;have X1:=hide x1;have X2:=hide x2;have HB:=hide hb;have HC:=hide hc;clear hxA hxE h h' ev ev' x1 x2 hb hc b0 b1 b2
  gi_wp2_with fail
  refine yS (F:=Fence.wide.inRound l) (fun _ => trivial) dK _ _ (fun (_:Unit) => XK f B dl.length n f' B' el.length n' ()) (fun (_:Unit) L w' => ah W w' []) () (by kernel_rfl) [] (by kernel_rfl) (fun p hp γ => by simp at hp) (by kernel_rfl) ?step ?start ?fin ?ext
  case start => exact (ah.refl W []).drew
  case ext => exact fun γ L L' w' h hw => hw
  case step =>
   intro i_ o_ ho_ L av w1 γ hdn ak hW hL hpre K' Q' hK;have hW:ah W w1 []:=hW
   match i_,ho_ with
    | 0,ho =>
     injection ho with ho; subst ho;have b5:av.tmps.getD 5 undef = .pointer (some ⟨B1,0,none⟩):=dM ak 5 (by kernel_rfl);clear ak;have hbb:=X1.out.aj hW (by simp);have y0:=hbb.cell' (i:=0) rfl;have y1:=hbb.cell' (i:=1) rfl;refine qw (v:=.agg #[.bool f,.slice B dl.length n]) (w':=w1) (fun _ h => by cases h) ?_ (hK () w1 (fun _ _ => rfl) hW);go_simp
    | 1,ho =>
     injection ho with ho; subst ho;have s0:=aG ak 12 0 (by kernel_rfl) (hpre ⟨0,.data⟩ (by simp) rfl);simp only [XK] at s0;clear ak;refine BH (fun _ h => by cases h) ?_ (FK f B dl.length n) ?_
     . go_simp
     rintro e w2 ⟨rfl,hc2⟩;exact ⟨_,rfl,hK () w2 (fun _ _ => rfl) (hW.trans hc2 (by simp))⟩
    | 2,ho =>
     injection ho with ho; subst ho;have b6:av.tmps.getD 6 undef = .pointer (some ⟨B2,0,none⟩):=dM ak 6 (by kernel_rfl);clear ak;have hbb:=X2.out.aj hW (by simp);have y0:=hbb.cell' (i:=0) rfl;have y1:=hbb.cell' (i:=1) rfl;refine qw (v:=.agg #[.bool f',.slice B' el.length n']) (w':=w1) (fun _ h => by cases h) ?_ (hK () w1 (fun _ _ => rfl) hW);go_simp
    | 3,ho =>
     injection ho with ho; subst ho;have s2:=aG ak 14 2 (by kernel_rfl) (hpre ⟨2,.data⟩ (by simp) rfl);simp only [XK] at s2;clear ak;refine BH (fun _ h => by cases h) ?_ (FK f' B' el.length n') ?_
     . go_simp
     rintro e w2 ⟨rfl,hc2⟩;exact ⟨_,rfl,hK () w2 (fun _ _ => rfl) (hW.trans hc2 (by simp))⟩
    | 4,ho =>
     injection ho with ho; subst ho;have s1:=aG ak 13 1 (by kernel_rfl) (hpre ⟨1,.data⟩ (by simp) rfl);simp only [XK] at s1;have s3:=aG ak 15 3 (by kernel_rfl) (hpre ⟨3,.data⟩ (by simp) rfl);simp only [XK] at s3;clear ak;unfold DI at s1 s3;have hq:=Uz;refine qw (v:=(.bool (!(f == f' && ((if f then dl.length else 0:Nat):Int) == ((if f' then el.length else 0:Nat):Int))))) (w':=w1) (fun _ h => by cases h) ?_ (hK () w1 (fun _ _ => rfl) hW);go_simp
    | _ + 5,ho => cases ho
  case fin =>
   intro γ w2 hW;have hW:ah W w2 []:=hW;rw [fK,dJ,eP];simp only [List.map_cons,List.map_nil];rw [amu];simp only [XK];rw [hke];by_cases hk:bW (f,dl) = bW (f',el)
   . rw [decide_eq_true hk]
     gi_wp2
     refine ⟨vT hW,KS.aj hW (by simp),fun y hy => ?_,HB.out.aj hW (by simp),HC.out.trans hW (by simp)⟩;rcases List.mem_append.1 hy with hy | hy
     . exact hp y hy
     . simp only [List.mem_cons,List.not_mem_nil,or_false] at hy
       subst hy;exact hyes hk
   . rw [decide_eq_false hk]
     have hb2:=HB.out.aj hW (by simp);have hb3:=hb2.aJ 0 (.bool false);have hf:=hb2.frozen 0;have y0:=hb2.cell' (i:=0) rfl
     gi_wp2
     refine ⟨yT (D:=[w.heap.size]) ((hW.more (D':=[w.heap.size]) (by simp)).setCell ⟨w.heap.size,0,none⟩ (.bool false) (by simp)) (by intro k hk; simp only [List.mem_cons,List.not_mem_nil,or_false] at hk; subst hk; exact ⟨_,_,_,HB.out⟩),⟨rfl,hno hk⟩,hb3,(HC.out.trans hW (by simp)).setCell ⟨w.heap.size,0,none⟩ (.bool false) (.inr (Nat.le_refl _))⟩
 case done =>
  rintro D ys W hD rfl ⟨hp,hb,hc⟩ hK;have hsh:=OI (ds:=ds) (es:=es) (fun k hk => hp ⟨k,hk⟩ (List.mem_finRange _));have hf:=hb.frozen 0;have y0:=hb.cell' (i:=0) rfl
  gi_wp2
  have eqq:((ds.length:Int) == (es.length:Int)) = gJ ds es:=by
   rw [hsh,Bool.eq_iff_iff];simp only [beq_iff_eq,decide_eq_true_eq];exact Int.ofNat_inj
  rw [eqq];have h5:=(ah.refl W [w.heap.size]).setCell ⟨w.heap.size,0,none⟩ (.bool (gJ ds es)) (by simp);refine Ii (w:=w) rfl (hc.setCell ⟨w.heap.size,0,none⟩ (.bool (gJ ds es)) (.inr (Nat.le_refl _))) (by omega) (hb.aJ 0 (.bool (gJ ds es))) (h5.heap hK (by simp; omega)) (fun w' h => ⟨rfl,h⟩)
 case stop =>
  rintro D c pre W hD _ ⟨⟨rfl,hs⟩,hb,hc⟩ hK
  gi_wp2
  refine Ii (w:=w) rfl hc (by omega) hb hK (fun w' h => ⟨by rw [hs],h⟩)
def uM (f:Bool) (n:Nat):Int:=if f then (n:Int) else -1
theorem size_eq (d e:aP):(uM d.1 d.2.length == uM e.1 e.2.length) = decide (bW d = bW e):=by
 obtain ⟨f,l⟩:=d;obtain ⟨f',l'⟩:=e;unfold uM bW;rw [Bool.eq_iff_iff]
 cases f <;> cases f' <;> simp only [beq_iff_eq,decide_eq_true_eq,Prod.mk.injEq,if_true,if_false,Bool.false_eq_true,true_and,false_and,iff_false,reduceCtorEq] <;> omega
theorem LG {w:World} (f:Bool) (B:Option Addr) (n c:Nat):Calls Tryz.prog 19 #[.agg #[.bool f,.slice B n c]] w fun e w' => e = .returned (.int .i64 (uM f n))/\ah w w' []:=by
 have b0:=ay.new w 38 [.bool f,.slice B n c];have z0:=b0.cell' (i:=0) rfl;have z1:=b0.cell' (i:=1) rfl;have hc:=(ah.refl w []).alloc (.cells #[.bool f,.slice B n c] 38)
 cases f with
 | false =>
  go_enter Tryz.func19,Tryz.ntmps19
  go_wp2;go_ret;exact ⟨rfl,hc⟩
 | true =>
  go_enter Tryz.func19,Tryz.ntmps19
  go_wp2;go_ret;exact ⟨rfl,hc⟩
def D7 (ba oa nd ca bb ob ne cb i:Nat) (f:Bool) (B:Option Addr) (n c:Nat) (f':Bool) (B':Option Addr) (n' c':Nat) (_:Unit):Nat->Value
 | 0 => .slice (some ⟨ba,oa,none⟩) nd ca
 | 1 => .int .i64 (i:Int)
 | 2 => .pointer (some ⟨ba,oa + i * 2,none⟩)
 | 3 => .agg #[.bool f,.slice B n c]
 | 4 => .int .i64 (uM f n)
 | 5 => .slice (some ⟨bb,ob,none⟩) ne cb
 | 6 => .int .i64 (i:Int)
 | 7 => .pointer (some ⟨bb,ob + i * 2,none⟩)
 | 8 => .agg #[.bool f',.slice B' n' c']
 | 9 => .int .i64 (uM f' n')
 | 10 => .bool (!(uM f n == uM f' n'))
 | _ => undef
theorem amC (v:Nat->Value) (t0 t1 t2 t3 t4 t5 t6 t7 t8 t9 t10 t11 t12 t13 t14 t15 t16 t17 t18 t19 t20 t21 t22 t23 t24 t25 t26 t27:Value):jE v (some 17 :: some 18 :: some 19 :: some 20 :: some 21 :: some 22 :: some 23 :: some 24 :: some 25 :: some 26 :: some 27 :: []) 0 (t0 :: t1 :: t2 :: t3 :: t4 :: t5 :: t6 :: t7 :: t8 :: t9 :: t10 :: t11 :: t12 :: t13 :: t14 :: t15 :: t16 :: t17 :: t18 :: t19 :: t20 :: t21 :: t22 :: t23 :: t24 :: t25 :: t26 :: t27 :: []) = (t0 :: t1 :: t2 :: t3 :: t4 :: t5 :: t6 :: t7 :: t8 :: t9 :: t10 :: t11 :: t12 :: t13 :: t14 :: t15 :: t16 :: v 0 :: v 1 :: v 2 :: v 3 :: v 4 :: v 5 :: v 6 :: v 7 :: v 8 :: v 9 :: v 10 :: []):=by kernel_rfl
theorem sF {w:World} {A A':Option Addr} {c c':Nat} {ds es:List aP} {vs us:Nat->Value} (h:jG w A ds vs) (h':jG w A' es us) (hl:ds.length<=maxLen) (hl':es.length<=maxLen) :
 Calls Tryz.prog 9 #[.slice A ds.length c,.slice A' es.length c'] w fun e w' => e = .returned (.bool (gJ ds es))/\ah w w' []:=by
 have dK:Tryz.prog.follows .mixedOrders = true:=by kernel_rfl
 unfold maxLen at hl hl';by_cases hle:ds.length = es.length
 . have HL:=hide hle
   have HH:=hide h;have HH':=hide h';clear h h';have hln:((ds.length:Int) != (es.length:Int)) = false:=by simp [hle]
   clear hle;go_enter Tryz.func9,Tryz.ntmps9
   go_wp2_with fail
   go_loopw [5] (fun i wr => ∃ j:Nat,j<=ds.length/\i = .int .i64 j/\Hid (∀ k,k < j->UC ds es k)/\Hid (ah w wr [])) (fun i _ => ds.length - (intOf i).toNat)
   case atStart => exact ⟨0,Nat.zero_le _,rfl,hide (fun k hk => absurd hk (by omega)),hide (ah.refl w [])⟩
   case round =>
    obtain ⟨i,hi,rfl,HO,HC⟩:=hrel;by_cases hlt:i < ds.length
    . obtain ⟨ba,oa,rfl,hxA⟩:=HH.out (by omega)
      obtain ⟨bb,ob,rfl,hxB⟩:=HH'.out (by have:=HL.out; omega);have hlt':i < es.length:=by have:=HL.out; omega
      obtain ⟨qa0,qa1,⟨B,n,ea⟩,_⟩:=hxA i (ds[i]'hlt) (List.getElem?_eq_getElem hlt);obtain ⟨qb0,qb1,⟨B',n',eb⟩,_⟩:=hxB i (es[i]'hlt') (List.getElem?_eq_getElem hlt');have hsz:=size_eq (ds[i]'hlt) (es[i]'hlt')
      have hone:bW (ds[i]'hlt) = bW (es[i]'hlt')->UC ds es i:=fun hk d e hd he => by
       rw [List.getElem?_eq_getElem hlt] at hd;rw [List.getElem?_eq_getElem hlt'] at he;injection hd with hd; injection he with he;subst hd; subst he;exact hk
      have hno:=fun hk:bW (ds[i]'hlt)≠bW (es[i]'hlt') => UD (ds:=ds) (es:=es) (List.getElem?_eq_getElem hlt) (List.getElem?_eq_getElem hlt') hk;rw [ea] at qa1;rw [eb] at qb1;generalize ds[i]'hlt = dd at *;generalize es[i]'hlt' = ee at *;obtain ⟨f,dl⟩:=dd;obtain ⟨f',el⟩:=ee;simp only at qa0 qa1 qb0 qb1 hsz;have Q0:=hide (HC.out.cell qa0 (by simp));have Q1:=hide (HC.out.cell qa1 (by simp));have Q2:=hide (HC.out.cell qb0 (by simp));have Q3:=hide (HC.out.cell qb1 (by simp));clear hxA hxB ea eb qa0 qa1 qb0 qb1;go_wp2_with fail
      refine gU dK _ _ (fun (_:Unit) => D7 ba oa ds.length c bb ob es.length c' i f B dl.length n f' B' el.length n' ()) (fun (_:Unit) L w' => ah wr w' []) () (by kernel_rfl) [] (by kernel_rfl) (fun p hp γ => by simp at hp) (by kernel_rfl) ?step ?start ?fin ?ext
      case start => exact (ah.refl wr []).drewN _
      case ext => exact fun γ L L' w' h hw => hw
      case step =>
       intro i_ o_ ho_ L av w1 γ hdn ak hW hL hpre K' Q' hK;have hW:ah wr w1 []:=hW
       match i_,ho_ with
       | 0,ho =>
        injection ho with ho; subst ho;have b0:av.tmps.getD 0 undef = .slice (some ⟨ba,oa,none⟩) ds.length c:=dM ak 0 (by kernel_rfl);clear ak;refine au (v:=.slice (some ⟨ba,oa,none⟩) ds.length c) (w':=w1) ?_ (hK () w1 (fun _ _ => rfl) hW)
        go_simp
         | 1,ho =>
        injection ho with ho; subst ho;have b5:av.tmps.getD 5 undef = .int .i64 (i:Int):=dM ak 5 (by kernel_rfl);clear ak;refine au (v:=.int .i64 (i:Int)) (w':=w1) ?_ (hK () w1 (fun _ _ => rfl) hW)
        go_simp
         | 2,ho =>
        injection ho with ho; subst ho;have s0:=aG ak 17 0 (by kernel_rfl) (hpre ⟨0,.data⟩ (by simp) rfl);simp only [D7] at s0;have s1:=aG ak 18 1 (by kernel_rfl) (hpre ⟨1,.data⟩ (by simp) rfl);simp only [D7] at s1;clear ak;refine au (v:=.pointer (some ⟨ba,oa + i * 2,none⟩)) (w':=w1) ?_ (hK () w1 (fun _ _ => rfl) hW);go_simp
        try (first | rfl | (intro hh; omega))
         | 3,ho =>
        injection ho with ho; subst ho;have s2:=aG ak 19 2 (by kernel_rfl) (hpre ⟨2,.data⟩ (by simp) rfl);simp only [D7] at s2;clear ak;have y0:=hW.cell Q0.out (by simp);have y1:=hW.cell Q1.out (by simp);refine au (v:=.agg #[.bool f,.slice B dl.length n]) (w':=w1) ?_ (hK () w1 (fun _ _ => rfl) hW)
        go_simp
         | 4,ho =>
        injection ho with ho; subst ho;have s3:=aG ak 20 3 (by kernel_rfl) (hpre ⟨3,.data⟩ (by simp) rfl);simp only [D7] at s3;clear ak;refine dZ ?_ (LG f B dl.length n) ?_
        . go_simp
        rintro e w2 ⟨rfl,hc2⟩
        exact ⟨_,rfl,hK () w2 (fun _ _ => rfl) (hW.trans hc2 (by simp))⟩
         | 5,ho =>
        injection ho with ho; subst ho;have b1:av.tmps.getD 1 undef = .slice (some ⟨bb,ob,none⟩) es.length c':=dM ak 1 (by kernel_rfl);clear ak;refine au (v:=.slice (some ⟨bb,ob,none⟩) es.length c') (w':=w1) ?_ (hK () w1 (fun _ _ => rfl) hW)
        go_simp
         | 6,ho =>
        injection ho with ho; subst ho;have b5:av.tmps.getD 5 undef = .int .i64 (i:Int):=dM ak 5 (by kernel_rfl);clear ak;refine au (v:=.int .i64 (i:Int)) (w':=w1) ?_ (hK () w1 (fun _ _ => rfl) hW)
        go_simp
         | 7,ho =>
        injection ho with ho; subst ho;have s5:=aG ak 22 5 (by kernel_rfl) (hpre ⟨5,.data⟩ (by simp) rfl);simp only [D7] at s5;have s6:=aG ak 23 6 (by kernel_rfl) (hpre ⟨6,.data⟩ (by simp) rfl);simp only [D7] at s6;clear ak;refine au (v:=.pointer (some ⟨bb,ob + i * 2,none⟩)) (w':=w1) ?_ (hK () w1 (fun _ _ => rfl) hW);go_simp
        try (first | rfl | (intro hh; omega))
         | 8,ho =>
        injection ho with ho; subst ho;have s7:=aG ak 24 7 (by kernel_rfl) (hpre ⟨7,.data⟩ (by simp) rfl);simp only [D7] at s7;clear ak;have y2:=hW.cell Q2.out (by simp);have y3:=hW.cell Q3.out (by simp);refine au (v:=.agg #[.bool f',.slice B' el.length n']) (w':=w1) ?_ (hK () w1 (fun _ _ => rfl) hW)
        go_simp
         | 9,ho =>
        injection ho with ho; subst ho;have s8:=aG ak 25 8 (by kernel_rfl) (hpre ⟨8,.data⟩ (by simp) rfl);simp only [D7] at s8;clear ak;refine dZ ?_ (LG f' B' el.length n') ?_
        . go_simp
        rintro e w2 ⟨rfl,hc2⟩
        exact ⟨_,rfl,hK () w2 (fun _ _ => rfl) (hW.trans hc2 (by simp))⟩
         | 10,ho =>
        injection ho with ho; subst ho;have s4:=aG ak 21 4 (by kernel_rfl) (hpre ⟨4,.data⟩ (by simp) rfl);simp only [D7] at s4;have s9:=aG ak 26 9 (by kernel_rfl) (hpre ⟨9,.data⟩ (by simp) rfl);simp only [D7] at s9;clear ak;clear hsz;refine au (v:=.bool (!(uM f dl.length == uM f' el.length))) (w':=w1) ?_ (hK () w1 (fun _ _ => rfl) hW);go_simp
        try rfl
       | _ + 11,ho => cases ho
      case fin =>
       intro γ w2 hW;have hW:ah wr w2 []:=hW;rw [fK,dJ,eP];simp only [List.map_cons,List.map_nil];rw [amC];simp only [D7];rw [hsz];by_cases hk:bW (f,dl) = bW (f',el)
       . rw [decide_eq_true hk]
         go_wp2;go_roundw
         case rel =>
          exact ⟨i + 1,by omega,by go_num,hide (fun k hk' => by
           by_cases e:k = i
           . subst e; exact hone hk
           . exact HO.out k (by omega)),hide (HC.out.trans hW (by simp))⟩
         case measure => simp [intOf]; omega
       . rw [decide_eq_false hk]
         go_wp2;go_ret;exact ⟨by rw [hno hk]; rfl,HC.out.trans hW (by simp)⟩
    . have hjl:i = ds.length:=by omega
      subst hjl;go_wp2;go_ret;exact ⟨by rw [OI (fun k hk => HO.out k (by omega)),decide_eq_true HL.out]; rfl,HC.out⟩
 . have hs:gJ ds es = false:=decide_eq_false fun hm => hle (by simpa using congrArg List.length hm)
   have hln:((ds.length:Int) != (es.length:Int)) = true:=by simp; omega
   go_enter Tryz.func9,Tryz.ntmps9
   go_wp2;go_ret;exact ⟨by rw [hs]; rfl,ah.refl w []⟩
end

section
open Go Go.RowKit Go.Deep Go.Shelf Xi
abbrev Kd:=Bool × Nat
def kV (k:Kd):Value:=.agg #[.bool k.1,.int .i64 (k.2:Int)]
theorem aiI (d:aP):DI d.1 d.2.length = kV (bW d):=by
 unfold DI kV bW;rfl
def gK:Nat->List (Kd × Nat)->List MapEntry
 | _,[] => []
 | i,p :: r => ⟨kV p.1,.int .i64 (p.2:Int),i⟩ :: gK (i + 1) r
def fG:List (Kd × Nat)->Kd->Nat
 | [],_ => 0
 | p :: r,k => if p.1 = k then p.2 else fG r k
def dL:List (Kd × Nat)->Kd->Nat
 | [],_ => 0
 | p :: r,k => if p.1 = k then 0 else dL r k + 1
def pW (l:List (Kd × Nat)) (k:Kd):Bool:=decide (dL l k < l.length)
def insL (l:List (Kd × Nat)) (k:Kd):List (Kd × Nat):=if pW l k = true then l else l ++ [(k,0)]
def uN (l:List (Kd × Nat)) (k:Kd):List (Kd × Nat):=(insL l k).set (dL l k) (k,fG l k + 1)
theorem XM:∀ (l:List (Kd × Nat)) (k:Kd),dL l k<=l.length
 | [],_ => Nat.le_refl _
 | p :: r,k => by
  unfold dL;have:=XM r k;split <;> simp <;> omega
theorem ac9 (l:List (Kd × Nat)) (k k':Kd):fG (uN l k) k' = if k' = k then fG l k + 1 else fG l k':=by
 unfold uN insL pW
 induction l with
 | nil =>
  show (if k = k' then 0 + 1 else 0) = if k' = k then 0 + 1 else 0
  by_cases h:k = k'
  . rw [if_pos h,if_pos h.symm]
  . rw [if_neg h,if_neg (Ne.symm h)]
 | cons p r ih =>
  by_cases h:p.1 = k
  . subst h
    simp only [dL,fG,if_true,List.length_cons,Nat.zero_lt_succ,decide_true,List.set_cons_zero];by_cases h2:p.1 = k'
    . rw [if_pos h2,if_pos h2.symm]
    . rw [if_neg h2,if_neg (Ne.symm h2),if_neg h2]
  . simp only [dL,fG,if_neg h,List.length_cons,Nat.add_lt_add_iff_right]
    rw [show (if decide (dL r k < r.length) = true then p :: r else p :: r ++ [(k,0)]) = p :: (if decide (dL r k < r.length) = true then r else r ++ [(k,0)]) by split <;> rfl,List.set_cons_succ,fG,ih];by_cases h2:p.1 = k'
    . subst h2
      rw [if_pos rfl,if_neg h,if_pos rfl]
    . rw [if_neg h2,if_neg h2]
theorem afR (l:List (Kd × Nat)) (k:Kd):fG (insL l k) k = fG l k:=by
 unfold insL pW
 induction l with
 | nil => simp [dL,fG]
 | cons p r ih =>
  by_cases h:p.1 = k
  . simp [dL,h]
  . simp only [dL,fG,if_neg h,List.length_cons,Nat.add_lt_add_iff_right]
    rw [show (if decide (dL r k < r.length) = true then p :: r else p :: r ++ [(k,0)]) = p :: (if decide (dL r k < r.length) = true then r else r ++ [(k,0)]) by split <;> rfl,fG,if_neg h,ih]
def sG (w:World) (m:Nat) (l:List (Kd × Nat)):Prop:=w.heap[m]? = some (.map (gK 0 l).toArray l.length)
theorem sG.aj {w w':World} {m:Nat} {l:List (Kd × Nat)} {D:List Nat} (h:sG w m l) (hc:ah w w' D) (hm:m∉D):sG w' m l:=hc.heap h hm
theorem LJ (e:Bool) (k:Kd) (w:World):(Instr.checkKey e 10000 48 (kV k)).run Tryz.prog w = .ok () w:=by kernel_rfl
theorem UK (k:Kd) (w:World):∀ (l:List (Kd × Nat)) (j i:Nat),(Instr.findAsking 48 (kV k) (gK j l) i).run Tryz.prog w = .ok (if pW l k = true then some (i + dL l k,.int .i64 (fG l k:Int)) else none) w
 | [],j,i => rfl
 | p :: r,j,i => by
  have he:(Op.equal 48 (kV k) (kV p.1)).run Tryz.prog w = .ok (decide (p.1 = k)) w:=by
   have:=Uz k.1 p.1.1 (k.2:Int) (p.1.2:Int) w;unfold Op.equal;rw [show Op.maxDepth = 10000 from rfl,show kV k = .agg #[.bool k.1,.int .i64 (k.2:Int)] from rfl,show kV p.1 = .agg #[.bool p.1.1,.int .i64 (p.1.2:Int)] from rfl,this];congr 1;rw [Bool.eq_iff_iff,Bool.and_eq_true,beq_iff_eq,beq_iff_eq,decide_eq_true_eq,Prod.ext_iff,Int.ofNat_inj];exact ⟨fun h => ⟨h.1.symm,h.2.symm⟩,fun h => ⟨h.1.symm,h.2.symm⟩⟩
  have ih:=UK k w r (j + 1) (i + 1);unfold gK Instr.findAsking;simp only [Sem.run_bind,he,Result.andThen_ok];by_cases h:p.1 = k
  . simp [h,pW,dL,fG]
  . simp only [h,decide_false,Bool.false_eq_true,if_false,ih,pW,dL,fG,List.length_cons,Nat.add_lt_add_iff_right]
    rw [show i + 1 + dL r k = i + (dL r k + 1) by omega];by_cases hd:dL r k < r.length <;> simp only [hd,decide_true,decide_false,Bool.false_eq_true,if_true,if_false]
theorem UL (k:Kd) (l:List (Kd × Nat)) (w:World):(Instr.findKey 48 (kV k) (gK 0 l)).run Tryz.prog w = .ok (if pW l k = true then some (dL l k,.int .i64 (fG l k:Int)) else none) w:=by
 unfold Instr.findKey;simp only [Sem.run_bind,run_underlying Tryz.underlying48,Result.andThen_ok]
 cases l with
 | nil => rfl
 | cons p r =>
  have:=UK k w (p :: r) 0 0;rw [Nat.zero_add] at this;exact this
theorem UM:∀ (l:List (Kd × Nat)) (j i:Nat),(gK j l)[i]? = (l[i]?).map fun p => ⟨kV p.1,.int .i64 (p.2:Int),j + i⟩
 | [],j,i => by simp [gK]
 | p :: r,j,0 => by simp [gK]
 | p :: r,j,i + 1 => by
  have:=UM r (j + 1) i;simp only [gK,List.getElem?_cons_succ,this];rw [show j + 1 + i = j + (i + 1) by omega]
theorem UN:∀ (l:List (Kd × Nat)) (k:Kd),pW l k = true->∃ c,l[dL l k]? = some (k,c)/\c = fG l k
 | [],k,h => by simp [pW,dL] at h
 | p :: r,k,h => by
  by_cases e:p.1 = k
  . subst e
    exact ⟨p.2,by simp [dL],by simp [fG]⟩
  . have h' : pW r k = true := by
     unfold pW at h ⊢;simp only [dL,if_neg e,List.length_cons,Nat.add_lt_add_iff_right] at h;exact h
    obtain ⟨c,h1,h2⟩:=UN r k h';exact ⟨c,by simp only [dL,if_neg e,List.getElem?_cons_succ,h1],by simp only [fG,if_neg e]; exact h2⟩
theorem UO {l:List (Kd × Nat)} {k:Kd} (h:pW l k = false):dL l k = l.length:=by
 have h1:=XM l k;have h2:=of_decide_eq_false h;omega
theorem UQ:∀ (l:List (Kd × Nat)) (k:Kd),dL l k = l.length->fG l k = 0
 | [],k,_ => rfl
 | p :: r,k,hi => by
  unfold dL at hi;by_cases e:p.1 = k
  . rw [if_pos e] at hi; simp at hi
  . rw [if_neg e] at hi
    simp only [fG,if_neg e];exact UQ r k (by simpa using hi)
theorem amG (l:List (Kd × Nat)) (k:Kd):∃ c,(insL l k)[dL l k]? = some (k,c):=by
 unfold insL
 cases h:pW l k with
 | true => obtain ⟨c,h1,_⟩:=UN l k h; exact ⟨c,by simpa using h1⟩
 | false => exact ⟨0,by rw [UO h]; simp⟩
theorem find_born:∀ (l:List (Kd × Nat)) (j i:Nat),i < l.length->(gK j l).findIdx? (fun e => ((e.born:Nat):Int) == ((j + i:Nat):Int)) = some i
 | p :: r,j,0,_ => by simp [gK,List.findIdx?_cons]
 | p :: r,j,i + 1,h => by
  have h1:=find_born r (j + 1) i (by simpa using h)
  have h2:(((j:Nat):Int) == ((j + (i + 1):Nat):Int)) = false:=by
   rw [beq_eq_false_iff_ne];omega
  simp only [gK,List.findIdx?_cons,h2,cond_false];rw [show j + (i + 1) = j + 1 + i by omega,h1];rfl
theorem UR:∀ (l:List (Kd × Nat)) (j i:Nat) (k:Kd) (c v:Nat),l[i]? = some (k,c)->(gK j l).modify i (fun e => { e with val:=.int .i64 (v:Int) }) = gK j (l.set i (k,v))
 | p :: r,j,0,k,c,v,h => by
  simp only [List.getElem?_cons_zero,Option.some.injEq] at h;subst h;simp [gK]
 | p :: r,j,i + 1,k,c,v,h => by
  have:=UR r (j + 1) i k c v (by simpa using h);simp only [gK,List.modify_succ_cons,List.set_cons_succ,this]
theorem UU:∀ (l:List (Kd × Nat)) (j i:Nat) (k:Kd) (c:Nat),l[i]? = some (k,c)->(gK j l).modify i (fun e => { e with key:=kV k }) = gK j l
 | p :: r,j,0,k,c,h => by
  simp only [List.getElem?_cons_zero,Option.some.injEq] at h;subst h;simp [gK]
 | p :: r,j,i + 1,k,c,h => by
  have:=UU r (j + 1) i k c (by simpa using h);simp only [gK,List.modify_succ_cons,this]
theorem OO:∀ (l:List (Kd × Nat)) (j:Nat) (k:Kd) (c:Nat),gK j l ++ [⟨kV k,.int .i64 (c:Int),j + l.length⟩] = gK j (l ++ [(k,c)])
 | [],j,k,c => by simp [gK]
 | p :: r,j,k,c => by
  have:=OO r (j + 1) k c;simp only [gK,List.cons_append,List.length_cons];rw [show j + (r.length + 1) = j + 1 + r.length by omega,this]
theorem ac_ (k:Kd) (w:World):(Instr.keyThatStays (kV k) (kV k)).run Tryz.prog w = .ok (kV k) w:=by
 obtain ⟨f,n⟩:=k
 have h:Instr.sameBits 10000 (kV (f,n)) (kV (f,n)) = true:=by
  rw [show (10000:Nat) = 9999 + 1 from rfl];unfold kV;simp [Instr.sameBits]
 unfold Instr.keyThatStays;rw [h];rfl
def FP (w:World) (m:Nat) (l:List (Kd × Nat)):World:=w.putObj m (.map (gK 0 l).toArray l.length)
theorem UW {w:World} {m:Nat} {l l':List (Kd × Nat)} (h:sG w m l):sG (FP w m l') m l':=World.putObj_heap_same (lt_of_heap h)
theorem UY (w:World) (m:Nat) (l:List (Kd × Nat)):ah w (FP w m l) [m]:=ah.dh (grownBy_putObj' w m _) (fun k e => by cases e; exact .inl (by simp))
theorem ada (w:World):(zeroValue 3).run Tryz.prog w = .ok (.int .i64 0) w:=by kernel_rfl
theorem FQ {w:World} {m:Nat} {l:List (Kd × Nat)} (h:sG w m l) (k:Kd):(Instr.lookup 54 (.map (some m)) (kV k) false).run Tryz.prog w = .ok (.int .i64 (fG l k:Int)) w:=by
 have hk:=UL k l w;have hc:=LJ (gK 0 l).toArray.isEmpty k w;have hz:=ada w;have hg0:pW l k = false->fG l k = 0:=fun h0 => UQ l k (UO h0);unfold Instr.lookup;simp only [Sem.run_bind,run_underlying Tryz.underlying54,Result.andThen_ok,MapKept.run_getObj_map h,Sem.run_pure,hc,hk]
 cases h0:pW l k with
 | true => simp [Result.andThen]
 | false => simp [Result.andThen,hz,hg0 h0]
theorem aaf {w:World} {m:Nat} {l:List (Kd × Nat)} (h:sG w m l) (k:Kd):(Instr.mapEntry 54 (.map (some m)) (kV k)).run Tryz.prog w = .ok (.tuple #[.int .i64 (fG l k:Int),.int .i64 (dL l k:Int)]) (FP w m (insL l k)):=by
 have hk:=UL k l w;have hc:=LJ false k w;have hz:=ada w;unfold Instr.mapEntry;simp only [Sem.run_bind,run_underlying Tryz.underlying54,Result.andThen_ok,MapKept.run_getObj_map h,Sem.run_pure,hc,hk]
 cases h0:pW l k with
 | true =>
  obtain ⟨c,h1,h2⟩:=UN l k h0;have hg:=UM l 0 (dL l k);rw [h1] at hg;have e0:((gK 0 l).toArray[dL l k]?) = some ⟨kV k,.int .i64 (c:Int),dL l k⟩:=by simpa using hg
  simp only [if_true,e0,Option.map_some,Option.getD_some,ac_,Sem.run_bind,Result.andThen_ok,MapKept.run_setObj_map _ h,Sem.run_pure];rw [show insL l k = l by unfold insL; rw [h0,if_pos rfl]]
  have hm:(gK 0 l).toArray.modify (dL l k) (fun e => { e with key:=kV k }) = (gK 0 l).toArray:=by
   apply Array.ext';rw [Array.toList_modify];exact UU l 0 _ k c h1
  rw [hm];rfl
 | false =>
  simp only [Bool.false_eq_true,if_false,hz,Result.andThen_ok,Sem.run_bind,MapKept.run_setObj_map _ h,Sem.run_pure];have h1:=UO h0;have h2:fG l k = 0:=UQ l k h1;rw [h1,h2];have h3:=OO l 0 k 0;rw [Nat.zero_add] at h3;unfold FP insL World.putObj;rw [h0,if_neg (by simp),<- h3];simp;rfl
theorem aag {w:World} {m:Nat} {l:List (Kd × Nat)} {k:Kd} (h:sG w m (insL l k)):(Instr.entryStore 54 (.map (some m)) (.int .i64 (dL l k:Int)) (.int .i64 ((fG l k:Int) + 1))).run Tryz.prog w = .ok () (FP w m (uN l k)):=by
 obtain ⟨c,hc⟩:=amG l k;have hlt:dL l k < (insL l k).length:=(List.getElem?_eq_some_iff.1 hc).1;have hf:=find_born (insL l k) 0 (dL l k) hlt;rw [Nat.zero_add] at hf;have hf':(gK 0 (insL l k)).toArray.findIdx? (fun e => ((e.born:Nat):Int) == ((dL l k:Nat):Int)) = some (dL l k):=by simpa using hf
 have hs:=UR (insL l k) 0 (dL l k) k c (fG l k + 1) hc;unfold Instr.entryStore;simp only [Sem.run_bind,MapKept.run_getObj_map h,Result.andThen_ok,asInt,asIntOf,Sem.run_pure,hf',MapKept.run_setObj_map _ h]
 have hm:(gK 0 (insL l k)).toArray.modify (dL l k) (fun e => { e with val:=.int .i64 ((fG l k:Int) + 1) }) = (gK 0 (uN l k)).toArray:=by
  apply Array.ext';rw [Array.toList_modify];exact hs
 rw [hm];unfold FP World.putObj;rw [show (uN l k).length = (insL l k).length by unfold uN; rw [List.length_set]]
end
end Go.Proofs.YtbhikopphamgjaaGreatDoor
