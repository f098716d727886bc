/- Texts of this claim, side by side: AudA, AudB, AudS, AudR. -/
import Derived.Test.YtnkmmaijigihpaaGreatDoorTT22
import Derived.RangeFuncBound
import Derived.Shelf.RegionOpen
import Derived.OwnWalkIn
import Derived.LoopNIn
import Derived.LoopIn
import Derived.Test.YtnkmmaijigihpaaGreatDoorTT8
import Derived.StillTailTactics
set_option linter.unusedVariables false
set_option linter.unusedSimpArgs false
set_option maxRecDepth 100000
set_option maxHeartbeats 8000000
namespace Go.Proofs.YtnkmmaijigihpaaGreatDoor
section
open Go Go.RowKit Go.Deep Go.Shelf Xi
attribute [local go_sem] Oper.semAt_some
def jB (w:World) (k:Nat):Prop:=∃ cs t fr,w.heap[k]? = some (.cells cs t fr)
theorem KZ {w:World} {a:Addr} {v:Value} (h:w.cell? a = some v):jB w a.block:=by
 unfold World.cell? at h;split at h
 . exact ⟨_,_,_,‹_›⟩
 . cases h
def KS (K:List Nat) (w w':World):Prop:=∀ k∈K,∀ cs t fr,w.heap[k]? = some (.cells cs t fr)->w'.heap[k]? = some (.cells cs t fr)
theorem KS.trans {K:List Nat} {A B C:World} (h:KS K A B) (k:KS K B C):KS K A C:=fun i hi cs t fr h0 => k i hi cs t fr (h i hi cs t fr h0)
theorem KS.putObj {K:List Nat} (w:World) (l:Nat) (o o':Obj) (h:w.heap[l]? = some o) (hc:o.isCells = false):KS K w (w.putObj l o'):=fun k hk cs t fr h0 => by
 by_cases e:k = l
 . subst e
   rw [h] at h0;injection h0 with h0;subst h0;simp [Obj.isCells] at hc
 . rw [World.putObj_heap_other e]
   exact h0
theorem KS.aj {K:List Nat} {w w':World} {D:List Nat} (hc:ah w w' D) (hD:∀ k∈K,k∉D):KS K w w':=fun k hk cs t fr h0 => hc.heap h0 (hD k hk)
theorem KS.cell {K:List Nat} {w w':World} (h:KS K w w') {a:Addr} {v:Value} (ha:a.block∈K) (hc:w.cell? a = some v):w'.cell? a = some v:=by
 obtain ⟨cs,t,fr,h1⟩:=KZ hc;have h2:=h _ ha cs t fr h1;unfold World.cell? at hc ⊢;rw [h1] at hc;rw [h2];exact hc
theorem yR {B:Nat} {w w':World} {D:List Nat} (hc:ah w w' D) (hD:∀ k∈D,jB w k):KeepsFrom B w w' :=
 ⟨hc.size,fun i o _ hi ho => by
   refine hc.heap hi (fun hm => ?_);obtain ⟨cs,t,fr,hcs⟩:=hD i hm;rw [hcs] at hi;injection hi with hi;subst hi
   simp [Obj.isCells] at ho⟩
def qJ (w:World) (A:Option Addr) (ds:List bg) (vs:Nat->Value):Prop:=0 < ds.length->∃ b off,A = some ⟨b,off,Option.none⟩/\∀ (k:Nat) (d:bg),ds[k]? = some d->w.cell? ⟨b,off + k * 2,Option.none⟩ = some (.bool d.1)/\w.cell? ⟨b,off + k * 2 + 1,Option.none⟩ = some (vs k)/\(∃ B cb,vs k = .slice B d.2.length cb)/\Sl w (vs k) (bU d.2)
theorem qJ.of {w:World} {A:Option Addr} {ds:List bg} (h:Dq w A ds):∃ vs,qJ w A ds vs:=by
 by_cases h0:0 < ds.length
 . obtain ⟨b,off,rfl,hx⟩:=h h0
   have hp:∀ k:Nat,∃ v:Value,∀ d:bg,ds[k]? = some d->w.cell? ⟨b,off + k * 2,Option.none⟩ = some (.bool d.1)/\w.cell? ⟨b,off + k * 2 + 1,Option.none⟩ = some v/\(∃ B cb,v = .slice B d.2.length cb)/\Sl w v (bU d.2):=fun k => by
    cases hk:ds[k]? with
    | none => exact ⟨undef,fun d hd => by cases hd⟩
    | some d =>
     obtain ⟨B,cb,c1,c2,c3⟩:=hx k d hk;exact ⟨_,fun d' hd => by injection hd with hd; subst hd; exact ⟨c1,c2,⟨B,cb,rfl⟩,c3⟩⟩
   obtain ⟨f,hf⟩:=Classical.axiomOfChoice hp;exact ⟨f,fun _ => ⟨b,off,rfl,fun k d hk => hf k d hk⟩⟩
 . exact ⟨fun _ => undef,fun h => absurd h h0⟩
theorem qJ.keep {w w':World} {A:Option Addr} {ds:List bg} {vs:Nat->Value} (h:qJ w A ds vs) (hc:ah w w' []):qJ w' A ds vs:=fun h0 => by
 obtain ⟨b,off,rfl,hx⟩:=h h0;refine ⟨b,off,rfl,fun k d hk => ?_⟩;obtain ⟨c1,c2,c3,c4⟩:=hx k d hk;exact ⟨hc.cell c1 (by simp),hc.cell c2 (by simp),c3,c4.keep hc⟩
def dP (d:bg):Bool × Nat:=(d.1,if d.1 then d.2.length else 0)
def K_ (f:Bool) (n:Nat):Value:=.agg #[.bool f,.int .i64 ((if f then n else 0:Nat):Int)]
theorem OI {w:World} (f:Bool) (B:Option Addr) (n c:Nat):Calls Tryz.prog 58 #[.agg #[.bool f,.slice B n c]] w fun e w' => e = .returned (K_ f n)/\ah w w' []:=by
 have b0:=(aA.new w 30 [.bool f,.slice B n c]).alloc (.cells #[.bool false,.int .i64 0] 119);have z0:=b0.cell' (i:=0) rfl;have z1:=b0.cell' (i:=1) rfl;have hc:=(ah.refl w []).alloc (.cells #[.bool f,.slice B n c] 30);unfold K_
 cases f with
 | false =>
  go_enter Tryz.func58,Tryz.ntmps58
  go_wp2;refine bodyPost_ret (v:=.agg #[.bool false,.int .i64 0]) (results_cell_row rfl _ _ (w.heap.size + 1) 119 _ (0,0) _ rfl (by have:=aA.new (w.alloc (.cells #[.bool false,.slice B n c] 30)) 119 [.bool false,.int .i64 0]; rwa [size_alloc] at this) Tryz.underlying119 rfl (by kernel_rfl)) rfl ⟨rfl,hc.alloc _⟩
 | true =>
  go_enter Tryz.func58,Tryz.ntmps58
  go_wp2;refine bodyPost_ret (v:=.agg #[.bool true,.int .i64 (n:Int)]) (results_cell_row rfl _ _ (w.heap.size + 1) 119 _ (0,0) _ rfl (by have:=aA.new (w.alloc (.cells #[.bool true,.slice B n c] 30)) 119 [.bool true,.int .i64 (n:Int)]; rwa [size_alloc] at this) Tryz.underlying119 rfl (by kernel_rfl)) rfl ⟨rfl,hc.alloc _⟩
theorem Hz (A:Option Addr) (n c:Nat) (A':Option Addr) (n' c':Nat) (w:World):Calls Tryz.prog 27 #[.slice A n c,.slice A' n' c'] w fun e w' => e = .returned (.func (.func 59) #[] #[.pointer (some ⟨w.heap.size,0,none⟩),.pointer (some ⟨w.heap.size + 1,0,none⟩)])/\w' = (w.alloc (.cells #[.slice A n c] 22)).alloc (.cells #[.slice A' n' c'] 22):=by
 go_enter Tryz.func27,Tryz.ntmps27
 go_wp2;go_ret;exact ⟨rfl,rfl⟩
theorem af6 (f f':Bool) (n n':Int) (w:World):(Op.equalIn 10000 119 (.agg #[.bool f,.int .i64 n]) (.agg #[.bool f',.int .i64 n'])).run Tryz.prog w = .ok (f == f' && n == n') w:=by
 have u3:=Tryz.underlying3;have k3:=Tryz.isAgg3;have z3:=Tryz.sizeOf3;have u4:=Tryz.underlying4;have k4:=Tryz.isAgg4;have z4:=Tryz.sizeOf4;rw [show (10000:Nat) = 9999 + 1 from rfl,Op.equalIn];simp only [Sem.run_bind,run_underlying Tryz.underlying119,Result.andThen_ok];go_simp;by_cases h0:f = f' <;> by_cases h1:n = n' <;> simp [h0,h1]
def aah (ds es:List bg) (vs us:Nat->Value) (x:Fin (min ds.length es.length)):Array Value:=#[.agg #[.bool (ds[x.val]'(by omega)).1,vs x.val],.agg #[.bool (es[x.val]'(by omega)).1,us x.val]]
theorem aoH {m:Nat} (k:Nat) (hk:k < m):(List.finRange m).take (k + 1) = (List.finRange m).take k ++ [⟨k,hk⟩]:=by
 rw [List.take_add_one,List.getElem?_eq_getElem (by simpa using hk),List.getElem_finRange]; rfl
def ana:Value->Bool
 | .bool b => !b
 | _ => false
def zK (l ba oa nd ca bb ob ne cb i:Nat) (X Y:Value) (γ:Value):Nat->Value
 | 0 => .func (.yield l) #[] #[]
 | 1 => .slice (some ⟨ba,oa,none⟩) nd ca
 | 2 => .int .i64 (i:Int)
 | 3 => .pointer (some ⟨ba,oa + i * 2,none⟩)
 | 4 => X
 | 5 => .slice (some ⟨bb,ob,none⟩) ne cb
 | 6 => .int .i64 (i:Int)
 | 7 => .pointer (some ⟨bb,ob + i * 2,none⟩)
 | 8 => Y
 | 9 => γ
 | 10 => .bool (ana γ)
 | _ => undef
theorem aqC (l ba oa nd ca bb ob ne cb i:Nat) (X Y:Value) (γ v:Value):∀ j,j∉([9,10]:List Nat)->zK l ba oa nd ca bb ob ne cb i X Y v j = zK l ba oa nd ca bb ob ne cb i X Y γ j:=fun j hj => by
 match j,hj with
 | 0,_ => rfl
 | 1,_ => rfl
 | 2,_ => rfl
 | 3,_ => rfl
 | 4,_ => rfl
 | 5,_ => rfl
 | 6,_ => rfl
 | 7,_ => rfl
 | 8,_ => rfl
 | 9,hj => exact absurd (by decide) hj
 | 10,hj => exact absurd (by decide) hj
 | _ + 11,_ => rfl
theorem anb (v:Nat->Value) (t0 t1 t2 t3 t4 t5 t6 t7 t8 t9 t10 t11 t12 t13 t14 t15 t16 t17 t18 t19 t20 t21 t22 t23 t24:Value):jH v (some 13 :: some 14 :: some 15 :: some 16 :: some 17 :: some 18 :: some 19 :: some 20 :: some 21 :: some 22 :: some 23 :: []) 0 (t0 :: t1 :: t2 :: t3 :: t4 :: t5 :: t6 :: t7 :: t8 :: t9 :: t10 :: t11 :: t12 :: t13 :: t14 :: t15 :: t16 :: t17 :: t18 :: t19 :: t20 :: t21 :: t22 :: t23 :: t24 :: []) = (t0 :: t1 :: t2 :: t3 :: t4 :: t5 :: t6 :: t7 :: t8 :: t9 :: t10 :: t11 :: t12 :: v 0 :: v 1 :: v 2 :: v 3 :: v 4 :: v 5 :: v 6 :: v 7 :: v 8 :: v 9 :: v 10 :: t24 :: []):=by kernel_rfl
def zL {α:Type} (K:List Nat) (J Jx:List α->World->Prop) (wr:World) (xs:List α) (γ:Value):Bool->World->Prop
 | false,w' => w' = wr.drew
 | true,w' => ∃ bv,γ = .bool bv/\((bv = true/\J xs w'/\KS K wr w')\/(bv = false/\Jx xs w'))
theorem pairs_stops {w:World} (n:Nat) (hn:1<=n) (p0 p1:Nat) {A A':Option Addr} {c c':Nat} {ds es:List bg} {vs us:Nat->Value} (c0:w.cell? ⟨p0,0,none⟩ = some (.slice A ds.length c)) (c1:w.cell? ⟨p1,0,none⟩ = some (.slice A' es.length c')) (h:qJ w A ds vs) (h':qJ w A' es us) (K:List Nat) (k0:p0∈K) (k1:p1∈K) (kA:0 < ds.length->∀ b o,A = some ⟨b,o,none⟩->b∈K) (kB:0 < es.length->∀ b o,A' = some ⟨b,o,none⟩->b∈K) (hl:ds.length<=maxLen) (hl':es.length<=maxLen) :
 SeqStopsK Fence.wide n Tryz.prog 59 #[.pointer (some ⟨p0,0,none⟩),.pointer (some ⟨p1,0,none⟩)] (aah ds es vs us) (KS K) (fun xs => xs = List.finRange (min ds.length es.length)) (fun _ => True) (min ds.length es.length) w:=by
 intro l J Jx W hW hJ hJx hY h0;have dI:Tryz.prog.follows .mixedOrders = true:=by kernel_rfl
 have d0:=(hW.cell (p:=⟨p0,0,none⟩) (World.block_lt_of_cell? w _ c0)).trans c0;have d1:=(hW.cell (p:=⟨p1,0,none⟩) (World.block_lt_of_cell? w _ c1)).trans c1;unfold maxLen at hl hl';obtain ⟨m,hm⟩:∃ m,min ds.length es.length = m:=⟨_,rfl⟩
 have hmin:(if (es.length:Int) < (ds.length:Int) then (es.length:Int) else (ds.length:Int)) = (m:Int):=by
  split <;> omega
 have HH:=hide h;have HH':=hide h';have HWB:=hide hW;refine callsIn_of_wp Tryz.func59 rfl trivial ?_ rfl;simp only [Tryz.ntmps59,List.size_toArray,List.length_cons,List.length_nil,Nat.reduceAdd,Nat.reduceSub,Array.replicate_succ,Array.replicate_zero,List.push_toArray,List.append_toArray,List.nil_append,List.cons_append];clear c0 c1 h h' hW
 gi_wp2_with fail
 gi_loopw [4,10] (fun _ v wr => ∃ i:Nat,v = .int .i64 (i:Int)/\i<=m/\J ((List.finRange (min ds.length es.length)).take i) wr/\Hid (KS K W wr)) (fun _ v _ => m - (intOf v).toNat)
 case atStart => exact ⟨0,rfl,by omega,h0,hide (fun k hk cs t fr h => h)⟩
 case round =>
  clear h0;obtain ⟨i,rfl,hi,hj,HK⟩:=hrel;by_cases hlt:i < m
  . have hx:i < min ds.length es.length:=by omega
    obtain ⟨ba,oa,rfl,hxA⟩:=HH.out (by omega);obtain ⟨bb,ob,rfl,hxB⟩:=HH'.out (by omega);obtain ⟨qa0,qa1,⟨Ba,ca',ea⟩,_⟩:=hxA i (ds[i]'(by omega)) (by simp);obtain ⟨qb0,qb1,⟨Bb,cb',eb⟩,_⟩:=hxB i (es[i]'(by omega)) (by simp);have cW:∀ (a:Addr) (v:Value),a.block∈K->w.cell? a = some v->wr.cell? a = some v:=fun a v ha hc => HK.out.cell ha ((HWB.out.cell (p:=a) (World.block_lt_of_cell? w _ hc)).trans hc);replace qa0:=cW _ _ (kA (by omega) _ _ rfl) qa0;replace qa1:=cW _ _ (kA (by omega) _ _ rfl) qa1;replace qb0:=cW _ _ (kB (by omega) _ _ rfl) qb0;replace qb1:=cW _ _ (kB (by omega) _ _ rfl) qb1;have e0:wr.cell? ⟨p0,0,none⟩ = _:=HK.out.cell k0 d0;have e1:wr.cell? ⟨p1,0,none⟩ = _:=HK.out.cell k1 d1;have hjd:J ((List.finRange (min ds.length es.length)).take i) wr.drew:=hJ _ _ _ none hj (⟨rfl,rfl,rfl,Nat.le_refl _,fun _ _ _ => rfl⟩) (fun r e => by cases e);obtain ⟨fn,tmps,assign,body,hy,hR⟩:=hY _ (⟨i,hx⟩:Fin (min ds.length es.length)) wr.drew hjd (by simp; omega);rw [<- aoH i hx] at hR;unfold aah at hy;simp only at hy;rw [ea] at hy qa1;rw [eb] at hy qb1;have HR:=hide hR;have HKW:=HK;clear hY hR HK cW
    gi_wp2_with fail
    refine yQ (F:=Fence.wide) (fun _ => trivial) dI _ _ (fun γ => zK l ba oa ds.length c bb ob es.length c' i (.agg #[.bool (ds[i]'(by omega)).1,.slice Ba (ds[i]'(by omega)).2.length ca']) (.agg #[.bool (es[i]'(by omega)).1,.slice Bb (es[i]'(by omega)).2.length cb']) γ) (fun (γ:Value) L w' => zL K J Jx wr ((List.finRange (min ds.length es.length)).take (i + 1)) γ (L 9) w') (.bool false) (by kernel_rfl) [] (by kernel_rfl) (fun p hp γ => by simp at hp) (by kernel_rfl) ?step ?start ?fin ?ext
    case start => rfl
    case ext =>
     intro γ L L' w' h hw;have hw':zL K J Jx wr ((List.finRange (min ds.length es.length)).take (i + 1)) γ (L 9) w':=hw;rw [h 9 (by decide)] at hw';exact hw'
    case step =>
     intro i_ o_ ho_ L av w1 γ hdn ak hW hL hpre K' Q' hK;have hW:zL K J Jx wr ((List.finRange (min ds.length es.length)).take (i + 1)) γ (L 9) w1:=hW
     match i_,ho_ with
     | 0,ho =>
      injection ho with ho; subst ho;have b0:av.tmps.getD 0 undef = .func (.yield l) #[] #[]:=dH ak 0 (by kernel_rfl);clear ak
      have hW1:w1 = wr.drew:=by
       have h9:L 9 = false:=by cases h:L 9 with | false => rfl | true => (have hx:L 0 = true:=(hdn 9 _ rfl h ⟨0,.data⟩ (by simp) rfl); rw [hL] at hx; cases hx)
       have hW':=hW;rw [h9] at hW';exact hW'
      refine f_ (v:=.func (.yield l) #[] #[]) (w':=w1) ?_ (hK γ w1 (fun _ _ => rfl) (show zL K J Jx wr ((List.finRange (min ds.length es.length)).take (i + 1)) _ (if (9:Nat) = 0 then true else L 9) _ from by rw [if_neg (by decide)]; exact hW));subst hW1;go_simp
      try (first | rfl | (intro hh; omega))
     | 1,ho =>
      injection ho with ho; subst ho;have b1:av.tmps.getD 1 undef = .pointer (some ⟨p0,0,none⟩):=dH ak 1 (by kernel_rfl);clear ak
      have hW1:w1 = wr.drew:=by
       have h9:L 9 = false:=by cases h:L 9 with | false => rfl | true => (have hx:L 1 = true:=(hdn 3 _ rfl (hdn 4 _ rfl (hdn 9 _ rfl h ⟨4,.data⟩ (by simp) rfl) ⟨3,.data⟩ (by simp) rfl) ⟨1,.data⟩ (by simp) rfl); rw [hL] at hx; cases hx)
       have hW':=hW;rw [h9] at hW';exact hW'
      refine f_ (v:=.slice (some ⟨ba,oa,none⟩) ds.length c) (w':=w1) ?_ (hK γ w1 (fun _ _ => rfl) (show zL K J Jx wr ((List.finRange (min ds.length es.length)).take (i + 1)) _ (if (9:Nat) = 1 then true else L 9) _ from by rw [if_neg (by decide)]; exact hW));subst hW1;go_simp
      try (first | rfl | (intro hh; omega))
     | 2,ho =>
      injection ho with ho; subst ho;have b4:av.tmps.getD 4 undef = .int .i64 (i:Int):=dH ak 4 (by kernel_rfl);clear ak
      have hW1:w1 = wr.drew:=by
       have h9:L 9 = false:=by cases h:L 9 with | false => rfl | true => (have hx:L 2 = true:=(hdn 3 _ rfl (hdn 4 _ rfl (hdn 9 _ rfl h ⟨4,.data⟩ (by simp) rfl) ⟨3,.data⟩ (by simp) rfl) ⟨2,.data⟩ (by simp) rfl); rw [hL] at hx; cases hx)
       have hW':=hW;rw [h9] at hW';exact hW'
      refine f_ (v:=.int .i64 (i:Int)) (w':=w1) ?_ (hK γ w1 (fun _ _ => rfl) (show zL K J Jx wr ((List.finRange (min ds.length es.length)).take (i + 1)) _ (if (9:Nat) = 2 then true else L 9) _ from by rw [if_neg (by decide)]; exact hW));subst hW1;go_simp
      try (first | rfl | (intro hh; omega))
     | 3,ho =>
      injection ho with ho; subst ho;have s1:=aF ak 14 1 (by kernel_rfl) (hpre ⟨1,.data⟩ (by simp) rfl);simp only [zK] at s1;have s2:=aF ak 15 2 (by kernel_rfl) (hpre ⟨2,.data⟩ (by simp) rfl);simp only [zK] at s2;clear ak
      have hW1:w1 = wr.drew:=by
       have h9:L 9 = false:=by cases h:L 9 with | false => rfl | true => (have hx:L 3 = true:=(hdn 4 _ rfl (hdn 9 _ rfl h ⟨4,.data⟩ (by simp) rfl) ⟨3,.data⟩ (by simp) rfl); rw [hL] at hx; cases hx)
       have hW':=hW;rw [h9] at hW';exact hW'
      refine f_ (v:=.pointer (some ⟨ba,oa + i * 2,none⟩)) (w':=w1) ?_ (hK γ w1 (fun _ _ => rfl) (show zL K J Jx wr ((List.finRange (min ds.length es.length)).take (i + 1)) _ (if (9:Nat) = 3 then true else L 9) _ from by rw [if_neg (by decide)]; exact hW));subst hW1;go_simp
      try (first | rfl | (intro hh; omega))
     | 4,ho =>
      injection ho with ho; subst ho;have s3:=aF ak 16 3 (by kernel_rfl) (hpre ⟨3,.data⟩ (by simp) rfl);simp only [zK] at s3;clear ak
      have hW1:w1 = wr.drew:=by
       have h9:L 9 = false:=by cases h:L 9 with | false => rfl | true => (have hx:L 4 = true:=(hdn 9 _ rfl h ⟨4,.data⟩ (by simp) rfl); rw [hL] at hx; cases hx)
       have hW':=hW;rw [h9] at hW';exact hW'
      refine f_ (v:=(.agg #[.bool (ds[i]'(by omega)).1,.slice Ba (ds[i]'(by omega)).2.length ca'])) (w':=w1) ?_ (hK γ w1 (fun _ _ => rfl) (show zL K J Jx wr ((List.finRange (min ds.length es.length)).take (i + 1)) _ (if (9:Nat) = 4 then true else L 9) _ from by rw [if_neg (by decide)]; exact hW));subst hW1;go_simp
      try (first | rfl | (intro hh; omega))
     | 5,ho =>
      injection ho with ho; subst ho;have b2:av.tmps.getD 2 undef = .pointer (some ⟨p1,0,none⟩):=dH ak 2 (by kernel_rfl);clear ak
      have hW1:w1 = wr.drew:=by
       have h9:L 9 = false:=by cases h:L 9 with | false => rfl | true => (have hx:L 5 = true:=(hdn 7 _ rfl (hdn 8 _ rfl (hdn 9 _ rfl h ⟨8,.data⟩ (by simp) rfl) ⟨7,.data⟩ (by simp) rfl) ⟨5,.data⟩ (by simp) rfl); rw [hL] at hx; cases hx)
       have hW':=hW;rw [h9] at hW';exact hW'
      refine f_ (v:=.slice (some ⟨bb,ob,none⟩) es.length c') (w':=w1) ?_ (hK γ w1 (fun _ _ => rfl) (show zL K J Jx wr ((List.finRange (min ds.length es.length)).take (i + 1)) _ (if (9:Nat) = 5 then true else L 9) _ from by rw [if_neg (by decide)]; exact hW));subst hW1;go_simp
      try (first | rfl | (intro hh; omega))
     | 6,ho =>
      injection ho with ho; subst ho;have b4:av.tmps.getD 4 undef = .int .i64 (i:Int):=dH ak 4 (by kernel_rfl);clear ak
      have hW1:w1 = wr.drew:=by
       have h9:L 9 = false:=by cases h:L 9 with | false => rfl | true => (have hx:L 6 = true:=(hdn 7 _ rfl (hdn 8 _ rfl (hdn 9 _ rfl h ⟨8,.data⟩ (by simp) rfl) ⟨7,.data⟩ (by simp) rfl) ⟨6,.data⟩ (by simp) rfl); rw [hL] at hx; cases hx)
       have hW':=hW;rw [h9] at hW';exact hW'
      refine f_ (v:=.int .i64 (i:Int)) (w':=w1) ?_ (hK γ w1 (fun _ _ => rfl) (show zL K J Jx wr ((List.finRange (min ds.length es.length)).take (i + 1)) _ (if (9:Nat) = 6 then true else L 9) _ from by rw [if_neg (by decide)]; exact hW));subst hW1;go_simp
      try (first | rfl | (intro hh; omega))
     | 7,ho =>
      injection ho with ho; subst ho;have s5:=aF ak 18 5 (by kernel_rfl) (hpre ⟨5,.data⟩ (by simp) rfl);simp only [zK] at s5;have s6:=aF ak 19 6 (by kernel_rfl) (hpre ⟨6,.data⟩ (by simp) rfl);simp only [zK] at s6;clear ak
      have hW1:w1 = wr.drew:=by
       have h9:L 9 = false:=by cases h:L 9 with | false => rfl | true => (have hx:L 7 = true:=(hdn 8 _ rfl (hdn 9 _ rfl h ⟨8,.data⟩ (by simp) rfl) ⟨7,.data⟩ (by simp) rfl); rw [hL] at hx; cases hx)
       have hW':=hW;rw [h9] at hW';exact hW'
      refine f_ (v:=.pointer (some ⟨bb,ob + i * 2,none⟩)) (w':=w1) ?_ (hK γ w1 (fun _ _ => rfl) (show zL K J Jx wr ((List.finRange (min ds.length es.length)).take (i + 1)) _ (if (9:Nat) = 7 then true else L 9) _ from by rw [if_neg (by decide)]; exact hW));subst hW1;go_simp
      try (first | rfl | (intro hh; omega))
     | 8,ho =>
      injection ho with ho; subst ho;have s7:=aF ak 20 7 (by kernel_rfl) (hpre ⟨7,.data⟩ (by simp) rfl);simp only [zK] at s7;clear ak
      have hW1:w1 = wr.drew:=by
       have h9:L 9 = false:=by cases h:L 9 with | false => rfl | true => (have hx:L 8 = true:=(hdn 9 _ rfl h ⟨8,.data⟩ (by simp) rfl); rw [hL] at hx; cases hx)
       have hW':=hW;rw [h9] at hW';exact hW'
      refine f_ (v:=(.agg #[.bool (es[i]'(by omega)).1,.slice Bb (es[i]'(by omega)).2.length cb'])) (w':=w1) ?_ (hK γ w1 (fun _ _ => rfl) (show zL K J Jx wr ((List.finRange (min ds.length es.length)).take (i + 1)) _ (if (9:Nat) = 8 then true else L 9) _ from by rw [if_neg (by decide)]; exact hW));subst hW1;go_simp
      try (first | rfl | (intro hh; omega))
     | 9,ho =>
      injection ho with ho; subst ho;have s0:=aF ak 13 0 (by kernel_rfl) (hpre ⟨0,.data⟩ (by simp) rfl);simp only [zK] at s0;have s4:=aF ak 17 4 (by kernel_rfl) (hpre ⟨4,.data⟩ (by simp) rfl);simp only [zK] at s4;have s8:=aF ak 21 8 (by kernel_rfl) (hpre ⟨8,.data⟩ (by simp) rfl);simp only [zK] at s8;clear ak
      have hW1:w1 = wr.drew:=by
       have hW':=hW;rw [hL] at hW';exact hW'
      subst hW1;refine aag ?_ HR.out ?_
      . go_simp
      . rintro e w2 he2
        have hdf:∀ (bv:Bool),(bv = true/\J ((List.finRange (min ds.length es.length)).take (i + 1)) w2/\KS K wr w2)\/(bv = false/\Jx ((List.finRange (min ds.length es.length)).take (i + 1)) w2)->K' (av.put (some 22) (.bool bv)) w2:=fun bv hb =>
         hK (.bool bv) w2 (fun j hj => aqC _ _ _ _ _ _ _ _ _ _ _ _ _ _ j (by
          intro hm;simp only [List.mem_cons,List.not_mem_nil,or_false] at hm;rcases hm with rfl | rfl
          . rw [hL] at hj; cases hj
          . have h9:=hdn 10 _ rfl hj ⟨9,.data⟩ (by simp) rfl
            replace h9:L 9 = true:=h9
            rw [hL] at h9; cases h9)) (show zL K J Jx wr ((List.finRange (min ds.length es.length)).take (i + 1)) (.bool bv) (if (9:Nat) = 9 then true else L 9) w2 from by rw [if_pos rfl]; exact ⟨bv,rfl,hb⟩)
        rcases he2 with ⟨rfl,h1,h2⟩ | ⟨rfl,h1⟩
        . exact ⟨_,rfl,hdf true (.inl ⟨rfl,h1,h2⟩)⟩
        . exact ⟨_,rfl,hdf false (.inr ⟨rfl,h1⟩)⟩
     | 10,ho =>
      injection ho with ho; subst ho;have s9:=aF ak 22 9 (by kernel_rfl) (hpre ⟨9,.data⟩ (by simp) rfl);simp only [zK] at s9;clear ak;have l9:=hpre ⟨9,.data⟩ (by simp) rfl;have hW':=hW;rw [l9] at hW';obtain ⟨bv,rfl,_⟩:∃ bv,γ = .bool bv/\_:=hW';refine f_ (v:=.bool (!bv)) (w':=w1) ?_ (hK (.bool bv) w1 (fun _ _ => rfl) (show zL K J Jx wr ((List.finRange (min ds.length es.length)).take (i + 1)) _ (if (9:Nat) = 10 then true else L 9) _ from by rw [if_neg (by decide)]; exact hW));go_simp
     | _ + 11,ho => cases ho
    case fin =>
     intro γ w2 hW;obtain ⟨bv,rfl,hbv⟩:∃ bv,γ = .bool bv/\((bv = true/\J ((List.finRange (min ds.length es.length)).take (i + 1)) w2/\KS K wr w2)\/(bv = false/\Jx ((List.finRange (min ds.length es.length)).take (i + 1)) w2)):=hW;rw [fK,dM,eP];simp only [List.map_cons,List.map_nil];rw [anb];simp only [zK,ana];rcases hbv with ⟨rfl,hj2,hk2⟩ | ⟨rfl,hjx⟩
     . gi_wp2
       go_roundw
       case rel => exact ⟨i + 1,by simp,by omega,hj2,hide (HKW.out.trans hk2)⟩
       case measure => simp [intOf]; omega
     . gi_wp2
       refine bodyPost_ret (results_none rfl _ _ _) rfl ?_;exact ⟨⟨_,rfl⟩,.inr ⟨_,trivial,hjx⟩⟩
  . obtain rfl:i = m:=by omega
    gi_wp2
    refine bodyPost_end (results_none rfl _ _ _) rfl ?_;refine ⟨⟨_,rfl⟩,.inl ⟨_,rfl,?_⟩⟩;have e:(List.finRange (min ds.length es.length)).take i = List.finRange (min ds.length es.length):=List.take_of_length_le (by simp; omega);rw [e] at hj;exact hj
end

section
open Go Go.RowKit Go.Deep Go.Shelf Xi
attribute [local go_sem] Oper.semAt_some
def lg (ds es:List bg):Bool:=decide (ds.map dP = es.map dP)
def UY (ds es:List bg) (k:Nat):Prop:=∀ d e,ds[k]? = some d->es[k]? = some e->dP d = dP e
theorem UZ {ds es:List bg} {k:Nat} {d e:bg} (hd:ds[k]? = some d) (he:es[k]? = some e) (h:dP d≠dP e):lg ds es = false:=decide_eq_false fun hm => h (by
 have h1:(ds.map dP)[k]? = some (dP d):=by rw [List.getElem?_map,hd]; rfl
 rw [hm,List.getElem?_map,he] at h1
 exact (Option.some.inj h1).symm)
theorem OJ {ds es:List bg} (h:∀ k,k < min ds.length es.length->UY ds es k):lg ds es = decide (ds.length = es.length):=by
 unfold lg;congr 1;refine propext ⟨fun hm => by simpa using congrArg List.length hm,fun hl => List.ext_getElem? fun k => ?_⟩;rw [List.getElem?_map,List.getElem?_map];by_cases hk:k < ds.length
 . have h1:ds[k]? = some (ds[k]):=by simp
   have h2:es[k]? = some (es[k]'(by omega)):=by simp
   rw [h1,h2];exact congrArg some (h k (by omega) _ _ h1 h2)
 . rw [List.getElem?_eq_none (by omega),List.getElem?_eq_none (by omega)]
theorem kind_eq (d e:bg):(d.1 == e.1 && ((if d.1 then d.2.length else 0:Nat):Int) == ((if e.1 then e.2.length else 0:Nat):Int)) = decide (dP d = dP e):=by
 unfold dP;rw [Bool.eq_iff_iff];simp only [Bool.and_eq_true,beq_iff_eq,decide_eq_true_eq,Prod.mk.injEq];exact and_congr_right fun _ => Int.ofNat_inj
theorem uD {β:Type} (b:Nat) (t:TypeId) (f:β->List Value):Own (fun s W => aA W b t (f s)):=fun s A B row hs hg hr =>
 (hg.block _ (lt_of_heap hs) (fun e => by
   obtain ⟨o,ho,hc⟩:=hr b e.symm;rw [show A.heap[b]? = _ from hs] at ho;cases ho
   simp [Obj.isCells] at hc)).trans hs
theorem vW {B:Nat} {w w':World} (hc:ah w w' []):KeepsFrom B w w':=⟨hc.size,fun i o _ hi _ => hc.heap hi (by simp)⟩
theorem XK {β:Type} {w:World} {B:Nat} (hB:w.heap.size<=B):OwnFrom B (fun (_:β) W => ah w W []):=fun s X Y row hs hg hr => hs.trans (ah.dA (D:=row.toList) hg (fun k hk => .inl (by simp [hk]))) (fun k hk => .inr (by have:=(hr k (by simpa using hk)).1; omega))
def XL (f:Bool) (B:Option Addr) (n c:Nat) (f':Bool) (B':Option Addr) (n' c':Nat) (_:Unit):Nat->Value
 | 0 => .agg #[.bool f,.slice B n c]
 | 1 => K_ f n
 | 2 => .agg #[.bool f',.slice B' n' c']
 | 3 => K_ f' n'
 | 4 => (.bool (!(f == f' && ((if f then n else 0:Nat):Int) == ((if f' then n' else 0:Nat):Int))))
 | _ => undef
theorem ane (v:Nat->Value) (t0 t1 t2 t3 t4 t5 t6 t7 t8 t9 t10 t11 t12 t13 t14 t15 t16 t17 t18 t19 t20 t21:Value):jH v (some 12 :: some 13 :: some 14 :: some 15 :: some 16 :: []) 0 (t0 :: t1 :: t2 :: t3 :: t4 :: t5 :: t6 :: t7 :: t8 :: t9 :: t10 :: t11 :: t12 :: t13 :: t14 :: t15 :: t16 :: t17 :: t18 :: t19 :: t20 :: t21 :: []) = (t0 :: t1 :: t2 :: t3 :: t4 :: t5 :: t6 :: t7 :: t8 :: t9 :: t10 :: t11 :: v 0 :: v 1 :: v 2 :: v 3 :: v 4 :: t17 :: t18 :: t19 :: t20 :: t21 :: []):=by kernel_rfl
theorem H6 {w W:World} {D:Nat} {b:Bool} {ts:Array Value} {R:Ending->World->Prop} (ht:ts.getD 4 undef = .pointer (some ⟨w.heap.size,0,none⟩)) (hc:ah w W []) (hD:w.heap.size < D) (hb:aA W w.heap.size 4 [.bool b]) (hK:W.heap[D]? = some (.deferred (some []))) (hR:∀ w',ah w w' []->R (.returned (.bool b)) w') :
 bodyPostM Fence.wide 6 Tryz.prog Tryz.f26 R .ret { tmps:=ts,defers:=[{ target:=.collected D,args:=#[] }] } W:=by
 have hp:aA (W.putObj D (.deferred none)) w.heap.size 4 [.bool b]:=(World.putObj_heap_other (by omega)).trans hb;have y0:=hp.cell' (i:=0) rfl;refine ⟨by simp,.inl ⟨_,_,rfl,run_takeDeferred hK,?_⟩⟩;refine ⟨.bool b,?_,hR _ (hc.trans (ah.dA (D:=[D]) (grownBy_putObj' _ D (.deferred none)) (fun k e => by cases e; exact .inl (by simp))) (fun k hk => .inr (by simp at hk; omega)))⟩;simp only [Array.getD_eq_getD_getElem?] at ht;simp [results,Tryz.f26,go_sem,y0,ht]
theorem VY {w:World} {A A':Option Addr} {c c':Nat} {ds es:List bg} {vs us:Nat->Value} (h:qJ w A ds vs) (h':qJ w A' es us) (hl:ds.length<=maxLen) (hl':es.length<=maxLen) :
 Calls Tryz.prog 26 #[.slice A ds.length c,.slice A' es.length c'] w fun e w' => e = .returned (.bool (lg ds es))/\ah w w' []:=by
 have dI:Tryz.prog.follows .mixedOrders = true:=by kernel_rfl
 refine (callsIn_wide (n:=6)).1 ?_;refine callsIn_of_wp_marks Tryz.func26 rfl trivial ?_ rfl;simp only [Tryz.ntmps26,List.size_toArray,List.length_cons,List.length_nil,Nat.reduceAdd,Nat.reduceSub,Array.replicate_succ,Array.replicate_zero,List.push_toArray,List.append_toArray,List.nil_append,List.cons_append]
 gi_wp2_with fail
 refine ⟨trivial,?_⟩;refine (callsIn_wide.2 (Hz _ _ _ _ _ _ _)).mono ?_;rintro e w1 ⟨rfl,hw1⟩;have b0:=((aA.new w 4 [.bool false]).alloc (.cells #[.slice A ds.length c] 22)).alloc (.cells #[.slice A' es.length c'] 22);have b1:=(aA.new (w.alloc (.cells #[.bool false] 4)) 22 [.slice A ds.length c]).alloc (.cells #[.slice A' es.length c'] 22);have b2:=aA.new ((w.alloc (.cells #[.bool false] 4)).alloc (.cells #[.slice A ds.length c] 22)) 22 [.slice A' es.length c'];have hcw:=(((ah.refl w []).alloc (.cells #[.bool false] 4)).alloc (.cells #[.slice A ds.length c] 22)).alloc (.cells #[.slice A' es.length c'] 22);have af7:w1 = ((w.alloc (.cells #[.bool false] 4)).alloc (.cells #[.slice A ds.length c] 22)).alloc (.cells #[.slice A' es.length c'] 22):=hw1;rw [<- af7] at b0 b1 b2 hcw;have hsz:w1.heap.size = w.heap.size + 3:=by rw [af7]; simp
 clear hw1 af7;simp only [size_alloc] at b1 b2
 gi_wp2_with fail
 refine wpIn_rangeFunc_ownH rfl (by decide) (gf:=59) (lb:=#[.pointer (some ⟨w.heap.size + 1,0,none⟩),.pointer (some ⟨w.heap.size + 1 + 1,0,none⟩)]) rfl trivial (enters_of Tryz.func59 (by kernel_rfl) rfl)
  (pairs_stops (6 - 1) (by decide) (w.heap.size + 1) (w.heap.size + 1 + 1) (b1.cell' (i:=0) rfl) (b2.cell' (i:=0) rfl) (h.keep hcw) (h'.keep hcw) (List.range w1.heap.size) (by simp; omega) (by simp; omega) ?kA ?kB hl hl') KS.trans (fun W l o o' hl h0 hc hw => KS.putObj W l o o' h0 hc) (Below.refl _ _) (fun _ => rfl)
  (fun pre W => (∀ y∈pre,UY ds es y.val)/\aA W w.heap.size 4 [.bool false]/\ah w W [])
  (fun c pre W => (c = .ret/\lg ds es = false)/\aA W w.heap.size 4 [.bool false]/\ah w W [])
  (OwnFrom.and (fun s X Y row hs hg hr => hs) (OwnFrom.and ((uD _ _ (fun _ => _)).from _) (XK (by omega))))
  (fun c => OwnFrom.and (fun s X Y row hs hg hr => hs) (OwnFrom.and ((uD _ _ (fun _ => _)).from _) (XK (by omega))))
  ⟨by simp,b0,hcw⟩
  (fun x a' W => ∃ B1 B2,w.heap.size < B1/\w.heap.size < B2/\aA W B1 30 [.bool (ds[x.val]'(by omega)).1,vs x.val]/\aA W B2 30 [.bool (es[x.val]'(by omega)).1,us x.val]/\a' = { tmps:=#[.slice A ds.length c,.slice A' es.length c',undef,undef,.pointer (some ⟨w.heap.size,0,none⟩),.pointer (some ⟨B1,0,none⟩),.pointer (some ⟨B2,0,none⟩),.slice A ds.length c,.slice A' es.length c',.func (.func 59) #[] #[.pointer (some ⟨w.heap.size + 1,0,none⟩),.pointer (some ⟨w.heap.size + 1 + 1,0,none⟩)],(.agg #[.bool (ds[x.val]'(by omega)).1,vs x.val]),(.agg #[.bool (es[x.val]'(by omega)).1,us x.val]),undef,undef,undef,undef,undef,undef,undef,undef,undef,undef],defers:=[] })
  (fun x a' _ X Y row hs hg hr => by
    obtain ⟨B1,B2,h1,h2,h3,h4,h5⟩:=hs
    exact ⟨B1,B2,h1,h2,uD B1 _ (fun (_:Unit) => _) () X Y row h3 hg (fun r e => (hr r e).2),uD B2 _ (fun (_:Unit) => _) () X Y row h4 hg (fun r e => (hr r e).2),h5⟩)
  ?assign ?body ?done ?stop
 case kA =>
  rintro h0 b o rfl;obtain ⟨b',o',e,hx⟩:=h h0;injection e with e; injection e with e1 e2;subst e1;have:=World.block_lt_of_cell? w _ (hx 0 (ds[0]'h0) (by simp)).1;simp only at this;exact List.mem_range.2 (by omega)
 case kB =>
  rintro h0 b o rfl;obtain ⟨b',o',e,hx⟩:=h' h0;injection e with e; injection e with e1 e2;subst e1;have:=World.block_lt_of_cell? w _ (hx 0 (es[0]'h0) (by simp)).1;simp only at this;exact List.mem_range.2 (by omega)
 case assign =>
  rintro l pre x W K ⟨hp,hb,hc⟩ hK;have hxl:=x.isLt;have hxd:x.val < ds.length:=by omega
  have hxe:x.val < es.length:=by omega
  have hs:=hc.size;obtain ⟨bA,oA,rfl,hxA⟩:=h (by omega);obtain ⟨bE,oE,rfl,hxE⟩:=h' (by omega);obtain ⟨_,_,⟨B,n,ev⟩,_⟩:=hxA x.val (ds[x.val]'hxd) (List.getElem?_eq_getElem hxd);obtain ⟨_,_,⟨B',n',ev'⟩,_⟩:=hxE x.val (es[x.val]'hxe) (List.getElem?_eq_getElem hxe);unfold aah;simp only [ev,ev'] at hK ⊢;clear hxA hxE
  gi_wp2
  have z1:=(aA.new W 30 [.bool (ds[x.val]'hxd).1,(.slice B (ds[x.val]'hxd).2.length n)]).alloc (.cells #[.bool (es[x.val]'hxe).1,(.slice B' (es[x.val]'hxe).2.length n')] 30);have z2:=aA.new (W.alloc (.cells #[.bool (ds[x.val]'hxd).1,(.slice B (ds[x.val]'hxd).2.length n)] 30)) 30 [.bool (es[x.val]'hxe).1,(.slice B' (es[x.val]'hxe).2.length n')];have hcn:=((ah.refl W []).alloc (.cells #[.bool (ds[x.val]'hxd).1,(.slice B (ds[x.val]'hxd).2.length n)] 30)).alloc (.cells #[.bool (es[x.val]'hxe).1,(.slice B' (es[x.val]'hxe).2.length n')] 30);simp only [size_alloc] at z2;refine hK _ _ (vW hcn) (KS.aj hcn (by simp)) ⟨hp,hb.aj hcn (by simp),hc.trans hcn (by simp)⟩ ⟨W.heap.size,W.heap.size + 1,hb.lt,by omega,z1,z2,rfl⟩
 case body =>
  rintro l pre x a' W hl ⟨r,hr⟩ ⟨hp,hb,hc⟩ ⟨B1,B2,h1,h2,x1,x2,rfl⟩ hlt;have hxl:=x.isLt;have hxd:x.val < ds.length:=by omega
  have hxe:x.val < es.length:=by omega
  have hx0:0 < ds.length:=by have:=x.isLt; omega
  have hx0':0 < es.length:=by have:=x.isLt; omega
  obtain ⟨bA,oA,rfl,hxA⟩:=h hx0;obtain ⟨bE,oE,rfl,hxE⟩:=h' hx0';obtain ⟨_,_,⟨B,n,ev⟩,_⟩:=hxA x.val (ds[x.val]'hxd) (by simp);obtain ⟨_,_,⟨B',n',ev'⟩,_⟩:=hxE x.val (es[x.val]'hxe) (by simp);have hke:=kind_eq (ds[x.val]'hxd) (es[x.val]'hxe);rw [ev] at x1 ⊢;rw [ev'] at x2 ⊢;have hno:=fun hk:dP (ds[x.val]'hxd)≠dP (es[x.val]'hxe) => UZ (ds:=ds) (es:=es) (k:=x.val) (d:=ds[x.val]'hxd) (e:=es[x.val]'hxe) (List.getElem?_eq_getElem hxd) (List.getElem?_eq_getElem hxe) hk
  have hyes:dP (ds[x.val]'hxd) = dP (es[x.val]'hxe)->UY ds es x.val:=fun hk d e hd he => by
   rw [List.getElem?_eq_getElem hxd] at hd;rw [List.getElem?_eq_getElem hxe] at he;injection hd with hd; injection he with he;subst hd; subst he;exact hk
  generalize ds[x.val]'hxd = dd at *;generalize es[x.val]'hxe = ee at *;obtain ⟨f,dl⟩:=dd;obtain ⟨f',el⟩:=ee;simp only at x1 x2 hke ⊢;have X1:=hide x1;have X2:=hide x2;have HB:=hide hb;have HC:=hide hc;clear hxA hxE h h' ev ev' x1 x2 hb hc b0 b1 b2
  gi_wp2_with fail
  refine yQ (F:=Fence.wide.inRound l) (fun _ => trivial) dI _ _ (fun (_:Unit) => XL f B dl.length n f' B' el.length n' ()) (fun (_:Unit) L w' => ah W w' []) () (by kernel_rfl) [] (by kernel_rfl) (fun p hp γ => by simp at hp) (by kernel_rfl) ?step ?start ?fin ?ext
  case start => exact (ah.refl W []).drew
  case ext => exact fun γ L L' w' h hw => hw
  case step =>
   intro i_ o_ ho_ L av w1 γ hdn ak hW hL hpre K' Q' hK;have hW:ah W w1 []:=hW
   match i_,ho_ with
    | 0,ho =>
     injection ho with ho; subst ho;have b5:av.tmps.getD 5 undef = .pointer (some ⟨B1,0,none⟩):=dH ak 5 (by kernel_rfl);clear ak;have hbb:=X1.out.aj hW (by simp);have y0:=hbb.cell' (i:=0) rfl;have y1:=hbb.cell' (i:=1) rfl;refine qj (v:=.agg #[.bool f,.slice B dl.length n]) (w':=w1) (fun _ h => by cases h) ?_ (hK () w1 (fun _ _ => rfl) hW);go_simp
    | 1,ho =>
     injection ho with ho; subst ho;have s0:=aF ak 12 0 (by kernel_rfl) (hpre ⟨0,.data⟩ (by simp) rfl);simp only [XL] at s0;clear ak;refine Bq (fun _ h => by cases h) ?_ (OI f B dl.length n) ?_
     . go_simp
     rintro e w2 ⟨rfl,hc2⟩;exact ⟨_,rfl,hK () w2 (fun _ _ => rfl) (hW.trans hc2 (by simp))⟩
    | 2,ho =>
     injection ho with ho; subst ho;have b6:av.tmps.getD 6 undef = .pointer (some ⟨B2,0,none⟩):=dH ak 6 (by kernel_rfl);clear ak;have hbb:=X2.out.aj hW (by simp);have y0:=hbb.cell' (i:=0) rfl;have y1:=hbb.cell' (i:=1) rfl;refine qj (v:=.agg #[.bool f',.slice B' el.length n']) (w':=w1) (fun _ h => by cases h) ?_ (hK () w1 (fun _ _ => rfl) hW);go_simp
    | 3,ho =>
     injection ho with ho; subst ho;have s2:=aF ak 14 2 (by kernel_rfl) (hpre ⟨2,.data⟩ (by simp) rfl);simp only [XL] at s2;clear ak;refine Bq (fun _ h => by cases h) ?_ (OI f' B' el.length n') ?_
     . go_simp
     rintro e w2 ⟨rfl,hc2⟩;exact ⟨_,rfl,hK () w2 (fun _ _ => rfl) (hW.trans hc2 (by simp))⟩
    | 4,ho =>
     injection ho with ho; subst ho;have s1:=aF ak 13 1 (by kernel_rfl) (hpre ⟨1,.data⟩ (by simp) rfl);simp only [XL] at s1;have s3:=aF ak 15 3 (by kernel_rfl) (hpre ⟨3,.data⟩ (by simp) rfl);simp only [XL] at s3;clear ak;unfold K_ at s1 s3;have hq:=af6;refine qj (v:=(.bool (!(f == f' && ((if f then dl.length else 0:Nat):Int) == ((if f' then el.length else 0:Nat):Int))))) (w':=w1) (fun _ h => by cases h) ?_ (hK () w1 (fun _ _ => rfl) hW);go_simp
    | _ + 5,ho => cases ho
  case fin =>
   intro γ w2 hW;have hW:ah W w2 []:=hW;rw [fK,dM,eP];simp only [List.map_cons,List.map_nil];rw [ane];simp only [XL];rw [hke];by_cases hk:dP (f,dl) = dP (f',el)
   . rw [decide_eq_true hk]
     gi_wp2
     refine ⟨vW hW,KS.aj hW (by simp),fun y hy => ?_,HB.out.aj hW (by simp),HC.out.trans hW (by simp)⟩;rcases List.mem_append.1 hy with hy | hy
     . exact hp y hy
     . simp only [List.mem_cons,List.not_mem_nil,or_false] at hy
       subst hy;exact hyes hk
   . rw [decide_eq_false hk]
     have hb2:=HB.out.aj hW (by simp);have hb3:=hb2.aK 0 (.bool false);have hf:=hb2.frozen 0;have y0:=hb2.cell' (i:=0) rfl
     gi_wp2
     refine ⟨yR (D:=[w.heap.size]) ((hW.more (D':=[w.heap.size]) (by simp)).setCell ⟨w.heap.size,0,none⟩ (.bool false) (by simp)) (by intro k hk; simp only [List.mem_cons,List.not_mem_nil,or_false] at hk; subst hk; exact ⟨_,_,_,HB.out⟩),⟨rfl,hno hk⟩,hb3,(HC.out.trans hW (by simp)).setCell ⟨w.heap.size,0,none⟩ (.bool false) (.inr (Nat.le_refl _))⟩
 case done =>
  rintro D ys W hD rfl ⟨hp,hb,hc⟩ hK;have hsh:=OJ (ds:=ds) (es:=es) (fun k hk => hp ⟨k,hk⟩ (List.mem_finRange _));have hf:=hb.frozen 0;have y0:=hb.cell' (i:=0) rfl
  gi_wp2
  have eqq:((ds.length:Int) == (es.length:Int)) = lg ds es:=by
   rw [hsh,Bool.eq_iff_iff];simp only [beq_iff_eq,decide_eq_true_eq];exact Int.ofNat_inj
  rw [eqq];have h5:=(ah.refl W [w.heap.size]).setCell ⟨w.heap.size,0,none⟩ (.bool (lg ds es)) (by simp);refine H6 (w:=w) rfl (hc.setCell ⟨w.heap.size,0,none⟩ (.bool (lg ds es)) (.inr (Nat.le_refl _))) (by omega) (hb.aK 0 (.bool (lg ds es))) (h5.heap hK (by simp; omega)) (fun w' h => ⟨rfl,h⟩)
 case stop =>
  rintro D c pre W hD _ ⟨⟨rfl,hs⟩,hb,hc⟩ hK
  gi_wp2
  refine H6 (w:=w) rfl hc (by omega) hb hK (fun w' h => ⟨by rw [hs],h⟩)
def uP (f:Bool) (n:Nat):Int:=if f then (n:Int) else -1
theorem size_eq (d e:bg):(uP d.1 d.2.length == uP e.1 e.2.length) = decide (dP d = dP e):=by
 obtain ⟨f,l⟩:=d;obtain ⟨f',l'⟩:=e;unfold uP dP;rw [Bool.eq_iff_iff]
 cases f <;> cases f' <;> simp only [beq_iff_eq,decide_eq_true_eq,Prod.mk.injEq,if_true,if_false,Bool.false_eq_true,true_and,false_and,iff_false,reduceCtorEq] <;> omega
theorem Le {w:World} (f:Bool) (B:Option Addr) (n c:Nat):Calls Tryz.prog 14 #[.agg #[.bool f,.slice B n c]] w fun e w' => e = .returned (.int .i64 (uP f n))/\ah w w' []:=by
 have b0:=aA.new w 30 [.bool f,.slice B n c];have z0:=b0.cell' (i:=0) rfl;have z1:=b0.cell' (i:=1) rfl;have hc:=(ah.refl w []).alloc (.cells #[.bool f,.slice B n c] 30)
 cases f with
 | false =>
  go_enter Tryz.func14,Tryz.ntmps14
  go_wp2;go_ret;exact ⟨rfl,hc⟩
 | true =>
  go_enter Tryz.func14,Tryz.ntmps14
  go_wp2;go_ret;exact ⟨rfl,hc⟩
def DL (ba oa nd ca bb ob ne cb i:Nat) (f:Bool) (B:Option Addr) (n c:Nat) (f':Bool) (B':Option Addr) (n' c':Nat) (_:Unit):Nat->Value
 | 0 => .slice (some ⟨ba,oa,none⟩) nd ca
 | 1 => .int .i64 (i:Int)
 | 2 => .pointer (some ⟨ba,oa + i * 2,none⟩)
 | 3 => .agg #[.bool f,.slice B n c]
 | 4 => .int .i64 (uP f n)
 | 5 => .slice (some ⟨bb,ob,none⟩) ne cb
 | 6 => .int .i64 (i:Int)
 | 7 => .pointer (some ⟨bb,ob + i * 2,none⟩)
 | 8 => .agg #[.bool f',.slice B' n' c']
 | 9 => .int .i64 (uP f' n')
 | 10 => .bool (!(uP f n == uP f' n'))
 | _ => undef
theorem anl (v:Nat->Value) (t0 t1 t2 t3 t4 t5 t6 t7 t8 t9 t10 t11 t12 t13 t14 t15 t16 t17 t18 t19 t20 t21 t22 t23 t24 t25 t26 t27:Value):jH v (some 17 :: some 18 :: some 19 :: some 20 :: some 21 :: some 22 :: some 23 :: some 24 :: some 25 :: some 26 :: some 27 :: []) 0 (t0 :: t1 :: t2 :: t3 :: t4 :: t5 :: t6 :: t7 :: t8 :: t9 :: t10 :: t11 :: t12 :: t13 :: t14 :: t15 :: t16 :: t17 :: t18 :: t19 :: t20 :: t21 :: t22 :: t23 :: t24 :: t25 :: t26 :: t27 :: []) = (t0 :: t1 :: t2 :: t3 :: t4 :: t5 :: t6 :: t7 :: t8 :: t9 :: t10 :: t11 :: t12 :: t13 :: t14 :: t15 :: t16 :: v 0 :: v 1 :: v 2 :: v 3 :: v 4 :: v 5 :: v 6 :: v 7 :: v 8 :: v 9 :: v 10 :: []):=by kernel_rfl
theorem U2 {w:World} {A A':Option Addr} {c c':Nat} {ds es:List bg} {vs us:Nat->Value} (h:qJ w A ds vs) (h':qJ w A' es us) (hl:ds.length<=maxLen) (hl':es.length<=maxLen) :
 Calls Tryz.prog 5 #[.slice A ds.length c,.slice A' es.length c'] w fun e w' => e = .returned (.bool (lg ds es))/\ah w w' []:=by
 have dI:Tryz.prog.follows .mixedOrders = true:=by kernel_rfl
 unfold maxLen at hl hl';by_cases hle:ds.length = es.length
 . have HL:=hide hle
   have HH:=hide h;have HH':=hide h';clear h h';have hln:((ds.length:Int) != (es.length:Int)) = false:=by simp [hle]
   clear hle;go_enter Tryz.func5,Tryz.ntmps5
   go_wp2_with fail
   go_loopw [5] (fun i wr => ∃ j:Nat,j<=ds.length/\i = .int .i64 j/\Hid (∀ k,k < j->UY ds es k)/\Hid (ah w wr [])) (fun i _ => ds.length - (intOf i).toNat)
   case atStart => exact ⟨0,Nat.zero_le _,rfl,hide (fun k hk => absurd hk (by omega)),hide (ah.refl w [])⟩
   case round =>
    obtain ⟨i,hi,rfl,HO,HC⟩:=hrel;by_cases hlt:i < ds.length
    . obtain ⟨ba,oa,rfl,hxA⟩:=HH.out (by omega)
      obtain ⟨bb,ob,rfl,hxB⟩:=HH'.out (by have:=HL.out; omega);have hlt':i < es.length:=by have:=HL.out; omega
      obtain ⟨qa0,qa1,⟨B,n,ea⟩,_⟩:=hxA i (ds[i]'hlt) (List.getElem?_eq_getElem hlt);obtain ⟨qb0,qb1,⟨B',n',eb⟩,_⟩:=hxB i (es[i]'hlt') (List.getElem?_eq_getElem hlt');have hsz:=size_eq (ds[i]'hlt) (es[i]'hlt')
      have hone:dP (ds[i]'hlt) = dP (es[i]'hlt')->UY ds es i:=fun hk d e hd he => by
       rw [List.getElem?_eq_getElem hlt] at hd;rw [List.getElem?_eq_getElem hlt'] at he;injection hd with hd; injection he with he;subst hd; subst he;exact hk
      have hno:=fun hk:dP (ds[i]'hlt)≠dP (es[i]'hlt') => UZ (ds:=ds) (es:=es) (List.getElem?_eq_getElem hlt) (List.getElem?_eq_getElem hlt') hk;rw [ea] at qa1;rw [eb] at qb1;generalize ds[i]'hlt = dd at *;generalize es[i]'hlt' = ee at *;obtain ⟨f,dl⟩:=dd;obtain ⟨f',el⟩:=ee;simp only at qa0 qa1 qb0 qb1 hsz;have Q0:=hide (HC.out.cell qa0 (by simp));have Q1:=hide (HC.out.cell qa1 (by simp));have Q2:=hide (HC.out.cell qb0 (by simp));have Q3:=hide (HC.out.cell qb1 (by simp));clear hxA hxB ea eb qa0 qa1 qb0 qb1;go_wp2_with fail
      refine gV dI _ _ (fun (_:Unit) => DL ba oa ds.length c bb ob es.length c' i f B dl.length n f' B' el.length n' ()) (fun (_:Unit) L w' => ah wr w' []) () (by kernel_rfl) [] (by kernel_rfl) (fun p hp γ => by simp at hp) (by kernel_rfl) ?step ?start ?fin ?ext
      case start => exact (ah.refl wr []).drewN _
      case ext => exact fun γ L L' w' h hw => hw
      case step =>
       intro i_ o_ ho_ L av w1 γ hdn ak hW hL hpre K' Q' hK;have hW:ah wr w1 []:=hW
       match i_,ho_ with
       | 0,ho =>
        injection ho with ho; subst ho;have b0:av.tmps.getD 0 undef = .slice (some ⟨ba,oa,none⟩) ds.length c:=dH ak 0 (by kernel_rfl);clear ak;refine au (v:=.slice (some ⟨ba,oa,none⟩) ds.length c) (w':=w1) ?_ (hK () w1 (fun _ _ => rfl) hW)
        go_simp
         | 1,ho =>
        injection ho with ho; subst ho;have b5:av.tmps.getD 5 undef = .int .i64 (i:Int):=dH ak 5 (by kernel_rfl);clear ak;refine au (v:=.int .i64 (i:Int)) (w':=w1) ?_ (hK () w1 (fun _ _ => rfl) hW)
        go_simp
         | 2,ho =>
        injection ho with ho; subst ho;have s0:=aF ak 17 0 (by kernel_rfl) (hpre ⟨0,.data⟩ (by simp) rfl);simp only [DL] at s0;have s1:=aF ak 18 1 (by kernel_rfl) (hpre ⟨1,.data⟩ (by simp) rfl);simp only [DL] at s1;clear ak;refine au (v:=.pointer (some ⟨ba,oa + i * 2,none⟩)) (w':=w1) ?_ (hK () w1 (fun _ _ => rfl) hW);go_simp
        try (first | rfl | (intro hh; omega))
         | 3,ho =>
        injection ho with ho; subst ho;have s2:=aF ak 19 2 (by kernel_rfl) (hpre ⟨2,.data⟩ (by simp) rfl);simp only [DL] at s2;clear ak;have y0:=hW.cell Q0.out (by simp);have y1:=hW.cell Q1.out (by simp);refine au (v:=.agg #[.bool f,.slice B dl.length n]) (w':=w1) ?_ (hK () w1 (fun _ _ => rfl) hW)
        go_simp
         | 4,ho =>
        injection ho with ho; subst ho;have s3:=aF ak 20 3 (by kernel_rfl) (hpre ⟨3,.data⟩ (by simp) rfl);simp only [DL] at s3;clear ak;refine dK ?_ (Le f B dl.length n) ?_
        . go_simp
        rintro e w2 ⟨rfl,hc2⟩
        exact ⟨_,rfl,hK () w2 (fun _ _ => rfl) (hW.trans hc2 (by simp))⟩
         | 5,ho =>
        injection ho with ho; subst ho;have b1:av.tmps.getD 1 undef = .slice (some ⟨bb,ob,none⟩) es.length c':=dH ak 1 (by kernel_rfl);clear ak;refine au (v:=.slice (some ⟨bb,ob,none⟩) es.length c') (w':=w1) ?_ (hK () w1 (fun _ _ => rfl) hW)
        go_simp
         | 6,ho =>
        injection ho with ho; subst ho;have b5:av.tmps.getD 5 undef = .int .i64 (i:Int):=dH ak 5 (by kernel_rfl);clear ak;refine au (v:=.int .i64 (i:Int)) (w':=w1) ?_ (hK () w1 (fun _ _ => rfl) hW)
        go_simp
         | 7,ho =>
        injection ho with ho; subst ho;have s5:=aF ak 22 5 (by kernel_rfl) (hpre ⟨5,.data⟩ (by simp) rfl);simp only [DL] at s5;have s6:=aF ak 23 6 (by kernel_rfl) (hpre ⟨6,.data⟩ (by simp) rfl);simp only [DL] at s6;clear ak;refine au (v:=.pointer (some ⟨bb,ob + i * 2,none⟩)) (w':=w1) ?_ (hK () w1 (fun _ _ => rfl) hW);go_simp
        try (first | rfl | (intro hh; omega))
         | 8,ho =>
        injection ho with ho; subst ho;have s7:=aF ak 24 7 (by kernel_rfl) (hpre ⟨7,.data⟩ (by simp) rfl);simp only [DL] at s7;clear ak;have y2:=hW.cell Q2.out (by simp);have y3:=hW.cell Q3.out (by simp);refine au (v:=.agg #[.bool f',.slice B' el.length n']) (w':=w1) ?_ (hK () w1 (fun _ _ => rfl) hW)
        go_simp
         | 9,ho =>
        injection ho with ho; subst ho;have s8:=aF ak 25 8 (by kernel_rfl) (hpre ⟨8,.data⟩ (by simp) rfl);simp only [DL] at s8;clear ak;refine dK ?_ (Le f' B' el.length n') ?_
        . go_simp
        rintro e w2 ⟨rfl,hc2⟩
        exact ⟨_,rfl,hK () w2 (fun _ _ => rfl) (hW.trans hc2 (by simp))⟩
         | 10,ho =>
        injection ho with ho; subst ho;have s4:=aF ak 21 4 (by kernel_rfl) (hpre ⟨4,.data⟩ (by simp) rfl);simp only [DL] at s4;have s9:=aF ak 26 9 (by kernel_rfl) (hpre ⟨9,.data⟩ (by simp) rfl);simp only [DL] at s9;clear ak;clear hsz;refine au (v:=.bool (!(uP f dl.length == uP f' el.length))) (w':=w1) ?_ (hK () w1 (fun _ _ => rfl) hW);go_simp
        try rfl
       | _ + 11,ho => cases ho
      case fin =>
       intro γ w2 hW;have hW:ah wr w2 []:=hW;rw [fK,dM,eP];simp only [List.map_cons,List.map_nil];rw [anl];simp only [DL];rw [hsz];by_cases hk:dP (f,dl) = dP (f',el)
       . rw [decide_eq_true hk]
         go_wp2;go_roundw
         case rel =>
          exact ⟨i + 1,by omega,by go_num,hide (fun k hk' => by
           by_cases e:k = i
           . subst e; exact hone hk
           . exact HO.out k (by omega)),hide (HC.out.trans hW (by simp))⟩
         case measure => simp [intOf]; omega
       . rw [decide_eq_false hk]
         go_wp2;go_ret;exact ⟨by rw [hno hk]; rfl,HC.out.trans hW (by simp)⟩
    . have hjl:i = ds.length:=by omega
      subst hjl;go_wp2;go_ret;exact ⟨by rw [OJ (fun k hk => HO.out k (by omega)),decide_eq_true HL.out]; rfl,HC.out⟩
 . have hs:lg ds es = false:=decide_eq_false fun hm => hle (by simpa using congrArg List.length hm)
   have hln:((ds.length:Int) != (es.length:Int)) = true:=by simp; omega
   go_enter Tryz.func5,Tryz.ntmps5
   go_wp2;go_ret;exact ⟨by rw [hs]; rfl,ah.refl w []⟩
end
end Go.Proofs.YtnkmmaijigihpaaGreatDoor
