/- errors.As at a target of the table's own kind of error (the kit's worked example of it, turned to this program). -/
import Derived.Test.YtjcgiddgafjdpaaGreatDoorProg
import Derived.WalkKit
import Derived.LaidEql
import Derived.Stop.Asserts
import Derived.RowKitTokens
namespace Go.Proofs.YtjcgiddgafjdpaaGreatDoor
open Go.RowKit Go.Extern.Stop Go.Stop Go.Extern
theorem as_nil (t:Value) (w:World) :
 Calls Tryz.prog 239 #[.nilIface,t] w fun e w' => e = .returned (.bool false)∧w' = w:=by
 go_enter Tryz.func239,Tryz.ntmps239
 go_wp2
 go_ret
 exact ⟨rfl,rfl⟩
theorem Pv (t:Addr) (w:World):(ReflectliteValue.unpack (.iface 297 (.pointer (some t)))).run Tryz.prog w
 = .ok (.agg #[.pointer (some ⟨8,297,none⟩),.pointer (some ⟨w.heap.size,0,none⟩),.int .u64 150]) (w.alloc (.cells #[.pointer (some t)] 297)):=by kernel_rfl
theorem ZG (a : Addr) (w : World) : (ReflectliteValue.methodAny (ReflectliteValue.valueError "reflectlite.Value.Type" 0) (fun t _ _ _ => ReflectliteType.toType t) #[.agg #[.pointer (some ⟨8, 297, none⟩), .pointer (some a), .int .u64 150]]).run Tryz.prog w
 = .ok (.iface 360 (.agg #[.pointer (some ⟨8,297,none⟩)])) w:=by kernel_rfl
theorem NI (h : Value) (w : World) : (Go.method 542 360 (.agg #[h]) "Kind").run Tryz.prog w = .ok (400, h) w := by kernel_rfl
theorem ZH (w:World):((ReflectliteType.abiMethod fun t => (fun a:Nat => Value.int IntKind.u8 (a:Int)) <$> Rtype.kind t) #[.pointer (some ⟨8,297,none⟩)]).run Tryz.prog w = .ok (.int .u8 22) w:=by kernel_rfl
theorem ZI (w:World):((ReflectliteType.abiMethod fun t => (fun a:Nat => Value.int IntKind.u8 (a:Int)) <$> Rtype.kind t) #[.pointer (some ⟨8,295,none⟩)]).run Tryz.prog w = .ok (.int .u8 22) w:=by kernel_rfl
theorem rlm (z:Sem Value) (f:TypeId→Addr→Nat→Nat→Sem Value) (v:Value) :
 ReflectliteValue.method z f #[v] = (do match ← ReflectliteValue.parts v with | none => z | some (t,a,fl) => f t a fl (fl % 32)):=rfl
theorem Ip (a:Addr) (w:World):(ReflectliteValue.parts (.agg #[.pointer (some ⟨8,297,none⟩),.pointer (some a),.int .u64 150])).run Tryz.prog w = .ok (some (297,a,150)) w:=by kernel_rfl
theorem Xc (a p:Addr) (W:World) (ha:W.cell? a = some (.pointer (some p))) :
 (ReflectliteValue.method (ReflectliteValue.valueError "reflectlite.Value.IsNil" 0) ReflectliteValue.isNil #[.agg #[.pointer (some ⟨8, 297, none⟩), .pointer (some a), .int .u64 150]]).run Tryz.prog W = .ok (.bool false) W := by
 rw [rlm]
 simp only [Sem.run_bind,Ip,Result.andThen]
 simp [ReflectliteValue.isNil,loadVar,isAgg,underlying,Tryz.underlying297,ha,Result.andThen]
theorem NJ (h : Value) (w : World) : (Go.method 542 360 (.agg #[h]) "Elem").run Tryz.prog w = .ok (429, .agg #[h]) w := by kernel_rfl
theorem CX (h : Value) (w : World) : (Go.method 542 360 (.agg #[h]) "Implements").run Tryz.prog w = .ok (430, .agg #[h]) w := by kernel_rfl
theorem zL (h : Value) (w : World) : (Go.method 542 360 (.agg #[h]) "AssignableTo").run Tryz.prog w = .ok (427, .agg #[h]) w := by kernel_rfl
theorem ZJ (w:World):(ReflectliteType.method ReflectliteType.elem #[.agg #[.pointer (some ⟨8,297,none⟩)]]).run Tryz.prog w = .ok (.iface 360 (.agg #[.pointer (some ⟨8,295,none⟩)])) w:=by kernel_rfl
theorem Iq (w : World) : (ReflectliteType.relation "Implements" ReflectliteType.implements_ #[.agg #[.pointer (some ⟨8, 295, none⟩)], .iface 360 (.agg #[.pointer (some ⟨8, 292, none⟩)])]).run Tryz.prog w = .ok (.bool true) w := by kernel_rfl
theorem Uh (v:Value) (w:World):(ReflectliteType.typeOf #[.iface 295 v]).run Tryz.prog w = .ok (.iface 360 (.agg #[.pointer (some ⟨8,295,none⟩)])) w:=by kernel_rfl
theorem Ir (w : World) : (ReflectliteType.relation "AssignableTo" ReflectliteType.assignableTo #[.agg #[.pointer (some ⟨8, 295, none⟩)], .iface 360 (.agg #[.pointer (some ⟨8, 295, none⟩)])]).run Tryz.prog w = .ok (.bool true) w := by kernel_rfl
theorem Px (e:Addr) (w:World):(ReflectliteValue.unpack (.iface 295 (.pointer (some e)))).run Tryz.prog w
 = .ok (.agg #[.pointer (some ⟨8,295,none⟩),.pointer (some ⟨w.heap.size,0,none⟩),.int .u64 150]) (w.alloc (.cells #[.pointer (some e)] 295)):=by kernel_rfl
theorem Ui (w:World):(Rtype.elem? 297).run Tryz.prog w = .ok (some 295) w:=by kernel_rfl
theorem agk (p:Addr) (w:World):(ReflectliteValue.mk 295 p ReflectliteValue.flagAddr).run Tryz.prog w = .ok (.agg #[.pointer (some ⟨8,295,none⟩),.pointer (some p),.int .u64 406]) w:=by kernel_rfl
theorem Xd (a p:Addr) (W:World) (ha:W.cell? a = some (.pointer (some p))) :
 (ReflectliteValue.method (ReflectliteValue.valueError "reflectlite.Value.Elem" 0) ReflectliteValue.elem #[.agg #[.pointer (some ⟨8, 297, none⟩), .pointer (some a), .int .u64 150]]).run Tryz.prog W
   = .ok (.agg #[.pointer (some ⟨8,295,none⟩),.pointer (some p),.int .u64 406]) W:=by
 rw [rlm]
 simp only [Sem.run_bind,Ip,Result.andThen]
 simp [ReflectliteValue.elem,loadVar,isAgg,underlying,Tryz.underlying297,ha,Result.andThen,Ui,agk]
theorem rls (v x:Value):ReflectliteValue.set #[v,x] = (do
 let (some (dst,a,fl),some (src,b,_)):=(← ReflectliteValue.parts v,← ReflectliteValue.parts x)
  | unsupported (.noEntry "extern/(internal/reflectlite.Value).Set.zeroValue")
 if fl / ReflectliteValue.flagAddr % 2 == 0 then unsupported (.noEntry "extern/(internal/reflectlite.Value).Set.unaddressable")
 let val ← loadVar src b
 if ← Rtype.directlyAssignable dst src then storeVar dst a val
 else if ← Rtype.implements dst src then
  if (← Rtype.kind src) == 20 then
   match val with
   | .nilIface => unsupported (.noEntry "extern/reflectlite: a nil value of one interface type handed on as a value of another")
   | _ => storeVar dst a val
  else storeVar dst a (.iface src val)
 else panicString ("reflectlite.Set: value of type " ++ (← Rtype.spelt src) ++ " is not assignable to type " ++ (← Rtype.spelt dst))
 pure (.tuple #[])):=rfl
theorem Uj (a:Addr) (w:World):(ReflectliteValue.parts (.agg #[.pointer (some ⟨8,295,none⟩),.pointer (some a),.int .u64 406])).run Tryz.prog w = .ok (some (295,a,406)) w:=by kernel_rfl
theorem Xe (a:Addr) (w:World):(ReflectliteValue.parts (.agg #[.pointer (some ⟨8,295,none⟩),.pointer (some a),.int .u64 150])).run Tryz.prog w = .ok (some (295,a,150)) w:=by kernel_rfl
theorem Uk (w:World):(Rtype.directlyAssignable 295 295).run Tryz.prog w = .ok true w:=by kernel_rfl
theorem acK (ta b e:Addr) (old:Value) (W:World) (hb:W.cell? b = some (.pointer (some e))) (ht:W.cell? ta = some old) (hf:W.frozen? ta = false) :
 (ReflectliteValue.set #[.agg #[.pointer (some ⟨8,295,none⟩),.pointer (some ta),.int .u64 406],.agg #[.pointer (some ⟨8,295,none⟩),.pointer (some b),.int .u64 150]]).run Tryz.prog W
   = .ok (.tuple #[]) (W.setCell ta (.pointer (some e))):=by
 rw [rls]
 simp only [Sem.run_bind,Uj,Xe,Result.andThen]
 simp [ReflectliteValue.flagAddr,loadVar,isAgg,underlying,Tryz.underlying295,hb,Result.andThen,Uk,storeVar,Value.cells,storeCells,Addr.add]
 rw [run_store Tryz.prog W ta _ _ (by rfl)]
 simp [ht,hf]
set_option maxHeartbeats 4000000 in
theorem as_hit (e t:Addr) (old:Value) (w:World) (hg:w.cell? ⟨0,0,none⟩ = some (.iface 360 (.agg #[.pointer (some ⟨8,292,none⟩)]))) (ht0:w.cell? t = some old) (hf0:w.frozen? t = false) :
 Calls Tryz.prog 239 #[.iface 295 (.pointer (some e)),.iface 297 (.pointer (some t))] w fun ev w' => ev = .returned (.bool true)∧w' = ((((w.alloc (.cells #[.pointer (some t)] 297)).alloc (.cells #[.pointer (some ⟨8,297,none⟩),.pointer (some ⟨w.heap.size,0,none⟩),.int .u64 150] 324)).alloc (.cells #[.pointer (some ⟨8,297,none⟩),.pointer (some ⟨w.heap.size,0,none⟩),.int .u64 150] 324)).alloc (.cells #[.pointer (some e)] 295)).setCell t (.pointer (some e)):=by
 have h6:=@run_callFunc_extern Tryz.prog 278 _ (fun args => ReflectliteValue.unpack (args.getD 0 (.tuple #[]))) Tryz.func278 (by kernel_rfl) (by kernel_rfl) (by kernel_rfl) (by kernel_rfl)
 have h7 := @run_callFunc_extern Tryz.prog 279 _ (ReflectliteValue.methodAny (ReflectliteValue.valueError "reflectlite.Value.Type" 0) (fun t _ _ _ => ReflectliteType.toType t)) Tryz.func279 (by kernel_rfl) (by kernel_rfl) (by kernel_rfl) (by kernel_rfl)
 have h8 := @run_callFunc_extern Tryz.prog 280 _ (ReflectliteValue.method (ReflectliteValue.valueError "reflectlite.Value.IsNil" 0) ReflectliteValue.isNil) Tryz.func280 (by kernel_rfl) (by kernel_rfl) (by kernel_rfl) (by kernel_rfl)
 have h27:=@run_callFunc_extern Tryz.prog 400 _ (ReflectliteType.abiMethod fun t => do pure (.int .u8 (← Rtype.kind t))) Tryz.func400 (by kernel_rfl) (by kernel_rfl) (by kernel_rfl) (by kernel_rfl)
 have h37:=@run_callFunc_extern Tryz.prog 429 _ (ReflectliteType.method ReflectliteType.elem) Tryz.func429 (by kernel_rfl) (by kernel_rfl) (by kernel_rfl) (by kernel_rfl)
 have h38 := @run_callFunc_extern Tryz.prog 430 _ (ReflectliteType.relation "Implements" ReflectliteType.implements_) Tryz.func430 (by kernel_rfl) (by kernel_rfl) (by kernel_rfl) (by kernel_rfl)
 have h10:=@run_callFunc_extern Tryz.prog 326 _ ReflectliteType.typeOf Tryz.func326 (by kernel_rfl) (by kernel_rfl) (by kernel_rfl) (by kernel_rfl)
 have h35 := @run_callFunc_extern Tryz.prog 427 _ (ReflectliteType.relation "AssignableTo" ReflectliteType.assignableTo) Tryz.func427 (by kernel_rfl) (by kernel_rfl) (by kernel_rfl) (by kernel_rfl)
 have h11 := @run_callFunc_extern Tryz.prog 327 _ (ReflectliteValue.method (ReflectliteValue.valueError "reflectlite.Value.Elem" 0) ReflectliteValue.elem) Tryz.func327 (by kernel_rfl) (by kernel_rfl) (by kernel_rfl) (by kernel_rfl)
 have h12:=@run_callFunc_extern Tryz.prog 328 _ ReflectliteValue.set Tryz.func328 (by kernel_rfl) (by kernel_rfl) (by kernel_rfl) (by kernel_rfl)
 have tO:=Uh
 have mA:=zL
 have a25:=Ir
 have v25:=Px
 have f6:=Pv
 have f7:=ZG
 have mK:=NI
 have mE:=NJ
 have mI:=CX
 have k27:=ZH
 have k25:=ZI
 have e27:=ZJ
 have i25:=Iq
 have n8:=Xc ⟨w.heap.size,0,none⟩ t ((w.alloc (.cells #[.pointer (some t)] 297)).alloc (.cells #[.pointer (some ⟨8,297,none⟩),.pointer (some ⟨w.heap.size,0,none⟩),.int .u64 150] 324)) (by simp)
 have hlt:0 < w.heap.size:=by
  rcases Nat.eq_zero_or_pos w.heap.size with h0 | h
  · simp [World.cell?,h0] at hg
  · exact h
 have hg2:((w.alloc (.cells #[.pointer (some t)] 297)).alloc (.cells #[.pointer (some ⟨8,297,none⟩),.pointer (some ⟨w.heap.size,0,none⟩),.int .u64 150] 324)).cell? ⟨0,0,none⟩ = some (.iface 360 (.agg #[.pointer (some ⟨8,292,none⟩)])):=by
  rw [World.cell?_alloc_lt _ _ ⟨0,0,none⟩ (by simp),World.cell?_alloc_lt _ _ ⟨0,0,none⟩ hlt]; exact hg
 have htl:t.block < w.heap.size:=by
  rcases Nat.lt_or_ge t.block w.heap.size with h | h
  · exact h
  · simp [World.cell?,Array.getElem?_eq_none h] at ht0
 have el:=Xd ⟨w.heap.size,0,none⟩ t (((w.alloc (.cells #[.pointer (some t)] 297)).alloc (.cells #[.pointer (some ⟨8,297,none⟩),.pointer (some ⟨w.heap.size,0,none⟩),.int .u64 150] 324)).alloc (.cells #[.pointer (some ⟨8,297,none⟩),.pointer (some ⟨w.heap.size,0,none⟩),.int .u64 150] 324)) (by rw [World.cell?_alloc_lt _ _ ⟨w.heap.size,0,none⟩ (by simp; omega)]; simp)
 have st:=acK t ⟨w.heap.size + 1 + 1 + 1,0,none⟩ e old ((((w.alloc (.cells #[.pointer (some t)] 297)).alloc (.cells #[.pointer (some ⟨8,297,none⟩),.pointer (some ⟨w.heap.size,0,none⟩),.int .u64 150] 324)).alloc (.cells #[.pointer (some ⟨8,297,none⟩),.pointer (some ⟨w.heap.size,0,none⟩),.int .u64 150] 324)).alloc (.cells #[.pointer (some e)] 295))
  (by rw [World.cell?_alloc_at _ _ _ _ (by simp)]; rfl)
  (by rw [World.cell?_alloc_lt _ _ t (by simp; omega),World.cell?_alloc_lt _ _ t (by simp; omega),World.cell?_alloc_lt _ _ t (by simp; omega),World.cell?_alloc_lt _ _ t htl]; exact ht0)
  (by rw [World.frozen?_alloc_old _ _ t (by simp; omega),World.frozen?_alloc_old _ _ t (by simp; omega),World.frozen?_alloc_old _ _ t (by simp; omega),World.frozen?_alloc_old _ _ t (Nat.ne_of_lt htl)]; exact hf0)
 go_enter Tryz.func239,Tryz.ntmps239
 go_wp2
 refine wp_loop_rounds 1 ?_
 rw [rounds_succ]
 go_wp2
 go_ret
 exact ⟨rfl,rfl⟩
end Go.Proofs.YtjcgiddgafjdpaaGreatDoor
