/- errors.As at a target of the table's own kind of error (the kit's worked example of it, turned to this program). -/
import Derived.Test.YtjegdngblndkcaaGreatDoorProg
import Derived.WalkKit
import Derived.LaidEql
import Derived.Stop.Asserts
import Derived.RowKitTokens
namespace Go.Proofs.YtjegdngblndkcaaGreatDoor
open Go.RowKit Go.Extern.Stop Go.Stop Go.Extern
theorem as_nil (t:Value) (w:World) :
 Calls Tryz.prog 161 #[.nilIface,t] w fun e w' => e = .returned (.bool false)∧w' = w:=by
 go_enter Tryz.func161,Tryz.ntmps161
 go_wp2
 go_ret
 exact ⟨rfl,rfl⟩
theorem Qc (t:Addr) (w:World):(ReflectliteValue.unpack (.iface 237 (.pointer (some t)))).run Tryz.prog w
 = .ok (.agg #[.pointer (some ⟨11,237,none⟩),.pointer (some ⟨w.heap.size,0,none⟩),.int .u64 150]) (w.alloc (.cells #[.pointer (some t)] 237)):=by kernel_rfl
theorem Zj (a : Addr) (w : World) : (ReflectliteValue.methodAny (ReflectliteValue.valueError "reflectlite.Value.Type" 0) (fun t _ _ _ => ReflectliteType.toType t) #[.agg #[.pointer (some ⟨11, 237, none⟩), .pointer (some a), .int .u64 150]]).run Tryz.prog w
 = .ok (.iface 246 (.agg #[.pointer (some ⟨11,237,none⟩)])) w:=by kernel_rfl
theorem NM (h : Value) (w : World) : (Go.method 479 246 (.agg #[h]) "Kind").run Tryz.prog w = .ok (295, h) w := by kernel_rfl
theorem Zk (w:World):((ReflectliteType.abiMethod fun t => (fun a:Nat => Value.int IntKind.u8 (a:Int)) <$> Rtype.kind t) #[.pointer (some ⟨11,237,none⟩)]).run Tryz.prog w = .ok (.int .u8 22) w:=by kernel_rfl
theorem Zl (w:World):((ReflectliteType.abiMethod fun t => (fun a:Nat => Value.int IntKind.u8 (a:Int)) <$> Rtype.kind t) #[.pointer (some ⟨11,235,none⟩)]).run Tryz.prog w = .ok (.int .u8 22) w:=by kernel_rfl
theorem rlm (z:Sem Value) (f:TypeId→Addr→Nat→Nat→Sem Value) (v:Value) :
 ReflectliteValue.method z f #[v] = (do match ← ReflectliteValue.parts v with | none => z | some (t,a,fl) => f t a fl (fl % 32)):=rfl
theorem Jc (a:Addr) (w:World):(ReflectliteValue.parts (.agg #[.pointer (some ⟨11,237,none⟩),.pointer (some a),.int .u64 150])).run Tryz.prog w = .ok (some (237,a,150)) w:=by kernel_rfl
theorem WU (a p:Addr) (W:World) (ha:W.cell? a = some (.pointer (some p))) :
 (ReflectliteValue.method (ReflectliteValue.valueError "reflectlite.Value.IsNil" 0) ReflectliteValue.isNil #[.agg #[.pointer (some ⟨11, 237, none⟩), .pointer (some a), .int .u64 150]]).run Tryz.prog W = .ok (.bool false) W := by
 rw [rlm]
 simp only [Sem.run_bind,Jc,Result.andThen]
 simp [ReflectliteValue.isNil,loadVar,isAgg,underlying,Tryz.underlying237,ha,Result.andThen]
theorem NP (h : Value) (w : World) : (Go.method 479 246 (.agg #[h]) "Elem").run Tryz.prog w = .ok (323, .agg #[h]) w := by kernel_rfl
theorem Dl (h : Value) (w : World) : (Go.method 479 246 (.agg #[h]) "Implements").run Tryz.prog w = .ok (324, .agg #[h]) w := by kernel_rfl
theorem zW (h : Value) (w : World) : (Go.method 479 246 (.agg #[h]) "AssignableTo").run Tryz.prog w = .ok (321, .agg #[h]) w := by kernel_rfl
theorem Zm (w:World):(ReflectliteType.method ReflectliteType.elem #[.agg #[.pointer (some ⟨11,237,none⟩)]]).run Tryz.prog w = .ok (.iface 246 (.agg #[.pointer (some ⟨11,235,none⟩)])) w:=by kernel_rfl
theorem Jd (w : World) : (ReflectliteType.relation "Implements" ReflectliteType.implements_ #[.agg #[.pointer (some ⟨11, 235, none⟩)], .iface 246 (.agg #[.pointer (some ⟨11, 103, none⟩)])]).run Tryz.prog w = .ok (.bool true) w := by kernel_rfl
theorem TN (v:Value) (w:World):(ReflectliteType.typeOf #[.iface 235 v]).run Tryz.prog w = .ok (.iface 246 (.agg #[.pointer (some ⟨11,235,none⟩)])) w:=by kernel_rfl
theorem Je (w : World) : (ReflectliteType.relation "AssignableTo" ReflectliteType.assignableTo #[.agg #[.pointer (some ⟨11, 235, none⟩)], .iface 246 (.agg #[.pointer (some ⟨11, 235, none⟩)])]).run Tryz.prog w = .ok (.bool true) w := by kernel_rfl
theorem Qd (e:Addr) (w:World):(ReflectliteValue.unpack (.iface 235 (.pointer (some e)))).run Tryz.prog w
 = .ok (.agg #[.pointer (some ⟨11,235,none⟩),.pointer (some ⟨w.heap.size,0,none⟩),.int .u64 150]) (w.alloc (.cells #[.pointer (some e)] 235)):=by kernel_rfl
theorem TP (w:World):(Rtype.elem? 237).run Tryz.prog w = .ok (some 235) w:=by kernel_rfl
theorem afy (p:Addr) (w:World):(ReflectliteValue.mk 235 p ReflectliteValue.flagAddr).run Tryz.prog w = .ok (.agg #[.pointer (some ⟨11,235,none⟩),.pointer (some p),.int .u64 406]) w:=by kernel_rfl
theorem WV (a p:Addr) (W:World) (ha:W.cell? a = some (.pointer (some p))) :
 (ReflectliteValue.method (ReflectliteValue.valueError "reflectlite.Value.Elem" 0) ReflectliteValue.elem #[.agg #[.pointer (some ⟨11, 237, none⟩), .pointer (some a), .int .u64 150]]).run Tryz.prog W
   = .ok (.agg #[.pointer (some ⟨11,235,none⟩),.pointer (some p),.int .u64 406]) W:=by
 rw [rlm]
 simp only [Sem.run_bind,Jc,Result.andThen]
 simp [ReflectliteValue.elem,loadVar,isAgg,underlying,Tryz.underlying237,ha,Result.andThen,TP,afy]
theorem rls (v x:Value):ReflectliteValue.set #[v,x] = (do
 let (some (dst,a,fl),some (src,b,_)):=(← ReflectliteValue.parts v,← ReflectliteValue.parts x)
  | unsupported (.noEntry "extern/(internal/reflectlite.Value).Set.zeroValue")
 if fl / ReflectliteValue.flagAddr % 2 == 0 then unsupported (.noEntry "extern/(internal/reflectlite.Value).Set.unaddressable")
 let val ← loadVar src b
 if ← Rtype.directlyAssignable dst src then storeVar dst a val
 else if ← Rtype.implements dst src then
  if (← Rtype.kind src) == 20 then
   match val with
   | .nilIface => unsupported (.noEntry "extern/reflectlite: a nil value of one interface type handed on as a value of another")
   | _ => storeVar dst a val
  else storeVar dst a (.iface src val)
 else panicString ("reflectlite.Set: value of type " ++ (← Rtype.spelt src) ++ " is not assignable to type " ++ (← Rtype.spelt dst))
 pure (.tuple #[])):=rfl
theorem TQ (a:Addr) (w:World):(ReflectliteValue.parts (.agg #[.pointer (some ⟨11,235,none⟩),.pointer (some a),.int .u64 406])).run Tryz.prog w = .ok (some (235,a,406)) w:=by kernel_rfl
theorem WW (a:Addr) (w:World):(ReflectliteValue.parts (.agg #[.pointer (some ⟨11,235,none⟩),.pointer (some a),.int .u64 150])).run Tryz.prog w = .ok (some (235,a,150)) w:=by kernel_rfl
theorem TR (w:World):(Rtype.directlyAssignable 235 235).run Tryz.prog w = .ok true w:=by kernel_rfl
theorem acv (ta b e:Addr) (old:Value) (W:World) (hb:W.cell? b = some (.pointer (some e))) (ht:W.cell? ta = some old) (hf:W.frozen? ta = false) :
 (ReflectliteValue.set #[.agg #[.pointer (some ⟨11,235,none⟩),.pointer (some ta),.int .u64 406],.agg #[.pointer (some ⟨11,235,none⟩),.pointer (some b),.int .u64 150]]).run Tryz.prog W
   = .ok (.tuple #[]) (W.setCell ta (.pointer (some e))):=by
 rw [rls]
 simp only [Sem.run_bind,TQ,WW,Result.andThen]
 simp [ReflectliteValue.flagAddr,loadVar,isAgg,underlying,Tryz.underlying235,hb,Result.andThen,TR,storeVar,Value.cells,storeCells,Addr.add]
 rw [run_store Tryz.prog W ta _ _ (by rfl)]
 simp [ht,hf]
set_option maxHeartbeats 4000000 in
theorem as_hit (e t:Addr) (old:Value) (w:World) (hg:w.cell? ⟨2,0,none⟩ = some (.iface 246 (.agg #[.pointer (some ⟨11,103,none⟩)]))) (ht0:w.cell? t = some old) (hf0:w.frozen? t = false) :
 Calls Tryz.prog 161 #[.iface 235 (.pointer (some e)),.iface 237 (.pointer (some t))] w fun ev w' => ev = .returned (.bool true)∧w' = ((((w.alloc (.cells #[.pointer (some t)] 237)).alloc (.cells #[.pointer (some ⟨11,237,none⟩),.pointer (some ⟨w.heap.size,0,none⟩),.int .u64 150] 267)).alloc (.cells #[.pointer (some ⟨11,237,none⟩),.pointer (some ⟨w.heap.size,0,none⟩),.int .u64 150] 267)).alloc (.cells #[.pointer (some e)] 235)).setCell t (.pointer (some e)):=by
 have h6:=@run_callFunc_extern Tryz.prog 183 _ (fun args => ReflectliteValue.unpack (args.getD 0 (.tuple #[]))) Tryz.func183 (by kernel_rfl) (by kernel_rfl) (by kernel_rfl) (by kernel_rfl)
 have h7 := @run_callFunc_extern Tryz.prog 184 _ (ReflectliteValue.methodAny (ReflectliteValue.valueError "reflectlite.Value.Type" 0) (fun t _ _ _ => ReflectliteType.toType t)) Tryz.func184 (by kernel_rfl) (by kernel_rfl) (by kernel_rfl) (by kernel_rfl)
 have h8 := @run_callFunc_extern Tryz.prog 185 _ (ReflectliteValue.method (ReflectliteValue.valueError "reflectlite.Value.IsNil" 0) ReflectliteValue.isNil) Tryz.func185 (by kernel_rfl) (by kernel_rfl) (by kernel_rfl) (by kernel_rfl)
 have h27:=@run_callFunc_extern Tryz.prog 295 _ (ReflectliteType.abiMethod fun t => do pure (.int .u8 (← Rtype.kind t))) Tryz.func295 (by kernel_rfl) (by kernel_rfl) (by kernel_rfl) (by kernel_rfl)
 have h37:=@run_callFunc_extern Tryz.prog 323 _ (ReflectliteType.method ReflectliteType.elem) Tryz.func323 (by kernel_rfl) (by kernel_rfl) (by kernel_rfl) (by kernel_rfl)
 have h38 := @run_callFunc_extern Tryz.prog 324 _ (ReflectliteType.relation "Implements" ReflectliteType.implements_) Tryz.func324 (by kernel_rfl) (by kernel_rfl) (by kernel_rfl) (by kernel_rfl)
 have h10:=@run_callFunc_extern Tryz.prog 134 _ ReflectliteType.typeOf Tryz.func134 (by kernel_rfl) (by kernel_rfl) (by kernel_rfl) (by kernel_rfl)
 have h35 := @run_callFunc_extern Tryz.prog 321 _ (ReflectliteType.relation "AssignableTo" ReflectliteType.assignableTo) Tryz.func321 (by kernel_rfl) (by kernel_rfl) (by kernel_rfl) (by kernel_rfl)
 have h11 := @run_callFunc_extern Tryz.prog 213 _ (ReflectliteValue.method (ReflectliteValue.valueError "reflectlite.Value.Elem" 0) ReflectliteValue.elem) Tryz.func213 (by kernel_rfl) (by kernel_rfl) (by kernel_rfl) (by kernel_rfl)
 have h12:=@run_callFunc_extern Tryz.prog 214 _ ReflectliteValue.set Tryz.func214 (by kernel_rfl) (by kernel_rfl) (by kernel_rfl) (by kernel_rfl)
 have tO:=TN
 have mA:=zW
 have a25:=Je
 have v25:=Qd
 have f6:=Qc
 have f7:=Zj
 have mK:=NM
 have mE:=NP
 have mI:=Dl
 have k27:=Zk
 have k25:=Zl
 have e27:=Zm
 have i25:=Jd
 have n8:=WU ⟨w.heap.size,0,none⟩ t ((w.alloc (.cells #[.pointer (some t)] 237)).alloc (.cells #[.pointer (some ⟨11,237,none⟩),.pointer (some ⟨w.heap.size,0,none⟩),.int .u64 150] 267)) (by simp)
 have hlt:2 < w.heap.size:=World.block_lt_of_cell? w _ hg
 have hg2:((w.alloc (.cells #[.pointer (some t)] 237)).alloc (.cells #[.pointer (some ⟨11,237,none⟩),.pointer (some ⟨w.heap.size,0,none⟩),.int .u64 150] 267)).cell? ⟨2,0,none⟩ = some (.iface 246 (.agg #[.pointer (some ⟨11,103,none⟩)])):=by
  rw [World.cell?_alloc_lt _ _ ⟨2,0,none⟩ (by simp; omega),World.cell?_alloc_lt _ _ ⟨2,0,none⟩ hlt]; exact hg
 have htl:t.block < w.heap.size:=by
  rcases Nat.lt_or_ge t.block w.heap.size with h | h
  · exact h
  · simp [World.cell?,Array.getElem?_eq_none h] at ht0
 have el:=WV ⟨w.heap.size,0,none⟩ t (((w.alloc (.cells #[.pointer (some t)] 237)).alloc (.cells #[.pointer (some ⟨11,237,none⟩),.pointer (some ⟨w.heap.size,0,none⟩),.int .u64 150] 267)).alloc (.cells #[.pointer (some ⟨11,237,none⟩),.pointer (some ⟨w.heap.size,0,none⟩),.int .u64 150] 267)) (by rw [World.cell?_alloc_lt _ _ ⟨w.heap.size,0,none⟩ (by simp; omega)]; simp)
 have st:=acv t ⟨w.heap.size + 1 + 1 + 1,0,none⟩ e old ((((w.alloc (.cells #[.pointer (some t)] 237)).alloc (.cells #[.pointer (some ⟨11,237,none⟩),.pointer (some ⟨w.heap.size,0,none⟩),.int .u64 150] 267)).alloc (.cells #[.pointer (some ⟨11,237,none⟩),.pointer (some ⟨w.heap.size,0,none⟩),.int .u64 150] 267)).alloc (.cells #[.pointer (some e)] 235))
  (by rw [World.cell?_alloc_at _ _ _ _ (by simp)]; rfl)
  (by rw [World.cell?_alloc_lt _ _ t (by simp; omega),World.cell?_alloc_lt _ _ t (by simp; omega),World.cell?_alloc_lt _ _ t (by simp; omega),World.cell?_alloc_lt _ _ t htl]; exact ht0)
  (by rw [World.frozen?_alloc_old _ _ t (by simp; omega),World.frozen?_alloc_old _ _ t (by simp; omega),World.frozen?_alloc_old _ _ t (by simp; omega),World.frozen?_alloc_old _ _ t (Nat.ne_of_lt htl)]; exact hf0)
 go_enter Tryz.func161,Tryz.ntmps161
 go_wp2
 refine wp_loop_rounds 1 ?_
 rw [rounds_succ]
 go_wp2
 go_ret
 exact ⟨rfl,rfl⟩
end Go.Proofs.YtjegdngblndkcaaGreatDoor
