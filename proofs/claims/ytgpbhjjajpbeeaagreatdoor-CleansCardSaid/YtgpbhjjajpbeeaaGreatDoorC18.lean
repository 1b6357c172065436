/-
  A disk that is being laid by files, as plain mathematics. No program in sight.
-/
import Derived.Test.YtgpbhjjajpbeeaaGreatDoorC17
import Derived.Test.YtgpbhjjajpbeeaaGreatDoorC02
import Derived.LaidEql
import Derived.Stop.Asserts
import Derived.RowKitTokens
set_option linter.unusedSimpArgs false
set_option linter.unusedVariables false
set_option linter.unnecessarySimpa false
namespace Go.Proofs.YtgpbhjjajpbeeaaGreatDoor
open Go.RowKit Go.Lib Go.Maps Dk
--PURE2
namespace Dk
/-- a disk of at most k files, each synced; its moves are names given -/
structure D.Built (d : D) (k : Nat) : Prop where
  calm : d.Calm
  nodup : (d.now.map (·.1)).Nodup
  safe : d.safe = []
  same : SameMap (d.moves.foldl setMoves []) d.now
  synced : ∀ x ∈ d.ids, (d.node x).safe = (d.node x).data.length
  bound : ∀ x ∈ d.ids, (d.node x).data.length ≤ 1099511627776
  room : d.room = 1099511627776
  named : ∀ p ∈ d.now, p.2 ∈ d.ids
  names : ∀ p ∈ d.now, p.1.length ≤ 1000000
  len : d.now.length ≤ k
  mlen : d.moves.length ≤ k
  mnames : ∀ l ∈ d.moves, l.length ≤ 1000000 ∧ ∀ m ∈ l, m.1.length ≤ 1000000
theorem aPut_len {α β : Type} [DecidableEq α] (l : List (α × β)) (x : α) (y : β) : (aPut l x y).length ≤ l.length + 1 := by
  unfold aPut; split <;> simp
theorem D.Built.empty : (⟨[], [], [], 1099511627776, 0, 0, [], fun _ => ⟨[], 0⟩⟩ : D).Built 0 :=
  ⟨⟨rfl, rfl⟩, by simp, rfl, fun _ => rfl, by simp, by simp, rfl, by simp, by simp, by simp, by simp, by simp⟩
theorem D.Built.more {d : D} {k m : Nat} (h : d.Built k) (hk : k ≤ m) : d.Built m :=
  { h with len := Nat.le_trans h.len hk, mlen := Nat.le_trans h.mlen hk }
theorem D.Built.create {d : D} {k : Nat} (h : d.Built k) {n : Nm} {x : Nat} (hx : x ∉ d.ids) (hn : n.length ≤ 1000000) : (d.create n x).2.Built (k + 1) := by
  have e1 : d.fails = (false, d) := h.calm.fails
  unfold D.create
  rw [e1]
  dsimp only
  rw [if_neg (by simp)]
  by_cases hs : (aLook d.now n).isSome = true
  · rw [if_pos hs]; exact h.more (Nat.le_succ k)
  · rw [if_neg hs]
    have hu : ∀ y ∈ d.ids, upd d.node x ⟨[], 0⟩ y = d.node y := fun y hy => by
      unfold upd; rw [if_neg (show ¬ y = x from fun e => hx (e ▸ hy))]
    have hux : upd d.node x ⟨[], 0⟩ x = ⟨[], 0⟩ := by unfold upd; rw [if_pos rfl]
    refine ⟨h.calm, setMoves_nodup _ h.nodup, h.safe, ?_, ?_, ?_, h.room, ?_, ?_, ?_, ?_, ?_⟩
    · show SameMap ((d.moves ++ [[(n, some x)]]).foldl setMoves []) (setMoves d.now [(n, some x)])
      rw [List.foldl_append]
      exact look_setMoves _ h.same
    · intro y hy
      show (upd d.node x ⟨[], 0⟩ y).safe = (upd d.node x ⟨[], 0⟩ y).data.length
      rcases List.mem_append.1 hy with hy | hy
      · rw [hu y hy]; exact h.synced y hy
      · simp at hy; subst hy; rw [hux]; rfl
    · intro y hy
      show (upd d.node x ⟨[], 0⟩ y).data.length ≤ _
      rcases List.mem_append.1 hy with hy | hy
      · rw [hu y hy]; exact h.bound y hy
      · simp at hy; subst hy; rw [hux]; simp
    · intro p hp
      show p.2 ∈ d.ids ++ [x]
      rcases aPut_mem (show p ∈ aPut d.now n x from hp) with rfl | hp
      · simp
      · exact List.mem_append.2 (.inl (h.named p hp))
    · intro p hp
      rcases aPut_mem (show p ∈ aPut d.now n x from hp) with rfl | hp
      · exact hn
      · exact h.names p hp
    · have := aPut_len d.now n x
      have := h.len
      show (aPut d.now n x).length ≤ k + 1
      omega
    · show (d.moves ++ [[(n, some x)]]).length ≤ k + 1
      have := h.mlen
      simp; omega
    · intro l hl
      rcases List.mem_append.1 (show l ∈ d.moves ++ [[(n, some x)]] from hl) with hl | hl
      · exact h.mnames l hl
      · simp at hl; subst hl
        exact ⟨by simp, fun m hm => by simp at hm; subst hm; exact hn⟩
theorem D.Calm.append {d : D} (h : d.Calm) (n : Nm) (b : List UInt8) : d.append n b = match aLook d.now n with | none => (.file 11 n, d) | some x => if d.room - d.used < b.length then (.file 10 n, d) else (.ok, d.setNode x { d.node x with data := (d.node x).data ++ b }) := by
  unfold D.append; rw [h.find]
  cases aLook d.now n <;> rfl
theorem D.Calm.sync {d : D} (h : d.Calm) (n : Nm) : d.sync n = match aLook d.now n with | none => (.file 11 n, d) | some x => (.ok, d.setNode x { d.node x with safe := (d.node x).data.length }) := by
  unfold D.sync; rw [h.find]
  cases aLook d.now n <;> rfl
theorem le_sum {α : Type} {f : α → Nat} {l : List α} {p : α} (h : p ∈ l) : f p ≤ (l.map f).sum := by
  induction l with
  | nil => cases h
  | cons q l ih =>
    rw [List.map_cons, List.sum_cons]
    rcases List.mem_cons.1 h with rfl | h
    · omega
    · have := ih h; omega
theorem used_ge {d : D} {p : Nm × Nat} (hp : p ∈ d.now) : (d.node p.2).data.length ≤ d.used := by
  unfold D.used
  exact le_sum (f := fun p => (d.node p.2).data.length) hp
/-- a node turned, and safe -/
theorem D.Built.node {d : D} {k : Nat} (h : d.Built k) {x : Nat} {y : Nd} (hy : y.safe = y.data.length) (hb : y.data.length ≤ 1099511627776) : (d.setNode x y).Built k := by
  refine ⟨h.calm, h.nodup, h.safe, h.same, ?_, ?_, h.room, h.named, h.names, h.len, h.mlen, h.mnames⟩
  · intro z hz
    show (upd d.node x y z).safe = (upd d.node x y z).data.length
    unfold upd; split
    · exact hy
    · exact h.synced z hz
  · intro z hz
    show (upd d.node x y z).data.length ≤ _
    unfold upd; split
    · exact hb
    · exact h.bound z hz
theorem D.Built.sync {d : D} {k : Nat} (h : d.Built k) (n : Nm) : (d.sync n).2.Built k := by
  rw [h.calm.sync]
  cases e : aLook d.now n with
  | none => exact h
  | some x => exact h.node rfl (h.bound x (h.named _ (aLook_mem e)))
theorem setNode_setNode (d : D) (x : Nat) (y z : Nd) : (d.setNode x y).setNode x z = d.setNode x z := by
  unfold D.setNode
  congr 1
  funext i
  show upd (upd d.node x y) x z i = upd d.node x z i
  unfold upd; split <;> rfl
theorem D.Built.appendSync {d : D} {k : Nat} (h : d.Built k) (n : Nm) (b : List UInt8) : ((d.append n b).2.sync n).2.Built k := by
  rw [h.calm.append]
  cases e : aLook d.now n with
  | none => exact h.sync n
  | some x =>
    dsimp only
    by_cases hr : d.room - d.used < b.length
    · rw [if_pos hr]; exact h.sync n
    · rw [if_neg hr]
      have hc : (d.setNode x { d.node x with data := (d.node x).data ++ b }).Calm := h.calm
      rw [hc.sync]
      have e' : aLook (d.setNode x { d.node x with data := (d.node x).data ++ b }).now n = some x := e
      rw [e']
      dsimp only
      rw [setNode_setNode]
      have hu : (d.setNode x { d.node x with data := (d.node x).data ++ b }).node x = { d.node x with data := (d.node x).data ++ b } := by
        show upd d.node x _ x = _
        unfold upd; rw [if_pos rfl]
      refine h.node ?_ ?_
      · rw [hu]
      · rw [hu]
        show ((d.node x).data ++ b).length ≤ _
        rw [List.length_append]
        have := used_ge (aLook_mem e)
        have := h.room
        dsimp only at *
        omega
theorem D.append_same {d : D} (h : d.Calm) (n : Nm) (b : List UInt8) : (d.append n b).2.Calm ∧ (d.append n b).2.ids = d.ids ∧ (d.append n b).2.now = d.now ∧ (d.append n b).2.moves = d.moves := by
  rw [h.append]
  cases aLook d.now n with
  | none => exact ⟨h, rfl, rfl, rfl⟩
  | some x => dsimp only; split <;> exact ⟨h, rfl, rfl, rfl⟩
/-- at last all is safe -/
theorem D.Built.syncDir {d : D} {k : Nat} (h : d.Built k) : ∃ e : D, d.syncDir = (.ok, e) ∧ e.Safe ∧ e.now = d.now ∧ e.ids = d.ids ∧ e.node = d.node := by
  refine ⟨_, h.calm.syncDir, ⟨h.calm, rfl, ?_, h.nodup, ?_, ?_⟩, rfl, rfl, rfl⟩
  · show SameMap (d.moves.foldl setMoves d.safe) d.now
    rw [h.safe]; exact h.same
  · show ((d.moves.foldl setMoves d.safe).map (·.1)).Nodup
    rw [h.safe]; exact foldMoves_nodup _ (by simp)
  · intro p hp
    have hp' : p ∈ d.moves.foldl setMoves [] := by
      have : p ∈ d.moves.foldl setMoves d.safe := hp
      rwa [h.safe] at this
    have hn : ((d.moves.foldl setMoves []).map (·.1)).Nodup := foldMoves_nodup _ (by simp)
    have e1 := aLook_of_mem hn hp'
    rw [h.same] at e1
    exact h.synced _ (h.named _ (aLook_mem e1))
end Dk
--END2
end Go.Proofs.YtgpbhjjajpbeeaaGreatDoor
/-
  errors.As at the two targets that api.Tell has (a *api.FileError variable, an api.Errno variable): by its own text. After the guide's worked example Toyas.
-/
namespace Go.Proofs.YtgpbhjjajpbeeaaGreatDoor
open Go.RowKit Go.Extern.Stop Go.Stop Go.Extern

theorem as_nil (t : Value) (w : World) :
    Calls Tryz.prog 65 #[.nilIface, t] w fun e w' => e = .returned (.bool false) ∧ w = w' := by
  go_enter Tryz.func65, Tryz.ntmps65
  go_wp2
  go_ret
  exact ⟨rfl, rfl⟩
theorem methodKind (h : Value) (w : World) : (Go.method 495 275 (.agg #[h]) "Kind").run Tryz.prog w = .ok (248, h) w := by kernel_rfl
theorem methodElem (h : Value) (w : World) : (Go.method 495 275 (.agg #[h]) "Elem").run Tryz.prog w = .ok (261, .agg #[h]) w := by kernel_rfl
theorem methodImplements (h : Value) (w : World) : (Go.method 495 275 (.agg #[h]) "Implements").run Tryz.prog w = .ok (262, .agg #[h]) w := by kernel_rfl
theorem methodAssignableTo (h : Value) (w : World) : (Go.method 495 275 (.agg #[h]) "AssignableTo").run Tryz.prog w = .ok (259, .agg #[h]) w := by kernel_rfl
theorem rlm (z : Sem Value) (f : TypeId → Addr → Nat → Nat → Sem Value) (v : Value) :
    ReflectliteValue.method z f #[v] = (do match ← ReflectliteValue.parts v with | none => z | some (t, a, fl) => f t a fl (fl % 32)) := rfl
theorem rls (v x : Value) : ReflectliteValue.set #[v, x] = (do
    let (some (dst, a, fl), some (src, b, _)) := (← ReflectliteValue.parts v, ← ReflectliteValue.parts x)
      | unsupported (.noEntry "extern/(internal/reflectlite.Value).Set.zeroValue")
    if fl / ReflectliteValue.flagAddr % 2 == 0 then unsupported (.noEntry "extern/(internal/reflectlite.Value).Set.unaddressable")
    let val ← loadVar src b
    if ← Rtype.directlyAssignable dst src then storeVar dst a val
    else if ← Rtype.implements dst src then
      if (← Rtype.kind src) == 20 then
        match val with
        | .nilIface => unsupported (.noEntry "extern/reflectlite: a nil value of one interface type handed on as a value of another")
        | _ => storeVar dst a val
      else storeVar dst a (.iface src val)
    else panicString ("reflectlite.Set: value of type " ++ (← Rtype.spelt src) ++ " is not assignable to type " ++ (← Rtype.spelt dst))
    pure (.tuple #[])) := rfl

/-! ### target 162, element 132 -/
theorem valueOfPF (t : Addr) (w : World) : (ReflectliteValue.unpack (.iface 162 (.pointer (some t)))).run Tryz.prog w
    = .ok (.agg #[.pointer (some ⟨7, 162, none⟩), .pointer (some ⟨w.heap.size, 0, none⟩), .int .u64 150]) (w.alloc (.cells #[.pointer (some t)] 162)) := by kernel_rfl
theorem typePF (a : Addr) (w : World) : (ReflectliteValue.methodAny (ReflectliteValue.valueError "reflectlite.Value.Type" 0) (fun t _ _ _ => ReflectliteType.toType t) #[.agg #[.pointer (some ⟨7, 162, none⟩), .pointer (some a), .int .u64 150]]).run Tryz.prog w
    = .ok (.iface 275 (.agg #[.pointer (some ⟨7, 162, none⟩)])) w := by kernel_rfl
theorem kindPF (w : World) : ((ReflectliteType.abiMethod fun t => (fun a : Nat => Value.int IntKind.u8 (a : Int)) <$> Rtype.kind t) #[.pointer (some ⟨7, 162, none⟩)]).run Tryz.prog w = .ok (.int .u8 22) w := by kernel_rfl
theorem kindEF (w : World) : ((ReflectliteType.abiMethod fun t => (fun a : Nat => Value.int IntKind.u8 (a : Int)) <$> Rtype.kind t) #[.pointer (some ⟨7, 132, none⟩)]).run Tryz.prog w = .ok (.int .u8 22) w := by kernel_rfl
theorem partsPF (a : Addr) (w : World) : (ReflectliteValue.parts (.agg #[.pointer (some ⟨7, 162, none⟩), .pointer (some a), .int .u64 150])).run Tryz.prog w = .ok (some (162, a, 150)) w := by kernel_rfl
theorem isNilPF (a p : Addr) (W : World) (ha : W.cell? a = some (.pointer (some p))) :
    (ReflectliteValue.method (ReflectliteValue.valueError "reflectlite.Value.IsNil" 0) ReflectliteValue.isNil #[.agg #[.pointer (some ⟨7, 162, none⟩), .pointer (some a), .int .u64 150]]).run Tryz.prog W = .ok (.bool false) W := by
  rw [rlm]
  simp only [Sem.run_bind, partsPF, Result.andThen]
  simp [ReflectliteValue.isNil, loadVar, isAgg, underlying, Tryz.underlying162, ha, Result.andThen]
theorem elemPF (w : World) : (ReflectliteType.method ReflectliteType.elem #[.agg #[.pointer (some ⟨7, 162, none⟩)]]).run Tryz.prog w = .ok (.iface 275 (.agg #[.pointer (some ⟨7, 132, none⟩)])) w := by kernel_rfl
theorem implementsEF (w : World) : (ReflectliteType.relation "Implements" ReflectliteType.implements_ #[.agg #[.pointer (some ⟨7, 132, none⟩)], .iface 275 (.agg #[.pointer (some ⟨7, 34, none⟩)])]).run Tryz.prog w = .ok (.bool true) w := by kernel_rfl
theorem typeOfEF (v : Value) (w : World) : (ReflectliteType.typeOf #[.iface 132 v]).run Tryz.prog w = .ok (.iface 275 (.agg #[.pointer (some ⟨7, 132, none⟩)])) w := by kernel_rfl
theorem assignableEF (w : World) : (ReflectliteType.relation "AssignableTo" ReflectliteType.assignableTo #[.agg #[.pointer (some ⟨7, 132, none⟩)], .iface 275 (.agg #[.pointer (some ⟨7, 132, none⟩)])]).run Tryz.prog w = .ok (.bool true) w := by kernel_rfl
theorem valueOfEF (e : Addr) (w : World) : (ReflectliteValue.unpack (.iface 132 (.pointer (some e)))).run Tryz.prog w
    = .ok (.agg #[.pointer (some ⟨7, 132, none⟩), .pointer (some ⟨w.heap.size, 0, none⟩), .int .u64 150]) (w.alloc (.cells #[.pointer (some e)] 132)) := by kernel_rfl
theorem elemOfPF (w : World) : (Rtype.elem? 162).run Tryz.prog w = .ok (some 132) w := by kernel_rfl
theorem mkEF (p : Addr) (w : World) : (ReflectliteValue.mk 132 p ReflectliteValue.flagAddr).run Tryz.prog w = .ok (.agg #[.pointer (some ⟨7, 132, none⟩), .pointer (some p), .int .u64 406]) w := by kernel_rfl
theorem elemVF (a p : Addr) (W : World) (ha : W.cell? a = some (.pointer (some p))) :
    (ReflectliteValue.method (ReflectliteValue.valueError "reflectlite.Value.Elem" 0) ReflectliteValue.elem #[.agg #[.pointer (some ⟨7, 162, none⟩), .pointer (some a), .int .u64 150]]).run Tryz.prog W
      = .ok (.agg #[.pointer (some ⟨7, 132, none⟩), .pointer (some p), .int .u64 406]) W := by
  rw [rlm]
  simp only [Sem.run_bind, partsPF, Result.andThen]
  simp [ReflectliteValue.elem, loadVar, isAgg, underlying, Tryz.underlying162, ha, Result.andThen, elemOfPF, mkEF]
theorem partsEaF (a : Addr) (w : World) : (ReflectliteValue.parts (.agg #[.pointer (some ⟨7, 132, none⟩), .pointer (some a), .int .u64 406])).run Tryz.prog w = .ok (some (132, a, 406)) w := by kernel_rfl
theorem partsEF (a : Addr) (w : World) : (ReflectliteValue.parts (.agg #[.pointer (some ⟨7, 132, none⟩), .pointer (some a), .int .u64 150])).run Tryz.prog w = .ok (some (132, a, 150)) w := by kernel_rfl
theorem directEF (w : World) : (Rtype.directlyAssignable 132 132).run Tryz.prog w = .ok true w := by kernel_rfl
theorem sizeEF (w : World) : (sizeOf 132).run Tryz.prog w = .ok 1 w := by kernel_rfl
theorem setEF (ta b : Addr) (e : Addr) (old : Value) (W : World) (hb : W.cell? b = some (.pointer (some e))) (ht : W.cell? ta = some old) (hf : W.frozen? ta = false) :
    (ReflectliteValue.set #[.agg #[.pointer (some ⟨7, 132, none⟩), .pointer (some ta), .int .u64 406], .agg #[.pointer (some ⟨7, 132, none⟩), .pointer (some b), .int .u64 150]]).run Tryz.prog W
      = .ok (.tuple #[]) (W.setCell ta (.pointer (some e))) := by
  rw [rls]
  simp only [Sem.run_bind, partsEaF, partsEF, Result.andThen]
  simp [ReflectliteValue.flagAddr, loadVar, isAgg, underlying, Tryz.underlying132, hb, Result.andThen, directEF, storeVar, Value.cells, storeCells, Addr.add]
  rw [run_store Tryz.prog W ta _ _ (by rfl)]
  simp [ht, hf]

/-! ### target 163, element 37 -/
theorem valueOfPN (t : Addr) (w : World) : (ReflectliteValue.unpack (.iface 163 (.pointer (some t)))).run Tryz.prog w
    = .ok (.agg #[.pointer (some ⟨7, 163, none⟩), .pointer (some ⟨w.heap.size, 0, none⟩), .int .u64 150]) (w.alloc (.cells #[.pointer (some t)] 163)) := by kernel_rfl
theorem typePN (a : Addr) (w : World) : (ReflectliteValue.methodAny (ReflectliteValue.valueError "reflectlite.Value.Type" 0) (fun t _ _ _ => ReflectliteType.toType t) #[.agg #[.pointer (some ⟨7, 163, none⟩), .pointer (some a), .int .u64 150]]).run Tryz.prog w
    = .ok (.iface 275 (.agg #[.pointer (some ⟨7, 163, none⟩)])) w := by kernel_rfl
theorem kindPN (w : World) : ((ReflectliteType.abiMethod fun t => (fun a : Nat => Value.int IntKind.u8 (a : Int)) <$> Rtype.kind t) #[.pointer (some ⟨7, 163, none⟩)]).run Tryz.prog w = .ok (.int .u8 22) w := by kernel_rfl
theorem kindEN (w : World) : ((ReflectliteType.abiMethod fun t => (fun a : Nat => Value.int IntKind.u8 (a : Int)) <$> Rtype.kind t) #[.pointer (some ⟨7, 37, none⟩)]).run Tryz.prog w = .ok (.int .u8 2) w := by kernel_rfl
theorem partsPN (a : Addr) (w : World) : (ReflectliteValue.parts (.agg #[.pointer (some ⟨7, 163, none⟩), .pointer (some a), .int .u64 150])).run Tryz.prog w = .ok (some (163, a, 150)) w := by kernel_rfl
theorem isNilPN (a p : Addr) (W : World) (ha : W.cell? a = some (.pointer (some p))) :
    (ReflectliteValue.method (ReflectliteValue.valueError "reflectlite.Value.IsNil" 0) ReflectliteValue.isNil #[.agg #[.pointer (some ⟨7, 163, none⟩), .pointer (some a), .int .u64 150]]).run Tryz.prog W = .ok (.bool false) W := by
  rw [rlm]
  simp only [Sem.run_bind, partsPN, Result.andThen]
  simp [ReflectliteValue.isNil, loadVar, isAgg, underlying, Tryz.underlying163, ha, Result.andThen]
theorem elemPN (w : World) : (ReflectliteType.method ReflectliteType.elem #[.agg #[.pointer (some ⟨7, 163, none⟩)]]).run Tryz.prog w = .ok (.iface 275 (.agg #[.pointer (some ⟨7, 37, none⟩)])) w := by kernel_rfl
theorem implementsEN (w : World) : (ReflectliteType.relation "Implements" ReflectliteType.implements_ #[.agg #[.pointer (some ⟨7, 37, none⟩)], .iface 275 (.agg #[.pointer (some ⟨7, 34, none⟩)])]).run Tryz.prog w = .ok (.bool true) w := by kernel_rfl
theorem typeOfEN (v : Value) (w : World) : (ReflectliteType.typeOf #[.iface 37 v]).run Tryz.prog w = .ok (.iface 275 (.agg #[.pointer (some ⟨7, 37, none⟩)])) w := by kernel_rfl
theorem assignableEN (w : World) : (ReflectliteType.relation "AssignableTo" ReflectliteType.assignableTo #[.agg #[.pointer (some ⟨7, 37, none⟩)], .iface 275 (.agg #[.pointer (some ⟨7, 37, none⟩)])]).run Tryz.prog w = .ok (.bool true) w := by kernel_rfl
theorem valueOfEN (n : Int) (w : World) : (ReflectliteValue.unpack (.iface 37 (.int .i64 n))).run Tryz.prog w
    = .ok (.agg #[.pointer (some ⟨7, 37, none⟩), .pointer (some ⟨w.heap.size, 0, none⟩), .int .u64 130]) (w.alloc (.cells #[.int .i64 n] 37)) := by kernel_rfl
theorem elemOfPN (w : World) : (Rtype.elem? 163).run Tryz.prog w = .ok (some 37) w := by kernel_rfl
theorem mkEN (p : Addr) (w : World) : (ReflectliteValue.mk 37 p ReflectliteValue.flagAddr).run Tryz.prog w = .ok (.agg #[.pointer (some ⟨7, 37, none⟩), .pointer (some p), .int .u64 386]) w := by kernel_rfl
theorem elemVN (a p : Addr) (W : World) (ha : W.cell? a = some (.pointer (some p))) :
    (ReflectliteValue.method (ReflectliteValue.valueError "reflectlite.Value.Elem" 0) ReflectliteValue.elem #[.agg #[.pointer (some ⟨7, 163, none⟩), .pointer (some a), .int .u64 150]]).run Tryz.prog W
      = .ok (.agg #[.pointer (some ⟨7, 37, none⟩), .pointer (some p), .int .u64 386]) W := by
  rw [rlm]
  simp only [Sem.run_bind, partsPN, Result.andThen]
  simp [ReflectliteValue.elem, loadVar, isAgg, underlying, Tryz.underlying163, ha, Result.andThen, elemOfPN, mkEN]
theorem partsEaN (a : Addr) (w : World) : (ReflectliteValue.parts (.agg #[.pointer (some ⟨7, 37, none⟩), .pointer (some a), .int .u64 386])).run Tryz.prog w = .ok (some (37, a, 386)) w := by kernel_rfl
theorem partsEN (a : Addr) (w : World) : (ReflectliteValue.parts (.agg #[.pointer (some ⟨7, 37, none⟩), .pointer (some a), .int .u64 130])).run Tryz.prog w = .ok (some (37, a, 130)) w := by kernel_rfl
theorem directEN (w : World) : (Rtype.directlyAssignable 37 37).run Tryz.prog w = .ok true w := by kernel_rfl
theorem sizeEN (w : World) : (sizeOf 37).run Tryz.prog w = .ok 1 w := by kernel_rfl
theorem setEN (ta b : Addr) (n : Int) (old : Value) (W : World) (hb : W.cell? b = some (.int .i64 n)) (ht : W.cell? ta = some old) (hf : W.frozen? ta = false) :
    (ReflectliteValue.set #[.agg #[.pointer (some ⟨7, 37, none⟩), .pointer (some ta), .int .u64 386], .agg #[.pointer (some ⟨7, 37, none⟩), .pointer (some b), .int .u64 130]]).run Tryz.prog W
      = .ok (.tuple #[]) (W.setCell ta (.int .i64 n)) := by
  rw [rls]
  simp only [Sem.run_bind, partsEaN, partsEN, Result.andThen]
  simp [ReflectliteValue.flagAddr, loadVar, isAgg, underlying, Tryz.underlying37, hb, Result.andThen, directEN, storeVar, Value.cells, storeCells, Addr.add]
  rw [run_store Tryz.prog W ta _ _ (by rfl)]
  simp [ht, hf]

theorem assignableNF (w : World) : (ReflectliteType.relation "AssignableTo" ReflectliteType.assignableTo #[.agg #[.pointer (some ⟨7, 37, none⟩)], .iface 275 (.agg #[.pointer (some ⟨7, 132, none⟩)])]).run Tryz.prog w = .ok (.bool false) w := by kernel_rfl
end Go.Proofs.YtgpbhjjajpbeeaaGreatDoor
