/-
  The operations of the model, one lemma each, over the calculus of frames and block lists. No program in sight. Conditions: none.
-/
import Derived.Test.YtapcgokcfmklbaaDoorCalc
import Derived.Maps.AppendAt
import Derived.KernelRfl
namespace Go.Proofs.YtapcgokcfmklbaaDoor
open Go Go.RowKit

/-! ### types, as closed facts -/
def agD : TypeDesc → Bool
  | .struct _ | .array _ _ => true
  | _ => false
/-- The zero cells of a type, whether it is made of several cells, its bytes. -/
def tyChk (P : Program) (t : TypeId) : Option (List Value × Bool × Nat) :=
  match P.info? t, P.underlying t with
  | some i, some d => match i.zero with
    | some zv => if i.size = zv.cells.size then some (zv.cells.toList, agD d, i.bytes) else none
    | none => none
  | _, _ => none
structure TyF (P : Program) (t : TypeId) (z : List Value) (ag : Bool) (by_ : Nat) : Prop where
  ex : ∃ i zv d, P.info? t = some i ∧ P.underlying t = some d ∧ i.zero = some zv ∧ i.size = z.length ∧ zv.cells = z.toArray ∧ agD d = ag ∧ i.bytes = by_
theorem tyF {P : Program} {t : TypeId} {z : List Value} {ag : Bool} {by_ : Nat} (h : tyChk P t = some (z, ag, by_)) : TyF P t z ag by_ := by
  unfold tyChk at h
  split at h
  · rename_i i d hi hd
    split at h
    · rename_i zv hz
      split at h
      · rename_i hs
        simp only [Option.some.injEq, Prod.mk.injEq] at h
        obtain ⟨h1, h2, h3⟩ := h
        exact ⟨i, zv, d, hi, hd, hz, by simp [hs, ← h1], by simp [← h1], h2, h3⟩
      · cases h
    · cases h
  · cases h
section
variable {P : Program} {w : World} {t : TypeId} {z : List Value} {ag : Bool} {by_ : Nat}
theorem run_zero (h : tyChk P t = some (z, ag, by_)) : ∃ zv, (zeroValue t).run P w = .ok zv w ∧ zv.cells = z.toArray := by
  obtain ⟨i, zv, d, hi, hd, hz, hs, hc, ha, hb⟩ := (tyF h).ex
  exact ⟨zv, by simp [zeroValue, typeInfo, hi, hz], hc⟩
theorem run_size (h : tyChk P t = some (z, ag, by_)) : (sizeOf t).run P w = .ok z.length w := by
  obtain ⟨i, zv, d, hi, hd, hz, hs, hc, ha, hb⟩ := (tyF h).ex
  simp [sizeOf, typeInfo, hi, hs]
theorem run_ag (h : tyChk P t = some (z, ag, by_)) : (isAgg t).run P w = .ok ag w := by
  obtain ⟨i, zv, d, hi, hd, hz, hs, hc, ha, hb⟩ := (tyF h).ex
  cases d <;> simp_all [isAgg, run_underlying hd, agD]
end

/-- A Go function that may be entered. -/
def callOK (P : Program) (f : FuncId) : Bool :=
  match P.funcs[f]? with
  | some fn => fn.name != "runtime.NumGoroutine" && fn.body.isSome
  | none => false
theorem run_callFunc {P : Program} {w : World} {f : FuncId} (h : callOK P f = true) (args : Array Value) : (callFunc f args).run P w = .ok (.enter f args) w := by
  unfold callOK at h
  split at h
  · rename_i fn hf
    simp only [Bool.and_eq_true, bne_iff_ne, ne_eq] at h
    have h2 : ¬ fn.body = none := by intro hb; simp [hb] at h
    simp [callFunc, hf, h.1, h2]
  · cases h

/-! ### contracts -/
def FnPost (W : World) (R : Value → HL → Prop) (x : Ending) (w' : World) : Prop := ∃ v H, x = .returned v ∧ Own W w' H ∧ R v H
/-- Called in world W, function f hands back a value and leaves blocks of its own that stand in the relation R. -/
def Fn_ (P : Program) (f : FuncId) (args : Array Value) (W : World) (R : Value → HL → Prop) : Prop := Calls P f args W (FnPost W R)
theorem Fn_.mono {P : Program} {f : FuncId} {args : Array Value} {W : World} {R R' : Value → HL → Prop} (h : Fn_ P f args W R) (hr : ∀ v H, R v H → R' v H) : Fn_ P f args W R' :=
  Calls.mono h fun _ _ ⟨v, H, h1, h2, h3⟩ => ⟨v, H, h1, h2, hr _ _ h3⟩

/-- An operation that only reads, over the blocks H: its value. -/
def QO (P : Program) (W : World) (H : HL) (e : Env) (op : Op) (ty : TypeId) (v : Value) : Prop :=
  ∀ (d : Option Tmp) (pos : String) (af : Array Edge) (gd : Option (Nat × Bool)) (w : World), Own W w H → (execOp (ev e) ⟨d, op, ty, pos, af, gd⟩).run P w = .ok (.value v) w
theorem w64 {a : Int} (h1 : -9223372036854775808 ≤ a) (h2 : a ≤ 9223372036854775807) : IntKind.i64.wrap a = a := by rw [IntKind.wrap_i64]; omega
theorem addr_add (g o k : Nat) : (⟨g, o, none⟩ : Addr).add k = ⟨g, o + k, none⟩ := by
  unfold Addr.add; split <;> simp_all
/-- On integers: what the kind's arithmetic gives. -/
def ib (op : BinOp) (k : IntKind) (i j : Int) : Value :=
  match op with
  | .add => .int k (k.wrap (i + j))
  | .sub => .int k (k.wrap (i - j))
  | .mul => .int k (k.wrap (i * j))
  | .quo => .int k (k.wrap (i.tdiv j))
  | .rem => .int k (i.tmod j)
  | .eql => .bool (i == j)
  | .neq => .bool (i != j)
  | .lss => .bool (decide (i < j))
  | .leq => .bool (decide (i ≤ j))
  | .gtr => .bool (decide (j < i))
  | .geq => .bool (decide (j ≤ i))
  | .and => .int k (k.wrap (BitVec.ofInt k.bits i &&& BitVec.ofInt k.bits j).toNat)
  | .or => .int k (k.wrap (BitVec.ofInt k.bits i ||| BitVec.ofInt k.bits j).toNat)
  | .xor => .int k (k.wrap (BitVec.ofInt k.bits i ^^^ BitVec.ofInt k.bits j).toNat)
  | .andNot => .int k (k.wrap (BitVec.ofInt k.bits i &&& ~~~ BitVec.ofInt k.bits j).toNat)
  | .shl => .int k (k.wrap (i * 2 ^ (min j.toNat k.bits)))
  | .shr => .int k (i.fdiv (2 ^ (min j.toNat k.bits)))
def ibOK (op : BinOp) (j : Int) : Prop :=
  match op with
  | .quo | .rem => j ≠ 0
  | .shl | .shr => 0 ≤ j
  | .add | .sub | .mul | .eql | .neq | .lss | .leq | .gtr | .geq | .and | .or | .xor | .andNot => True
section
variable {P : Program} {W : World} {n : Nat} {e : Env} {H : HL}
variable {ty t t' : TypeId} {x y z : Operand} {u v : Value} {zs : List Value} {ag : Bool} {by_ : Nat}
theorem eqg_int (op : BinOp) (x y : Operand) (k k' : IntKind) (i j : Int) (w : World) : (eqGuard op t x y (.int k i) (.int k' j)).run P w = .ok () w := by
  cases op <;> rfl
theorem eqg_float (op : BinOp) (x y : Operand) (k k' : FloatKind) (i j : Nat) (w : World) : (eqGuard op t x y (.float k i) (.float k' j)).run P w = .ok () w := by
  cases op <;> rfl
theorem eqg_bool (op : BinOp) (x y : Operand) (i j : Bool) (w : World) : (eqGuard op t x y (.bool i) (.bool j)).run P w = .ok () w := by
  cases op <;> rfl
theorem QO.move : QO P W H e (.move x) ty (ev e x) := fun d pos af gd w _ => by simp [execOp]
theorem QO.assign : QO P W H e (.assign x) ty (ev e x) := fun d pos af gd w _ => by simp [execOp]
theorem QO.pick {b : Bool} (hx : ev e x = .bool b) : QO P W H e (.pick x y z) ty (if b then ev e y else ev e z) := fun d pos af gd w _ => by simp [execOp, hx, asBool]
theorem QO.pickb {b c : Bool} (hx : ev e x = .bool b) (h1 : b = true → ev e y = .bool c) (h2 : b = false → ev e z = .bool c) : QO P W H e (.pick x y z) ty (.bool c) := fun d pos af gd w _ => by
  cases b <;> simp [execOp, hx, asBool, h1, h2]
theorem QO.bin {op : BinOp} (hx : ev e x = u) (hy : ev e y = v) {r : Value} (hq : ∀ w, (do eqGuard op t x y u v; binOp op t u v : Sem Value).run P w = .ok r w) : QO P W H e (.binOp op t x y t') ty r := fun d pos af gd w _ => by
  have := hq w; simp only [execOp, hx, hy]; simp only [Sem.run_bind] at this ⊢; rw [this]; rfl
theorem QO.ibin {op : BinOp} {k : IntKind} {i j : Int} (hx : ev e x = .int k i) (hy : ev e y = .int k j) (ok : ibOK op j) : QO P W H e (.binOp op t x y t') ty (ib op k i j) := by
  refine QO.bin hx hy (fun w => ?_)
  simp only [Sem.run_bind, eqg_int, Result.andThen_ok]
  cases op <;> simp only [ibOK] at ok <;> simp [binOp, ib, Op.intArith, Op.intDiv, Op.intBits, Op.intCmp, Op.shift, ok]
  all_goals (have : ¬ j < 0 := by omega); simp [this]
theorem QO.add {i j : Int} (hx : ev e x = .int .i64 i) (hy : ev e y = .int .i64 j) (h1 : -9223372036854775808 ≤ i + j) (h2 : i + j ≤ 9223372036854775807) : QO P W H e (.binOp .add t x y t') ty (.int .i64 (i + j)) := by
  have := QO.ibin (P := P) (W := W) (H := H) (ty := ty) (t := t) (t' := t') hx hy (op := .add) trivial; simpa only [ib, w64 h1 h2] using this
theorem QO.sub {i j : Int} (hx : ev e x = .int .i64 i) (hy : ev e y = .int .i64 j) (h1 : -9223372036854775808 ≤ i - j) (h2 : i - j ≤ 9223372036854775807) : QO P W H e (.binOp .sub t x y t') ty (.int .i64 (i - j)) := by
  have := QO.ibin (P := P) (W := W) (H := H) (ty := ty) (t := t) (t' := t') hx hy (op := .sub) trivial; simpa only [ib, w64 h1 h2] using this
theorem QO.mul {i j : Int} (hx : ev e x = .int .i64 i) (hy : ev e y = .int .i64 j) (h1 : -9223372036854775808 ≤ i * j) (h2 : i * j ≤ 9223372036854775807) : QO P W H e (.binOp .mul t x y t') ty (.int .i64 (i * j)) := by
  have := QO.ibin (P := P) (W := W) (H := H) (ty := ty) (t := t) (t' := t') hx hy (op := .mul) trivial; simpa only [ib, w64 h1 h2] using this
theorem QO.quo {i j : Int} (hx : ev e x = .int .i64 i) (hy : ev e y = .int .i64 j) (h0 : 0 < j) (h1 : -9223372036854775808 ≤ i) (h2 : i ≤ 9223372036854775807) : QO P W H e (.binOp .quo t x y t') ty (.int .i64 (i.tdiv j)) := by
  have hb : (i.tdiv j).natAbs ≤ i.natAbs := by rw [Int.natAbs_tdiv]; exact Nat.div_le_self ..
  have hw : IntKind.i64.wrap (i.tdiv j) = i.tdiv j := by
    by_cases hi : 0 ≤ i
    · have := Int.tdiv_nonneg hi (by omega : 0 ≤ j)
      exact w64 (by omega) (by omega)
    · have h3 := Int.tdiv_nonneg (show 0 ≤ -i by omega) (by omega : 0 ≤ j)
      rw [Int.neg_tdiv] at h3
      exact w64 (by omega) (by omega)
  have := QO.ibin (P := P) (W := W) (H := H) (ty := ty) (t := t) (t' := t') hx hy (op := .quo) (show j ≠ 0 by omega); simpa only [ib, hw] using this
theorem QO.rem {k : IntKind} {i j : Int} (hx : ev e x = .int k i) (hy : ev e y = .int k j) (h0 : j ≠ 0) : QO P W H e (.binOp .rem t x y t') ty (.int k (i.tmod j)) := QO.ibin hx hy (op := .rem) h0
theorem QO.lss {k : IntKind} {i j : Int} (hx : ev e x = .int k i) (hy : ev e y = .int k j) : QO P W H e (.binOp .lss t x y t') ty (.bool (decide (i < j))) := QO.ibin hx hy (op := .lss) trivial
theorem QO.leq {k : IntKind} {i j : Int} (hx : ev e x = .int k i) (hy : ev e y = .int k j) : QO P W H e (.binOp .leq t x y t') ty (.bool (decide (i ≤ j))) := QO.ibin hx hy (op := .leq) trivial
theorem QO.gtr {k : IntKind} {i j : Int} (hx : ev e x = .int k i) (hy : ev e y = .int k j) : QO P W H e (.binOp .gtr t x y t') ty (.bool (decide (j < i))) := QO.ibin hx hy (op := .gtr) trivial
theorem QO.geq {k : IntKind} {i j : Int} (hx : ev e x = .int k i) (hy : ev e y = .int k j) : QO P W H e (.binOp .geq t x y t') ty (.bool (decide (j ≤ i))) := QO.ibin hx hy (op := .geq) trivial
theorem QO.eql {k : IntKind} {i j : Int} (hx : ev e x = .int k i) (hy : ev e y = .int k j) : QO P W H e (.binOp .eql t x y t') ty (.bool (i == j)) := QO.ibin hx hy (op := .eql) trivial
theorem QO.neq {k : IntKind} {i j : Int} (hx : ev e x = .int k i) (hy : ev e y = .int k j) : QO P W H e (.binOp .neq t x y t') ty (.bool (i != j)) := QO.ibin hx hy (op := .neq) trivial
theorem QO.beql {i j : Bool} (hu : P.underlying t = some .bool) (hx : ev e x = .bool i) (hy : ev e y = .bool j) : QO P W H e (.binOp .eql t x y t') ty (.bool (i == j)) := by
  refine QO.bin hx hy (fun w => ?_)
  simp only [Sem.run_bind, eqg_bool, Result.andThen_ok]
  simp only [binOp]
  simp [run_equal_bool w t i j hu]
/-- On floats: comparisons. -/
theorem QO.fcmp {op : BinOp} {k : FloatKind} {i j : Nat} {b : Bool} (hx : ev e x = .float k i) (hy : ev e y = .float k j) (hb : ∀ w, (Op.floatCmp op k i j).run P w = .ok (.bool b) w)
    (hop : op = .eql ∨ op = .neq ∨ op = .lss ∨ op = .leq ∨ op = .gtr ∨ op = .geq) : QO P W H e (.binOp op t x y t') ty (.bool b) := by
  refine QO.bin hx hy (fun w => ?_)
  simp only [Sem.run_bind, eqg_float, Result.andThen_ok]
  rcases hop with h | h | h | h | h | h <;> subst h <;> simp [binOp, hb]
theorem QO.not {b : Bool} (hx : ev e x = .bool b) : QO P W H e (.unOp .not t x) ty (.bool !b) := fun d pos af gd w _ => by simp [execOp, hx, Op.unary]
theorem QO.neg {i : Int} (hx : ev e x = .int .i64 i) (h1 : -9223372036854775807 ≤ i) (h2 : i ≤ 9223372036854775807) : QO P W H e (.unOp .neg t x) ty (.int .i64 (-i)) := fun d pos af gd w _ => by
  simp [execOp, hx, Op.unary, Op.intArith]; exact w64 (by omega) (by omega)
/-! loads -/
theorem QO.load {g o : Nat} {tb : TypeId} {cs : List Value} (ht : tyChk P t = some (zs, false, by_)) (hx : ev e x = .pointer (some ⟨g, o, none⟩)) (hm : (⟨g, tb, cs⟩ : B) ∈ H) (hv : cs[o]? = some v) : QO P W H e (.load t x) ty v := fun d pos af gd w ho => by
  have hc : w.cell? ⟨g, o, none⟩ = some v := by rw [(ho.blk _ hm).2.cell]; exact hv
  simp [execOp, hx, Instr.loadAt, Instr.sureAddr, loadVar, run_ag ht, run_load, hc]
theorem QO.loadA {g o : Nat} {tb : TypeId} {cs vs : List Value} (ht : tyChk P t = some (zs, true, by_)) (hx : ev e x = .pointer (some ⟨g, o, none⟩)) (hm : (⟨g, tb, cs⟩ : B) ∈ H)
    (hv : (cs.drop o).take zs.length = vs) (hl : vs.length = zs.length) : QO P W H e (.load t x) ty (.agg vs.toArray) := fun d pos af gd w ho => by
  have hc : ∀ j v, vs[j]? = some v → w.cell? ((⟨g, o, none⟩ : Addr).add j) = some v := by
    intro j v hj
    rw [addr_add, (ho.blk _ hm).2.cell]
    rw [← hv, List.getElem?_take] at hj
    split at hj
    · rw [List.getElem?_drop] at hj; exact hj
    · cases hj
  have := run_loadCells_list (P := P) (w := w) ⟨g, o, none⟩ vs hc
  rw [hl] at this
  simp [execOp, hx, Instr.loadAt, Instr.sureAddr, loadVar, run_ag ht, run_size ht, this]
/-- the whole block -/
theorem QO.loadB {g : Nat} {tb : TypeId} {cs : List Value} (ht : tyChk P t = some (zs, true, by_)) (hx : ev e x = .pointer (some ⟨g, 0, none⟩)) (hm : (⟨g, tb, cs⟩ : B) ∈ H)
    (hl : cs.length = zs.length) : QO P W H e (.load t x) ty (.agg cs.toArray) := QO.loadA ht hx hm (by simp [← hl]) hl
theorem QO.loadO {a : Addr} (ht : tyChk P t = some (zs, false, by_)) (hx : ev e x = .pointer (some a)) (hc : W.cell? a = some v) : QO P W H e (.load t x) ty v := fun d pos af gd w ho => by
  simp [execOp, hx, Instr.loadAt, Instr.sureAddr, loadVar, run_ag ht, run_load, ho.old hc]
theorem QO.loadOA {a : Addr} {vs : List Value} (ht : tyChk P t = some (zs, true, by_)) (hx : ev e x = .pointer (some a)) (hc : ∀ j v, vs[j]? = some v → W.cell? (a.add j) = some v) (hl : vs.length = zs.length) : QO P W H e (.load t x) ty (.agg vs.toArray) := fun d pos af gd w ho => by
  have := run_loadCells_list (P := P) (w := w) a vs (fun j v hj => ho.old (hc j v hj))
  rw [hl] at this
  simp [execOp, hx, Instr.loadAt, Instr.sureAddr, loadVar, run_ag ht, run_size ht, this]
end
section
variable {P : Program} {W : World} {n : Nat} {ops : Array Oper} {Q : Env → HL → Prop} {rest : List Oper} {e : Env} {H : HL}
variable {d : Tmp} {ty t t' : TypeId} {pos : String} {af : Array Edge} {x y : Operand} {u v : Value} {z : List Value} {ag : Bool} {by_ : Nat}
theorem RS.q {op : Op} (hd : Nat.blt d n = true) (h : QO P W H e op ty v) (k : RS P W n ops Q rest (put e d v) H) : RS P W n ops Q (⟨some d, op, ty, pos, af, none⟩ :: rest) e H :=
  RS.step (d := some d) hd fun w ho => ⟨v, w, H, h _ _ _ _ w ho, ho, k⟩
theorem RS.qv {op : Op} {v' : Value} (hd : Nat.blt d n = true) (h : QO P W H e op ty v) (hv : v = v') (k : RS P W n ops Q rest (put e d v') H) : RS P W n ops Q (⟨some d, op, ty, pos, af, none⟩ :: rest) e H := by
  subst hv; exact RS.q hd h k
theorem RS.alloc (hd : Nat.blt d n = true) (ht : tyChk P t = some (z, ag, by_)) (k : ∀ g, RS P W n ops Q rest (put e d (.pointer (some ⟨g, 0, none⟩))) (⟨g, t, z⟩ :: H)) :
    RS P W n ops Q (⟨some d, .alloc t, ty, pos, af, none⟩ :: rest) e H := by
  refine RS.step (d := some d) hd fun w ho => ?_
  obtain ⟨zv, h1, h2⟩ := run_zero (w := w) ht
  refine ⟨_, _, _, ?_, ho.alloc t z, k _⟩
  simp [execOp, Instr.alloc, h1, newVar, newRow, h2]
theorem RS.box (hd : Nat.blt d n = true) (hx : ev e x = v) {cs : List Value} (hc : v.cells = cs.toArray) (k : ∀ g, RS P W n ops Q rest (put e d (.pointer (some ⟨g, 0, none⟩))) (⟨g, t, cs⟩ :: H)) :
    RS P W n ops Q (⟨some d, .box t x, ty, pos, af, none⟩ :: rest) e H := by
  refine RS.step (d := some d) hd fun w ho => ?_
  refine ⟨_, _, _, ?_, ho.alloc t cs, k _⟩
  simp [execOp, Instr.box, newVar, newRow, hx, hc]
/-! stores -/
theorem run_storeCells {g : Nat} {tb : TypeId} : ∀ (vs cs : List Value) (w : World) (o i : Nat), Blk w ⟨g, tb, cs⟩ → o + i + vs.length ≤ cs.length → (∀ v ∈ vs, v.oneCell' = true) →
    ∃ w', (storeCells ⟨g, o, none⟩ vs i).run P w = .ok () w' ∧ Blk w' ⟨g, tb, cs.take (o + i) ++ vs ++ cs.drop (o + i + vs.length)⟩ ∧ w'.heap.size = w.heap.size ∧ w'.os = w.os ∧ w'.tape = w.tape ∧ w'.output = w.output ∧
      ∀ k, k ≠ g → w'.heap[k]? = w.heap[k]? := by
  intro vs
  induction vs with
  | nil =>
    intro cs w o i hb hl _
    refine ⟨w, rfl, ?_, rfl, rfl, rfl, rfl, fun _ _ => rfl⟩
    simpa using hb
  | cons v vs ih =>
    intro cs w o i hb hl h1
    simp only [List.length_cons] at hl
    have hoi : o + i < cs.length := by omega
    have hb2 : Blk (w.setCell ⟨g, o + i, none⟩ v) ⟨g, tb, cs.set (o + i) v⟩ := by
      have hs := heap_setCell_same w g (o + i) cs.toArray tb v hb
      unfold Blk
      rw [hs]
      simp
    obtain ⟨w', r1, r2, r3, r4, r5, r6, r7⟩ := ih (cs.set (o + i) v) (w.setCell ⟨g, o + i, none⟩ v) o (i + 1) hb2 (by simp; omega) (fun u hu => h1 u (List.mem_cons_of_mem _ hu))
    refine ⟨w', ?_, ?_, by rw [r3]; simp, r4, r5, r6, fun k hk => (r7 k hk).trans (heap_setCell_other w _ k v hk)⟩
    · have hc : w.cell? ⟨g, o + i, none⟩ = some cs[o + i] := by rw [hb.cell]; exact List.getElem?_eq_getElem hoi
      have hf : w.frozen? ⟨g, o + i, none⟩ = false := hb.free _
      have hv : v.oneCell' = true := h1 v (List.mem_cons_self ..)
      unfold storeCells
      rw [addr_add]
      simp only [Sem.run_bind, run_store P w _ v _ hv, hc, hf]
      simpa using r1
    · have e1 : (cs.set (o + i) v).take (o + (i + 1)) = cs.take (o + i) ++ [v] := by
        rw [show o + (i + 1) = (o + i) + 1 from by omega, List.take_succ_eq_append_getElem (by simpa using hoi), List.take_set_of_le (Nat.le_refl _), List.getElem_set_self]
      have e2 : (cs.set (o + i) v).drop (o + (i + 1) + vs.length) = cs.drop (o + i + (v :: vs).length) := by
        rw [List.drop_set, if_pos (by omega)]
        congr 1
        simp; omega
      rw [e1, e2] at r2
      simpa using r2
theorem RS.store {g o : Nat} {tb : TypeId} {cs cs' vs : List Value} {H' : HL} (ht : tyChk P t = some (z, ag, by_)) (hx : ev e x = .pointer (some ⟨g, o, none⟩)) (hy : ev e y = v) (hc : v.cells = vs.toArray) (hl : vs.length = z.length)
    (h1 : vs.all (·.oneCell') = true) (hu : Upd g tb cs cs' H H') (ho : o + vs.length ≤ cs.length) (hcs : cs.take o ++ vs ++ cs.drop (o + vs.length) = cs')
    (k : RS P W n ops Q rest e H') : RS P W n ops Q (⟨none, .store t x y, ty, pos, af, none⟩ :: rest) e H := by
  refine RS.skip (d := none) rfl fun w hw => ?_
  obtain ⟨hg, hb⟩ := hw.blk _ hu.mem
  obtain ⟨w', r1, r2, r3, r4, r5, r6, r7⟩ := run_storeCells (P := P) vs cs w o 0 hb (by simpa using ho) (fun v hv => by simpa using List.all_eq_true.1 h1 v hv)
  refine ⟨w', H', ?_, hu.own hw ?_ (by simpa [hcs] using r2) (fun k hk _ => r7 k hk), k⟩
  · simp [execOp, hx, hy, Instr.storeAt, Instr.sureAddr, storeVar, hc, run_size ht, hl, r1]
  · refine hw.below.trans ⟨r4, r5, r6, by omega, fun k hk => r7 k ?_⟩
    have : W.heap.size ≤ g := hg
    omega
/-- a store of one cell -/
theorem RS.store1 {g o : Nat} {tb : TypeId} {cs : List Value} {H' : HL} (ht : tyChk P t = some (z, ag, by_)) (hz : z.length = 1) (hx : ev e x = .pointer (some ⟨g, o, none⟩)) (hy : ev e y = v) (h1 : v.oneCell' = true) (hu : Upd g tb cs (cs.set o v) H H') (ho : o < cs.length)
    (k : RS P W n ops Q rest e H') : RS P W n ops Q (⟨none, .store t x y, ty, pos, af, none⟩ :: rest) e H := by
  refine RS.store (vs := [v]) ht hx hy ?_ (by simp [hz]) (by simpa using h1) hu (by simp; omega) ?_ k
  · cases v <;> first | rfl | cases h1
  · simp [List.set_eq_take_append_cons_drop, ho]
/-- a store of one cell, what comes of it told -/
theorem RS.store1e {g o : Nat} {tb : TypeId} {cs cs' : List Value} {H' : HL} (ht : tyChk P t = some (z, ag, by_)) (hz : z.length = 1) (hx : ev e x = .pointer (some ⟨g, o, none⟩)) (hy : ev e y = v) (h1 : v.oneCell' = true) (hcs : cs.set o v = cs') (hu : Upd g tb cs cs' H H') (ho : o < cs.length)
    (k : RS P W n ops Q rest e H') : RS P W n ops Q (⟨none, .store t x y, ty, pos, af, none⟩ :: rest) e H := by
  subst hcs
  exact RS.store1 ht hz hx hy h1 hu ho k
/-- a store over the whole block -/
theorem RS.storeP {g o : Nat} {tb : TypeId} {cs vs : List Value} {H' : HL} (ht : tyChk P t = some (z, ag, by_)) (hx : ev e x = .pointer (some ⟨g, o, none⟩)) (hy : ev e y = v) (hc : v.cells = vs.toArray) (hl : vs.length = z.length)
    (h1 : vs.all (·.oneCell') = true) (hu : Upd g tb cs (cs.take o ++ vs ++ cs.drop (o + vs.length)) H H') (ho : Nat.ble (o + vs.length) cs.length = true)
    (k : RS P W n ops Q rest e H') : RS P W n ops Q (⟨none, .store t x y, ty, pos, af, none⟩ :: rest) e H := RS.store ht hx hy hc hl h1 hu (Nat.le_of_ble_eq_true ho) rfl k
theorem RS.storeB {g : Nat} {tb : TypeId} {cs vs : List Value} {H' : HL} (ht : tyChk P t = some (z, ag, by_)) (hx : ev e x = .pointer (some ⟨g, 0, none⟩)) (hy : ev e y = v) (hc : v.cells = vs.toArray) (hl : vs.length = z.length)
    (h1 : vs.all (·.oneCell') = true) (hu : Upd g tb cs vs H H') (ho : vs.length = cs.length)
    (k : RS P W n ops Q rest e H') : RS P W n ops Q (⟨none, .store t x y, ty, pos, af, none⟩ :: rest) e H :=
  RS.store ht hx hy hc hl h1 hu (by omega) (by simp [ho]) k
end
section
variable {P : Program} {W : World} {n : Nat} {e : Env} {H : HL} {ty : TypeId} {x y z : Operand}
theorem QO.pickT {b : Bool} {v : Value} (hx : ev e x = .bool b) (hb : b = true) (hv : ev e y = v) : QO P W H e (.pick x y z) ty v := by
  subst hb hv; exact QO.pick hx
theorem QO.pickF {b : Bool} {v : Value} (hx : ev e x = .bool b) (hb : b = false) (hv : ev e z = v) : QO P W H e (.pick x y z) ty v := by
  subst hb hv; exact QO.pick hx
end
end Go.Proofs.YtapcgokcfmklbaaDoor
