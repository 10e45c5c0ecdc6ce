/-
  More operations over the calculus: fields, indexes, makes, calls, slices, appends, floats; the way into a function and out of it. No program in sight. Conditions: none.
-/
import Derived.Test.YtapcgokcfmklbaaDoorOps
namespace Go.Proofs.YtapcgokcfmklbaaDoor
open Go Go.RowKit

def fldOff (P : Program) (s : TypeId) (i : Nat) : Option (Nat × TypeId) :=
  match P.underlying s with
  | some (.struct fs) => match fs[i]? with
    | some f => match P.info? f.type with
      | some inf => if inf.size = 0 then none else some (f.offset, f.type)
      | none => none
    | none => none
  | _ => none
theorem fldOff_spec {P : Program} {s : TypeId} {i k : Nat} {tf : TypeId} (h : fldOff P s i = some (k, tf)) :
    ∃ fs f inf, P.underlying s = some (.struct fs) ∧ fs[i]? = some f ∧ P.info? f.type = some inf ∧ inf.size ≠ 0 ∧ f.offset = k ∧ f.type = tf := by
  unfold fldOff at h
  split at h
  · rename_i fs hu
    split at h
    · rename_i f hf
      split at h
      · rename_i inf hi
        split at h
        · cases h
        · rename_i hs
          simp only [Option.some.injEq, Prod.mk.injEq] at h
          exact ⟨fs, f, inf, hu, hf, hi, hs, h.1, h.2⟩
      · cases h
    · cases h
  · cases h

section
variable {P : Program} {W : World} {n : Nat} {e : Env} {H : HL}
variable {ty t t' tf : TypeId} {x y : Operand} {u v : Value} {z : List Value} {ag : Bool} {by_ : Nat}
theorem QO.fieldAddr {i k g o : Nat} (hf : fldOff P t i = some (k, tf)) (hx : ev e x = .pointer (some ⟨g, o, none⟩)) : QO P W H e (.fieldAddr t x i) ty (.pointer (some ⟨g, o + k, none⟩)) := fun d pos af gd w _ => by
  obtain ⟨fs, f, inf, hu, hfi, hi, hs, rfl, rfl⟩ := fldOff_spec hf
  simp [execOp, hx, Instr.fieldAt, run_underlying hu, hfi, Instr.sureAddr, fieldPlace, sizeOf, typeInfo, hi, hs, addr_add]
theorem QO.field {i k : Nat} {cs : List Value} (hf : fldOff P t i = some (k, tf)) (ht : tyChk P tf = some (z, false, by_)) (hx : ev e x = .agg cs.toArray) (hv : cs[k]? = some v) : QO P W H e (.field t x i) ty v := fun d pos af gd w _ => by
  obtain ⟨fs, f, inf, hu, hfi, hi, hs, rfl, rfl⟩ := fldOff_spec hf
  simp [execOp, hx, Instr.field, run_underlying hu, hfi, asAgg, part, run_ag ht, hv]
theorem QO.fieldA {i k : Nat} {cs vs : List Value} (hf : fldOff P t i = some (k, tf)) (ht : tyChk P tf = some (z, true, by_)) (hx : ev e x = .agg cs.toArray) (hv : (cs.drop k).take z.length = vs) : QO P W H e (.field t x i) ty (.agg vs.toArray) := fun d pos af gd w _ => by
  obtain ⟨fs, f, inf, hu, hfi, hi, hs, rfl, rfl⟩ := fldOff_spec hf
  simp [execOp, hx, Instr.field, run_underlying hu, hfi, asAgg, part, run_ag ht, run_size ht, ← hv]
theorem QO.idx {k : IntKind} {i : Int} {g o l c : Nat} {el : TypeId} (hu : P.underlying t = some (.slice el)) (he : tyChk P el = some (z, ag, by_)) (hx : ev e x = .slice (some ⟨g, o, none⟩) l c) (hy : ev e y = .int k i)
    (h0 : 0 ≤ i) (h1 : i < l) : QO P W H e (.indexAddr t x y) ty (.pointer (some ⟨g, o + i.toNat * z.length, none⟩)) := fun d pos af gd w _ => by
  simp [execOp, hx, hy, Instr.indexAt, asIntOf, run_underlying hu, h0, h1, run_size he, addr_add]
theorem QO.idx1 {k : IntKind} {i : Int} {g o l c : Nat} {el : TypeId} (hu : P.underlying t = some (.slice el)) (he : tyChk P el = some ([u], ag, by_)) (hx : ev e x = .slice (some ⟨g, o, none⟩) l c) (hy : ev e y = .int k i)
    (h0 : 0 ≤ i) (h1 : i < l) : QO P W H e (.indexAddr t x y) ty (.pointer (some ⟨g, o + i.toNat, none⟩)) := by
  have := QO.idx (P := P) (W := W) (H := H) (ty := ty) hu he hx hy h0 h1; simpa using this
/-- at a number that is told -/
theorem QO.idxn {k : IntKind} {i : Int} {j g o l c : Nat} {el : TypeId} (hu : P.underlying t = some (.slice el)) (he : tyChk P el = some ([u], ag, by_)) (hx : ev e x = .slice (some ⟨g, o, none⟩) l c) (hy : ev e y = .int k i)
    (hj : i = j) (h1 : j < l) : QO P W H e (.indexAddr t x y) ty (.pointer (some ⟨g, o + j, none⟩)) := by
  subst hj
  have := QO.idx1 (P := P) (W := W) (H := H) (ty := ty) hu he hx hy (by omega) (by omega); simpa using this
theorem QO.idx0 {k : IntKind} {i : Int} {j g l c : Nat} {el : TypeId} (hu : P.underlying t = some (.slice el)) (he : tyChk P el = some ([u], ag, by_)) (hx : ev e x = .slice (some ⟨g, 0, none⟩) l c) (hy : ev e y = .int k i)
    (hj : i = j) (h1 : j < l) : QO P W H e (.indexAddr t x y) ty (.pointer (some ⟨g, j, none⟩)) := by
  have := QO.idxn (P := P) (W := W) (H := H) (ty := ty) hu he hx hy hj h1; rwa [Nat.zero_add] at this
theorem QO.idxArr {k : IntKind} {i : Int} {g o l : Nat} {el : TypeId} (hu : P.underlying t = some (.array l el)) (he : tyChk P el = some (z, ag, by_)) (hx : ev e x = .pointer (some ⟨g, o, none⟩)) (hy : ev e y = .int k i)
    (h0 : 0 ≤ i) (h1 : i < l) : QO P W H e (.indexAddr t x y) ty (.pointer (some ⟨g, o + i.toNat * z.length, none⟩)) := fun d pos af gd w _ => by
  simp [execOp, hx, hy, Instr.indexAt, asIntOf, run_underlying hu, h0, h1, run_size he, addr_add, Instr.sureAddr]
theorem QO.idxArrn {k : IntKind} {i : Int} {j g o l : Nat} {el : TypeId} (hu : P.underlying t = some (.array l el)) (he : tyChk P el = some ([u], ag, by_)) (hx : ev e x = .pointer (some ⟨g, o, none⟩)) (hy : ev e y = .int k i)
    (hj : i = j) (h1 : j < l) : QO P W H e (.indexAddr t x y) ty (.pointer (some ⟨g, o + j, none⟩)) := by
  subst hj
  have := QO.idxArr (P := P) (W := W) (H := H) (ty := ty) hu he hx hy (by omega) (by omega); simpa using this
theorem QO.idxArr0 {k : IntKind} {i : Int} {j g l : Nat} {el : TypeId} (hu : P.underlying t = some (.array l el)) (he : tyChk P el = some ([u], ag, by_)) (hx : ev e x = .pointer (some ⟨g, 0, none⟩)) (hy : ev e y = .int k i)
    (hj : i = j) (h1 : j < l) : QO P W H e (.indexAddr t x y) ty (.pointer (some ⟨g, j, none⟩)) := by
  have := QO.idxArrn (P := P) (W := W) (H := H) (ty := ty) hu he hx hy hj h1; rwa [Nat.zero_add] at this
theorem QO.index1 {k : IntKind} {i : Int} {l : Nat} {el : TypeId} {cs : List Value} (hu : P.underlying t = some (.array l el)) (he : tyChk P el = some ([u], false, by_)) (hx : ev e x = .agg cs.toArray) (hy : ev e y = .int k i)
    (h0 : 0 ≤ i) (h1 : i < l) (hv : cs[i.toNat]? = some v) : QO P W H e (.index t x y) ty v := fun d pos af gd w _ => by
  simp [execOp, hx, hy, Instr.index, asIntOf, run_underlying hu, h0, h1, run_size he, part, run_ag he, hv]
theorem QO.lenS {a : Option Addr} {l c : Nat} {el : TypeId} (hu : P.underlying t = some (.slice el)) (hx : ev e x = .slice a l c) : QO P W H e (.call ⟨.builtin .len, #[x], #[t]⟩) ty (.int .i64 l) := fun d pos af gd w _ => by
  simp [execOp, resolve, invoke, builtin, Builtin.len_, hx, run_underlying hu, goInt]
theorem QO.max2 {k k' : IntKind} {i j : Int} {ats : Array TypeId} (hx : ev e x = .int k i) (hy : ev e y = .int k' j) : QO P W H e (.call ⟨.builtin .max, #[x, y], ats⟩) ty (.int k (max i j)) := fun d pos af gd w _ => by
  have : (if i < j then j else i) = max i j := by rw [Int.max_def]; split <;> split <;> omega
  simp [execOp, resolve, invoke, builtin, Builtin.max_, Builtin.max2, hx, hy, this]
theorem QO.min2 {k k' : IntKind} {i j : Int} {ats : Array TypeId} (hx : ev e x = .int k i) (hy : ev e y = .int k' j) : QO P W H e (.call ⟨.builtin .min, #[x, y], ats⟩) ty (.int k (min i j)) := fun d pos af gd w _ => by
  have : (if j < i then j else i) = min i j := by rw [Int.min_def]; split <;> split <;> omega
  simp [execOp, resolve, invoke, builtin, Builtin.min_, Builtin.min2, hx, hy, this]
theorem QO.makeFunc {fn : Fn} {first cap : Array Operand} : QO P W H e (.makeFunc fn first cap) ty (.func fn (first.toList.map (ev e)).toArray (cap.toList.map (ev e)).toArray) := fun d pos af gd w _ => by
  have h : ∀ a : Array Operand, Array.map (ev e) a = (List.map (ev e) a.toList).toArray := fun a => by apply Array.toList_inj.1; simp
  simp only [execOp, Instr.makeFunc, h, Sem.run_bind, Sem.run_pure, Result.andThen_ok]
theorem QO.extract {i : Nat} {vs : Array Value} (hx : ev e x = .tuple vs) (hv : vs[i]? = some v) : QO P W H e (.extract x i) ty v := fun d pos af gd w _ => by simp [execOp, hx, Instr.extract, hv]
theorem QO.arrPtr {a : Option Addr} {l c m : Nat} {el : TypeId} (hu : P.underlying t = some (.array m el)) (hx : ev e x = .slice a l c) (hm : m ≤ l) : QO P W H e (.sliceToArrayPointer t x) ty (.pointer a) := fun d pos af gd w _ => by
  simp [execOp, hx, Instr.arrayAt, run_underlying hu, Nat.not_lt.2 hm]
theorem QO.nilchk {a : Addr} (hx : ev e x = .pointer (some a)) : QO P W H e (.nilCheck x) ty (.pointer (some a)) := fun d pos af gd w _ => by simp [execOp, hx]
theorem QO.ext {f : FuncId} {xs : Array Operand} {ats : Array TypeId} {argl : List Value} (ha : xs.toList.map (ev e) = argl) (hc : ∀ w, (callFunc f argl.toArray).run P w = .ok (.value v) w) : QO P W H e (.call ⟨.value (.func f), xs, ats⟩) ty v := fun d pos af gd w _ => by
  have he : #[] ++ xs.map (ev e) ++ #[] = argl.toArray := by
    apply Array.toList_inj.1
    simp [← ha]
  simp only [execOp, resolve, ev, Deferred.ofValue, Sem.run_bind, Sem.run_pure, Result.andThen_ok, invoke, he, hc w]
theorem QO.cutHi {k : IntKind} {h : Int} {a : Option Addr} {l c : Nat} {el : TypeId} (hu : P.underlying t = some (.slice el)) (he : tyChk P el = some (z, ag, by_)) (hx : ev e x = .slice a l c) (hy : ev e y = .int k h) (h0 : 0 ≤ h) (h1 : h ≤ c) :
    QO P W H e (.slice t x none (some y) none) ty (.slice a h.toNat c) := fun d pos af gd w _ => by
  have e0 : (if c = 0 then a else Option.map (fun x => x.add 0) a) = a := by
    split
    · rfl
    · cases a <;> simp [Addr.add]
  simp [execOp, hx, hy, Instr.sliceAt, Instr.slice, run_underlying hu, Instr.sliceBounds, Instr.sliceBound, asIntOf, h0, h1, run_size he, e0]
/-- where a cut begins -/
def cutAt (g o i c s : Nat) : Option Addr := if c = i then some ⟨g, o, none⟩ else some ⟨g, o + i * s, none⟩
theorem cutAt_eq {g o i c s : Nat} (h : i < c) : cutAt g o i c s = some ⟨g, o + i * s, none⟩ := if_neg (by omega)
theorem QO.cutLo {k : IntKind} {i : Int} {g o l c : Nat} {el : TypeId} (hu : P.underlying t = some (.slice el)) (he : tyChk P el = some (z, ag, by_)) (hx : ev e x = .slice (some ⟨g, o, none⟩) l c) (hy : ev e y = .int k i) (h0 : 0 ≤ i) (h1 : i ≤ l) :
    QO P W H e (.slice t x (some y) none none) ty (.slice (cutAt g o i.toNat c z.length) (l - i.toNat) (c - i.toNat)) := fun d pos af gd w _ => by
  simp [execOp, hx, hy, Instr.sliceAt, Instr.slice, run_underlying hu, Instr.sliceBounds, Instr.sliceBound, asIntOf, h0, h1, run_size he, addr_add, cutAt]
theorem QO.cutLoHi {y' : Operand} {k k' : IntKind} {i h : Int} {g o l c : Nat} {el : TypeId} (hu : P.underlying t = some (.slice el)) (he : tyChk P el = some (z, ag, by_)) (hx : ev e x = .slice (some ⟨g, o, none⟩) l c) (hy : ev e y = .int k i) (hy' : ev e y' = .int k' h)
    (h0 : 0 ≤ i) (h1 : i ≤ h) (h2 : h ≤ c) : QO P W H e (.slice t x (some y) (some y') none) ty (.slice (cutAt g o i.toNat c z.length) (h.toNat - i.toNat) (c - i.toNat)) := fun d pos af gd w _ => by
  have h3 : 0 ≤ h := by omega
  have h4 : max h 0 = h := by rw [Int.max_def]; split <;> omega
  simp [execOp, hx, hy, hy', Instr.sliceAt, Instr.slice, run_underlying hu, Instr.sliceBounds, Instr.sliceBound, asIntOf, h0, h1, h2, h3, h4, run_size he, addr_add, cutAt]
end
section
variable {P : Program} {W : World} {n : Nat} {ops : Array Oper} {Q : Env → HL → Prop} {rest : List Oper} {e : Env} {H : HL}
variable {d : Tmp} {ty t t' tf : TypeId} {pos : String} {af : Array Edge} {x y : Operand} {u v : Value} {z : List Value} {ag : Bool} {by_ : Nat}
/-! struct and array literals -/
def fillL (pl : Nat → Option (Nat × Nat)) (cells : List Value) : List (Nat × Value) → Option (List Value)
  | [] => some cells
  | (i, v) :: rest => match pl i with
    | none => none
    | some (off, size) => if v.cells.size ≠ size ∨ cells.length < off + v.cells.size then none else fillL pl (cells.take off ++ v.cells.toList ++ cells.drop (off + v.cells.size)) rest
theorem foldl_set (off : Nat) : ∀ (vs : List Value) (cells : Array Value) (j : Nat), off + j + vs.length ≤ cells.size →
    ((vs.zipIdx j).foldl (fun cs (p : Value × Nat) => cs.setIfInBounds (off + p.2) p.1) cells).toList = cells.toList.take (off + j) ++ vs ++ cells.toList.drop (off + j + vs.length) := by
  intro vs
  induction vs with
  | nil => intro cells j _; simp
  | cons v vs ih =>
    intro cells j h
    simp only [List.length_cons] at h
    rw [List.zipIdx_cons, List.foldl_cons, ih _ _ (by simp; omega)]
    simp only [Array.toList_setIfInBounds]
    rw [show off + (j + 1) = (off + j) + 1 from by omega, List.take_succ_eq_append_getElem (by simp; omega), List.take_set_of_le (Nat.le_refl _), List.getElem_set_self, List.drop_set, if_pos (by omega)]
    simp
    congr 1
    omega
theorem fill_of {pl : Nat → Option (Nat × Nat)} : ∀ (ps : List (Nat × Value)) (cells cs : List Value), fillL pl cells ps = some cs → Instr.fill pl cells.toArray ps = some cs.toArray := by
  intro ps
  induction ps with
  | nil => intro cells cs h; simp only [fillL, Option.some.injEq] at h; subst h; rfl
  | cons p ps ih =>
    obtain ⟨i, v⟩ := p
    intro cells cs h
    simp only [fillL] at h
    simp only [Instr.fill]
    split at h
    · cases h
    · rename_i off size hp
      simp only [hp]
      split at h
      · cases h
      · rename_i hc
        simp only [not_or, Decidable.not_not, Nat.not_lt] at hc
        have h1 := ih _ _ h
        have h2 : (v.cells.zipIdx.foldl (fun cs (p : Value × Nat) => cs.setIfInBounds (off + p.2) p.1) cells.toArray) = (cells.take off ++ v.cells.toList ++ cells.drop (off + v.cells.size)).toArray := by
          apply Array.toList_inj.1
          rw [← Array.foldl_toList, Array.toList_zipIdx]
          have := foldl_set off v.cells.toList cells.toArray 0 (by simpa using hc.2)
          simpa using this
        rw [if_neg (by simp [hc.1]; omega)]
        rw [← h1]
        exact congrArg (fun a => Instr.fill pl a ps) h2
/-- the places of a struct's fields -/
def places (P : Program) (t : TypeId) : Option (Array (Nat × Nat)) :=
  match P.underlying t with
  | some (.struct fs) => fs.mapM fun f => (P.info? f.type).map fun i => (f.offset, i.size)
  | _ => none
theorem run_mapM_places {P : Program} {w : World} : ∀ (fs : List Field) (ps : List (Nat × Nat)), fs.mapM (fun f => (P.info? f.type).map fun i => (f.offset, i.size)) = some ps →
    (fs.mapM (fun f => do pure (f.offset, ← sizeOf f.type) : Field → Sem (Nat × Nat))).run P w = .ok ps w := by
  intro fs
  induction fs with
  | nil => intro ps h; simp at h; subst h; rfl
  | cons f fs ih =>
    intro ps h
    rw [List.mapM_cons] at h
    simp only [Option.bind_eq_bind, Option.bind_eq_some_iff, Option.map_eq_some_iff, Option.pure_def, Option.some.injEq] at h
    obtain ⟨p, ⟨i, hi, rfl⟩, ps', h2, rfl⟩ := h
    have hs : (sizeOf f.type).run P w = .ok i.size w := by simp [sizeOf, typeInfo, hi]
    rw [List.mapM_cons]
    simp only [Sem.run_bind, hs, Result.andThen_ok, Sem.run_pure, ih _ h2]
theorem QO.build {parts : Array (Nat × Operand)} {pl : Array (Nat × Nat)} {cs : List Value} (ht : tyChk P t = some (z, true, by_)) (hp : places P t = some pl) (hf : fillL (pl[·]?) z (parts.toList.map fun p => (p.1, ev e p.2)) = some cs) : QO P W H e (.build t parts) ty (.agg cs.toArray) := fun d pos af gd w _ => by
  obtain ⟨zv, hz1, hz2⟩ := run_zero (w := w) ht
  unfold places at hp
  split at hp
  · rename_i fs hu
    have hm := run_mapM_places (P := P) (w := w) fs.toList pl.toList (by
      rw [← Array.toList_mapM, hp]; rfl)
    have hm2 : (fs.mapM (fun f => do Pure.pure (f.offset, ← sizeOf f.type) : Field → Sem (Nat × Nat))).run P w = .ok pl w := by
      rw [Array.mapM_eq_mapM_toList]
      simp only [Sem.run_map, hm, Result.andThen_ok]
    have hf' := fill_of _ _ _ hf
    simp only [execOp, Instr.build, Sem.run_bind, hz1, Result.andThen_ok, run_underlying hu, hm2, hz2]
    have e1 : (Array.map (fun x => match x with | (i, x) => (i, ev e x)) parts).toList = parts.toList.map fun p => (p.1, ev e p.2) := by simp
    simp only [e1, hf', Result.andThen_ok, Sem.run_pure]
  · cases hp

theorem RS.make {k k' : IntKind} {l c : Int} {el : TypeId} (hd : Nat.blt d n = true) (hu : P.underlying t = some (.slice el)) (he : tyChk P el = some ([u], ag, by_)) (hx : ev e x = .int k l) (hy : ev e y = .int k' c)
    (h0 : 0 ≤ l) (h1 : l ≤ c) (h2 : (by_ : Int) * c ≤ 281474976710656) (h3 : c ≤ 9223372036854775807)
    (r : ∀ g, RS P W n ops Q rest (put e d (.slice (some ⟨g, 0, none⟩) l.toNat c.toNat)) (⟨g, el, List.replicate c.toNat u⟩ :: H)) : RS P W n ops Q (⟨some d, .makeSlice t x y, ty, pos, af, none⟩ :: rest) e H := by
  refine RS.step (d := some d) hd fun w ho => ?_
  obtain ⟨i, zv, ds, hi, hds, hz, hs, hc, ha, hb⟩ := (tyF he).ex
  have hm := run_make (P := P) w t el i zv hu hi hz k k' l c h0 h1 (by rw [hb]; exact h2) h3
  have ho2 := ho.alloc el (List.replicate c.toNat u)
  refine ⟨_, _, _, ?_, ho2, r _⟩
  have e1 : madeCells zv.cells (c.toNat * i.size) = (List.replicate c.toNat u).toArray := by
    rw [hs, hc]
    apply Array.toList_inj.1
    rw [show ([u].toArray) = #[u] from rfl, show c.toNat * [u].length = c.toNat from by simp, toList_madeCells_one]
  rw [e1] at hm
  simp [execOp, hx, hy, hm]
/-! calls -/
theorem args_eq {first cap : Array Value} {xs : Array Operand} {argl : List Value} (ha : first.toList ++ xs.toList.map (ev e) ++ cap.toList = argl) : first ++ xs.map (ev e) ++ cap = argl.toArray := by
  apply Array.toList_inj.1
  simp [← ha]
theorem RS.call {fo : Operand} {xs : Array Operand} {ats : Array TypeId} {f : FuncId} {first cap : Array Value} {argl : List Value} {R : Value → HL → Prop} (hd : Nat.blt d n = true) (hf : ev e fo = .func (.func f) first cap) (hok : callOK P f = true)
    (ha : first.toList ++ xs.toList.map (ev e) ++ cap.toList = argl) (hc : ∀ w, Own W w H → Fn_ P f argl.toArray w R) (k : ∀ v Hn, R v Hn → RS P W n ops Q rest (put e d v) (Hn ++ H)) :
    RS P W n ops Q (⟨some d, .call ⟨.value fo, xs, ats⟩, ty, pos, af, none⟩ :: rest) e H := by
  intro a w hr ho
  simp only [wpList, Region.wanted, if_true]
  left
  unfold Oper.wp
  have hrun : (execOp a.eval ⟨some d, .call ⟨.value fo, xs, ats⟩, ty, pos, af, none⟩).run P w = .ok (.enter f argl.toArray) w := by
    rw [hr.eval]
    simp only [execOp, resolve, hf, Deferred.ofValue, Sem.run_bind, Sem.run_pure, Result.andThen_ok, invoke, args_eq ha, run_callFunc hok]
  rw [hrun, Oper.upon_enter]
  refine Calls.mono (hc w ho) fun x w' hx => ?_
  obtain ⟨v, Hn, rfl, h2, h3⟩ := hx
  exact k v Hn h3 _ _ (hr.put (d := some d) hd v) (ho.call h2)
theorem RS.call0 {fo : Operand} {xs : Array Operand} {ats : Array TypeId} {f : FuncId} {first cap : Array Value} {argl : List Value} {R : Value → HL → Prop} (hf : ev e fo = .func (.func f) first cap) (hok : callOK P f = true)
    (ha : first.toList ++ xs.toList.map (ev e) ++ cap.toList = argl) (hc : ∀ w, Own W w H → Fn_ P f argl.toArray w R) (k : ∀ v Hn, R v Hn → RS P W n ops Q rest e (Hn ++ H)) :
    RS P W n ops Q (⟨none, .call ⟨.value fo, xs, ats⟩, ty, pos, af, none⟩ :: rest) e H := by
  intro a w hr ho
  simp only [wpList, Region.wanted, if_true]
  left
  unfold Oper.wp
  have hrun : (execOp a.eval ⟨none, .call ⟨.value fo, xs, ats⟩, ty, pos, af, none⟩).run P w = .ok (.enter f argl.toArray) w := by
    rw [hr.eval]
    simp only [execOp, resolve, hf, Deferred.ofValue, Sem.run_bind, Sem.run_pure, Result.andThen_ok, invoke, args_eq ha, run_callFunc hok]
  rw [hrun, Oper.upon_enter]
  refine Calls.mono (hc w ho) fun x w' hx => ?_
  obtain ⟨v, Hn, rfl, h2, h3⟩ := hx
  exact k v Hn h3 _ _ hr (ho.call h2)
end
end Go.Proofs.YtapcgokcfmklbaaDoor
