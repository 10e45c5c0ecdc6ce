/-
  Strings as lists of bytes: the operations on them. No program in sight. Conditions: none.
-/
import Derived.Test.YtapcgokcfmklbaaDoorOps3
import Derived.Lib.AppendStr
import Derived.Lib.UnsafeStr
import Derived.Laws.Strings
namespace Go.Proofs.YtapcgokcfmklbaaDoor
open Go Go.RowKit

/-- the string of these bytes -/
abbrev sv (l : List UInt8) : Value := .string ⟨l.toArray⟩
/-- bytes as cells -/
def bc (l : List UInt8) : List Value := l.map fun b => Value.int .u8 (b.toNat : Int)
theorem sv_of (s : ByteArray) : ∃ l : List UInt8, s = ⟨l.toArray⟩ := ⟨s.data.toList, by cases s; simp⟩
theorem bs_add (l m : List UInt8) : (⟨l.toArray⟩ : ByteArray) ++ ⟨m.toArray⟩ = ⟨(l ++ m).toArray⟩ := by
  apply ByteArray.ext
  simp
theorem bs_size (l : List UInt8) : (⟨l.toArray⟩ : ByteArray).size = l.length := rfl
theorem bs_get (l : List UInt8) (i : Nat) : (⟨l.toArray⟩ : ByteArray)[i]? = l[i]? := by
  rcases Nat.lt_or_ge i l.length with h | h
  · rw [List.getElem?_eq_getElem h]
    exact getElem?_pos (⟨l.toArray⟩ : ByteArray) i h
  · rw [List.getElem?_eq_none h]
    exact getElem?_neg (⟨l.toArray⟩ : ByteArray) i (Nat.not_lt.2 h)
theorem bs_cut (l : List UInt8) (a b : Nat) : (⟨l.toArray⟩ : ByteArray).extract a b = ⟨((l.take b).drop a).toArray⟩ := by
  apply ByteArray.ext
  simp
  rw [List.drop_take]
theorem bc_len (l : List UInt8) : (bc l).length = l.length := by simp [bc]
theorem bc_app (l m : List UInt8) : bc (l ++ m) = bc l ++ bc m := by simp [bc]
theorem bc_at {l : List UInt8} {i : Nat} {b : UInt8} (h : l[i]? = some b) : (bc l)[i]? = some (.int .u8 (b.toNat : Int)) := by simp [bc, h]
theorem bc_cells (l : List UInt8) : Lib.strCells ⟨l.toArray⟩ = bc l := by simp [Lib.strCells, bc]
theorem bs_toList (l : List UInt8) : (⟨l.toArray⟩ : ByteArray).toList = l := by rw [ByteArray.toList_eq]
section
variable {P : Program} {W : World} {H : HL} {e : Env} {x y : Operand} {t t' ty : TypeId} {l m : List UInt8}
theorem QO.streq (hx : ev e x = sv l) (hy : ev e y = sv m) : QO P W H e (.binOp .eql t x y t') ty (.bool (l == m)) := by
  refine QO.bin hx hy (fun w => ?_)
  have h1 : (eqGuard .eql t x y (sv l) (sv m)).run P w = .ok () w := by simp [eqGuard]
  simp only [Sem.run_bind, h1, Result.andThen_ok]
  simp [binOp, Op.stringOp]
theorem QO.strne (hx : ev e x = sv l) (hy : ev e y = sv m) : QO P W H e (.binOp .neq t x y t') ty (.bool (l != m)) := by
  refine QO.bin hx hy (fun w => ?_)
  have h1 : (eqGuard .neq t x y (sv l) (sv m)).run P w = .ok () w := by simp [eqGuard]
  simp only [Sem.run_bind, h1, Result.andThen_ok]
  have h2 : (binOp .neq t (sv l) (sv m)).run P w = .ok (.bool (!(l == m))) w := by simp [binOp, Op.stringOp]
  exact h2
theorem QO.stradd (hx : ev e x = sv l) (hy : ev e y = sv m) (hs : l.length + m.length ≤ 9223372036854775807) : QO P W H e (.binOp .add t x y t') ty (sv (l ++ m)) := by
  refine QO.bin hx hy (fun w => ?_)
  have h1 : (eqGuard .add t x y (sv l) (sv m)).run P w = .ok () w := by simp [eqGuard]
  simp only [Sem.run_bind, h1, Result.andThen_ok]
  have h2 := run_string_add_sum (P := P) (w := w) ⟨l.toArray⟩ ⟨m.toArray⟩ hs
  rw [bs_add] at h2
  simpa [binOp] using h2
theorem QO.lenStr (hu : P.underlying t = some .string) (hx : ev e x = sv l) : QO P W H e (.call ⟨.builtin .len, #[x], #[t]⟩) ty (.int .i64 l.length) := fun d pos af gd w _ => by
  simp [execOp, resolve, invoke, builtin, Builtin.len_, hx, run_underlying hu, goInt, bs_size]
theorem QO.idxStr {k : IntKind} {i : Int} {b : UInt8} (hu : P.underlying t = some .string) (hx : ev e x = sv l) (hy : ev e y = .int k i) (h0 : 0 ≤ i) (hb : l[i.toNat]? = some b) : QO P W H e (.index t x y) ty (.int .u8 (b.toNat : Int)) :=
  QO.indexS hu hx hy h0 (by rw [bs_get]; exact hb)
theorem QO.cutStrHi {k : IntKind} {h : Int} (hu : P.underlying t = some .string) (hx : ev e x = sv l) (hy : ev e y = .int k h) (h0 : 0 ≤ h) (h1 : h ≤ l.length) : QO P W H e (.slice t x none (some y) none) ty (sv (l.take h.toNat)) := fun d pos af gd w _ => by
  have h2 : (⟨l.toArray⟩ : ByteArray).size = l.length := rfl
  simp [execOp, hx, hy, Instr.sliceAt, Instr.slice, run_underlying hu, Instr.sliceBounds, Instr.sliceBound, asIntOf, h0, h2, h1, bs_cut]
theorem QO.cutStrLo {k : IntKind} {i : Int} (hu : P.underlying t = some .string) (hx : ev e x = sv l) (hy : ev e y = .int k i) (h0 : 0 ≤ i) (h1 : i ≤ l.length) : QO P W H e (.slice t x (some y) none none) ty (sv (l.drop i.toNat)) := fun d pos af gd w _ => by
  have h2 : (⟨l.toArray⟩ : ByteArray).size = l.length := rfl
  simp [execOp, hx, hy, Instr.sliceAt, Instr.slice, run_underlying hu, Instr.sliceBounds, Instr.sliceBound, asIntOf, h0, h2, h1, bs_cut]
theorem QO.cutStrLoHi {y' : Operand} {k k' : IntKind} {i h : Int} (hu : P.underlying t = some .string) (hx : ev e x = sv l) (hy : ev e y = .int k i) (hy' : ev e y' = .int k' h) (h0 : 0 ≤ i) (h1 : i ≤ h) (h3 : h ≤ l.length) : QO P W H e (.slice t x (some y) (some y') none) ty (sv ((l.take h.toNat).drop i.toNat)) := fun d pos af gd w _ => by
  have h2 : (⟨l.toArray⟩ : ByteArray).size = l.length := rfl
  have h4 : 0 ≤ h := by omega
  have h5 : max h 0 = h := by rw [Int.max_def]; split <;> omega
  simp [execOp, hx, hy, hy', Instr.sliceAt, Instr.slice, run_underlying hu, Instr.sliceBounds, Instr.sliceBound, asIntOf, h0, h2, h1, h3, h4, h5, bs_cut]
theorem run_loadBytes_bc {w : World} {a : Addr} (l : List UInt8) (h : ∀ j v, (bc l)[j]? = some v → w.cell? (a.add j) = some v) (c : Nat) : (Conv.bytesToString (.slice (some a) l.length c)).run P w = .ok (sv l) w := by
  have h1 := run_loadCells_list (P := P) (w := w) a (bc l) h
  rw [bc_len] at h1
  have h2 := run_bytesToString (P := P) w a l.length c (l.map fun b => (b.toNat : Int)) (by rw [h1]; congr 1; simp [bc])
  rw [h2]
  congr 2
  have key : ∀ (l : List UInt8) (s : ByteArray), (l.map fun b => (b.toNat : Int)).foldl (fun r n => r.push (UInt8.ofNat n.toNat)) s = s ++ ⟨l.toArray⟩ := by
    intro l
    induction l with
    | nil => intro s; apply ByteArray.ext; simp
    | cons b l ih =>
      intro s
      simp only [List.map_cons, List.foldl_cons]
      rw [ih]
      apply ByteArray.ext
      simp [ByteArray.push]
  rw [key]
  apply ByteArray.ext
  simp
/-- bytes of the call's own, as a string -/
theorem QO.convBS {g c : Nat} {tb el : TypeId} {junk : List Value} (hs : P.underlying t = some (.slice el)) (hel : P.underlying el = some (.int .u8)) (hd : P.underlying t' = some .string) (hx : ev e x = .slice (some ⟨g, 0, none⟩) l.length c) (hm : (⟨g, tb, bc l ++ junk⟩ : B) ∈ H) : QO P W H e (.convert t t' x) ty (sv l) := fun d pos af gd w ho => by
  have h1 := run_convert_bytes_string (P := P) w t t' el (some ⟨g, 0, none⟩) l.length c hs hel hd
  have h2 := run_loadBytes_bc (P := P) (w := w) (a := ⟨g, 0, none⟩) l (fun j v hj => by
    rw [addr_add, Nat.zero_add, (ho.blk _ hm).2.cell]
    show (bc l ++ junk)[j]? = some v
    rw [List.getElem?_append_left (List.getElem?_eq_some_iff.1 hj).1]; exact hj) c
  simp [execOp, hx, h1, h2]
theorem QO.convBSnil {el : TypeId} (hs : P.underlying t = some (.slice el)) (hel : P.underlying el = some (.int .u8)) (hd : P.underlying t' = some .string) (hx : ev e x = .slice none 0 0) : QO P W H e (.convert t t' x) ty (sv []) := fun d pos af gd w ho => by
  have h1 := run_convert_bytes_string (P := P) w t t' el none 0 0 hs hel hd
  simp [execOp, hx, h1, Conv.bytesToString]
  rfl
end
def u8ok (P : Program) (el : TypeId) : Bool := match P.info? el with
  | some i => (match i.zero with | some (.int .u8 0) => true | _ => false) && i.size == 1 && i.bytes == 1
  | none => false
section
variable {P : Program} {W : World} {n : Nat} {ops : Array Oper} {Q : Env → HL → Prop} {rest : List Oper} {e : Env} {H : HL}
variable {d : Tmp} {ty t t2 : TypeId} {pos : String} {af : Array Edge} {x y : Operand} {v : Value}
theorem Row.owns {W w : World} {el : TypeId} {v : Value} {l : Nat} {xs : List Value} {Hr H L : HL} (h : Row el 1 v l xs Hr) (ho : Own W w H) (hH : H = L ++ Hr) : w.ownsRow W.heap.size el 1 v l xs := by
  cases h with
  | nil => exact World.ownsRow_nil w _ el _
  | @own g _ cap _ junk hl hc hn hm =>
    obtain ⟨h1, h2⟩ := ho.blk ⟨g, el, xs ++ junk⟩ (by rw [hH]; simp)
    refine ⟨hl, .inr ⟨g, cap, (xs ++ junk).toArray, rfl, h1, h2, hn, hm, by simp [hc], ?_⟩⟩
    simp [← hl]
end
end Go.Proofs.YtapcgokcfmklbaaDoor
