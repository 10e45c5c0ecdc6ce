/-
  More quiet operations: bits, integers of other kinds, bytes of a string. No program in sight. Conditions: none.
-/
import Derived.Test.YtapcgokcfmklbaaDoorBands
namespace Go.Proofs.YtapcgokcfmklbaaDoor
open Go Go.RowKit

def and64 (i j : Int) : Int := IntKind.i64.wrap (BitVec.ofInt 64 i &&& BitVec.ofInt 64 j).toNat
theorem and64_bd {i j : Int} (h0 : 0 ≤ j) (h1 : j < 9223372036854775808) : 0 ≤ and64 i j ∧ and64 i j ≤ j := by
  have h2 : (BitVec.ofInt 64 i &&& BitVec.ofInt 64 j).toNat ≤ (BitVec.ofInt 64 j).toNat := by
    rw [BitVec.toNat_and]; exact Nat.and_le_right
  have h3 : ((BitVec.ofInt 64 j).toNat : Int) = j := by
    rw [BitVec.toNat_ofInt]
    have : j % ((2 ^ 64 : Nat) : Int) = j := by omega
    rw [this]; omega
  unfold and64
  rw [w64 (by omega) (by omega)]
  omega
section
variable {P : Program} {W : World} {H : HL} {e : Env} {x y : Operand} {t t' ty : TypeId}
theorem QO.and64 {i j : Int} (hx : ev e x = .int .i64 i) (hy : ev e y = .int .i64 j) : QO P W H e (.binOp .and t x y t') ty (.int .i64 (Go.Proofs.YtapcgokcfmklbaaDoor.and64 i j)) := QO.ibin hx hy (op := .and) trivial
theorem QO.conv_int {k k0 k' : IntKind} {n : Int} (hu : P.underlying t = some (.int k0)) (hu' : P.underlying t' = some (.int k')) (hx : ev e x = .int k n) : QO P W H e (.convert t t' x) ty (.int k' (k'.wrap n)) := fun d pos af gd w _ => by
  simp only [execOp, hx, Sem.run_bind, Sem.run_pure]
  simp [convert, run_underlying hu, run_underlying hu', Conv.intToInt]
theorem QO.indexS {s : ByteArray} {k : IntKind} {i : Int} {b : UInt8} (hu : P.underlying t = some .string) (hx : ev e x = .string s) (hy : ev e y = .int k i) (h0 : 0 ≤ i) (hb : s[i.toNat]? = some b) : QO P W H e (.index t x y) ty (.int .u8 b.toNat) := fun d pos af gd w _ => by
  simp [execOp, hx, hy, Instr.index, asIntOf, run_underlying hu, h0, hb]
end
/-- the place of a single in the order -/
def plV (v : Nat) : Int := if and64 v 2147483648 ≠ 0 then -(and64 v 2147483647) - 1 else v
theorem plV_1 {v : Nat} (h : and64 v 2147483648 ≠ 0) : -(and64 v 2147483647) - 1 = plV v := (if_pos h).symm
theorem plV_2 {v : Nat} (h : and64 v 2147483648 = 0) : (v : Int) = plV v := (if_neg (by simpa using h)).symm
theorem plV_bd {v : Nat} (h : v < 4294967296) : -4294967296 ≤ plV v ∧ plV v ≤ 4294967296 := by
  have h1 := and64_bd (i := (v : Int)) (j := 2147483647) (by decide) (by decide)
  unfold plV
  split <;> omega
theorem fitV_lt {xs : List Nat} {wi he : Int} (h : ∀ x ∈ xs, x < 4294967296) : ∀ x ∈ fitV xs wi he, x < 4294967296 := by
  intro x hx
  unfold fitV at hx
  obtain ⟨i, _, rfl⟩ := List.mem_map.1 hx
  unfold fitv
  split
  · rename_i h0
    rw [List.getD_eq_getElem?_getD, List.getElem?_eq_getElem (Nat.mod_lt _ h0)]
    exact h _ (List.getElem_mem _)
  · omega
theorem zeros_set (n k : Nat) : ((List.replicate n 0).map flt).set k (flt 0) = (List.replicate n 0).map flt := by
  apply List.ext_getElem
  · simp
  · intro i h1 h2
    rw [List.getElem_set]
    split <;> simp
end Go.Proofs.YtapcgokcfmklbaaDoor
