/-
  Operations on arrays of bytes, shifts and masks. No program in sight. Conditions: as each theorem says.
-/
import Derived.Test.YtapcgokcfmklbaaDoorStr
import Derived.Test.YtapcgokcfmklbaaDoorOps2
import Derived.Test.YtapcgokcfmklbaaDoorBands
import Derived.Test.YtapcgokcfmklbaaDoorLin3
namespace Go.Proofs.YtapcgokcfmklbaaDoor
open Go Go.RowKit

section
variable {P : Program} {W : World} {H : HL} {e : Env} {x y : Operand} {t t' ty : TypeId} {z : List Value} {ag : Bool} {by_ : Nat} {l : List UInt8}
theorem QO.cutArrLo {k : IntKind} {i g n : Nat} {el : TypeId} {u : Value} (hu : P.underlying t = some (.array n el)) (he : tyChk P el = some ([u], ag, by_)) (hx : ev e x = .pointer (some ⟨g, 0, none⟩)) (hy : ev e y = .int k (i : Int)) (h1 : i < n) :
    QO P W H e (.slice t x (some y) none none) ty (.slice (some ⟨g, i, none⟩) (n - i) (n - i)) := fun d pos af gd w _ => by
  have h2 : ((i : Nat) : Int) ≤ (n : Int) := by omega
  have h3 : ¬ n = i := by omega
  have h4 : ¬ n < i := by omega
  simp [execOp, hx, hy, Instr.sliceAt, run_underlying hu, Instr.sliceBounds, Instr.sliceBound, asIntOf, h2, h3, h4, run_size he, Instr.sureAddr, addr_add]
theorem QO.convBSo {g o c : Nat} {tb el : TypeId} {pre : List Value} (hs : P.underlying t = some (.slice el)) (hel : P.underlying el = some (.int .u8)) (hd : P.underlying t' = some .string) (hx : ev e x = .slice (some ⟨g, o, none⟩) l.length c) (hp : pre.length = o) (hm : (⟨g, tb, pre ++ bc l⟩ : B) ∈ H) : QO P W H e (.convert t t' x) ty (sv l) := fun d pos af gd w ho => by
  have h1 := run_convert_bytes_string (P := P) w t t' el (some ⟨g, o, none⟩) l.length c hs hel hd
  have h2 := run_loadBytes_bc (P := P) (w := w) (a := ⟨g, o, none⟩) l (fun j v hj => by
    rw [addr_add, (ho.blk _ hm).2.cell]
    show (pre ++ bc l)[o + j]? = some v
    rw [List.getElem?_append_right (by omega), hp, Nat.add_sub_cancel_left]; exact hj) c
  simp [execOp, hx, h1, h2]
theorem QO.shr2 {k k' : IntKind} {i j : Int} (hx : ev e x = .int k i) (hy : ev e y = .int k' j) (h0 : 0 ≤ j) : QO P W H e (.binOp .shr t x y t') ty (.int k (i.fdiv (2 ^ (min j.toNat k.bits)))) := by
  refine QO.bin hx hy (fun w => ?_)
  simp only [Sem.run_bind, eqg_int, Result.andThen_ok]
  have : ¬ j < 0 := by omega
  simp [binOp, Op.shift, this]
theorem QO.neg64u {i : Int} (hx : ev e x = .int .u64 i) : QO P W H e (.unOp .neg t x) ty (.int .u64 (IntKind.u64.wrap (-i))) := fun d pos af gd w _ => by
  simp [execOp, hx, Op.unary, Op.intArith]
end
/-- the library's digits -/
def digs36 : List UInt8 := 48 :: 49 :: 50 :: 51 :: 52 :: 53 :: 54 :: 55 :: 56 :: 57 :: 97 :: 98 :: 99 :: 100 :: 101 :: 102 :: 103 :: 104 :: 105 :: 106 :: 107 :: 108 :: 109 :: 110 :: 111 :: 112 :: 113 :: 114 :: 115 :: 116 :: 117 :: 118 :: 119 :: 120 :: 121 :: 122 :: []
theorem dig36_all : ∀ k : Nat, k < 16 → digs36[k]? = some (dig k) := by decide +kernel
theorem dig36 {k : Nat} (h : k < 16) : digs36[((k : Nat) : Int).toNat]? = some (dig k) := by
  rw [Int.toNat_natCast]; exact dig36_all k h
theorem dig_idx {k : Nat} (h : k < 16) : digs[((k : Nat) : Int).toNat]? = some (dig k) := by
  rw [Int.toNat_natCast]
  unfold dig
  rw [List.getD_eq_getElem?_getD, List.getElem?_eq_getElem (by exact h)]
  rfl
theorem shr_nat (n j : Nat) : Int.fdiv (n : Int) (2 ^ (4 * j)) = ((n / 16 ^ j : Nat) : Int) := by
  have h1 : (2 : Int) ^ (4 * j) = ((16 ^ j : Nat) : Int) := by
    rw [Int.pow_mul]; norm_cast
  rw [h1, Int.fdiv_eq_ediv_of_nonneg _ (Int.natCast_nonneg _)]
  norm_cast
theorem ibshr32 {n i : Nat} (hi : i < 8) : ib .shr .u32 (n : Int) (28 - 4 * (i : Int)) = .int .u32 ((n / 16 ^ (7 - i) : Nat) : Int) := by
  unfold ib
  simp only
  rw [show min (28 - 4 * (i : Int)).toNat IntKind.u32.bits = 4 * (7 - i) by
    show min (28 - 4 * (i : Int)).toNat 32 = _
    omega, shr_nat]
theorem ibshr64 {n : Nat} : ib .shr .u64 (n : Int) 4 = .int .u64 ((n / 16 : Nat) : Int) := by
  have h := shr_nat n 1
  rw [Nat.pow_one] at h
  unfold ib
  simp only
  rw [show min (4 : Int).toNat IntKind.u64.bits = 4 * 1 from rfl, h]
theorem iband32 {n : Nat} (h : n < 4294967296) : ib .and .u32 (n : Int) 15 = .int .u32 ((n % 16 : Nat) : Int) := by
  unfold ib
  simp only
  have e3 : (BitVec.ofInt IntKind.u32.bits (n : Int) &&& BitVec.ofInt IntKind.u32.bits 15).toNat = n % 16 := by
    rw [BitVec.toNat_and]
    have a1 : (BitVec.ofInt IntKind.u32.bits (n : Int)).toNat = n := by
      show (BitVec.ofInt 32 (n : Int)).toNat = n
      rw [BitVec.toNat_ofInt]
      omega
    rw [a1, show (BitVec.ofInt IntKind.u32.bits 15).toNat = 2 ^ 4 - 1 from rfl, Nat.and_two_pow_sub_one_eq_mod]
  rw [e3, IntKind.wrap_u32]
  congr 1
  omega
theorem iband64 {n : Nat} (h : n < 18446744073709551616) : ib .and .u64 (n : Int) 15 = .int .u64 ((n % 16 : Nat) : Int) := by
  unfold ib
  simp only
  have e3 : (BitVec.ofInt IntKind.u64.bits (n : Int) &&& BitVec.ofInt IntKind.u64.bits 15).toNat = n % 16 := by
    rw [BitVec.toNat_and]
    have a1 : (BitVec.ofInt IntKind.u64.bits (n : Int)).toNat = n := by
      show (BitVec.ofInt 64 (n : Int)).toNat = n
      rw [BitVec.toNat_ofInt]
      omega
    rw [a1, show (BitVec.ofInt IntKind.u64.bits 15).toNat = 2 ^ 4 - 1 from rfl, Nat.and_two_pow_sub_one_eq_mod]
  rw [e3, IntKind.wrap_u64]
  congr 1
  omega
/-- the word's cells when i digits are laid from the left -/
def hxC (n i : Nat) : List Value := bc ((hxd 8 n).take i ++ List.replicate (8 - i) 0)
theorem hxd_at : ∀ (k n i : Nat), i < k → (hxd k n)[i]? = some (dig (n / 16 ^ (k - 1 - i) % 16))
  | 0, _, _, h => by omega
  | k + 1, n, 0, _ => rfl
  | k + 1, n, i + 1, h => by
    show (hxd k n)[i]? = _
    rw [hxd_at k n i (by omega), show k + 1 - 1 - (i + 1) = k - 1 - i by omega]
theorem bc_set (L : List UInt8) (i : Nat) (d : UInt8) : (bc L).set i (.int .u8 (d.toNat : Int)) = bc (L.set i d) := by
  unfold bc; rw [List.map_set]
theorem hxC_set {n i : Nat} (hi : i < 8) : (hxC n i).set i (.int .u8 ((dig (n / 16 ^ (7 - i) % 16)).toNat : Int)) = hxC n (i + 1) := by
  unfold hxC
  rw [bc_set]
  congr 1
  have hl : ((hxd 8 n).take i).length = i := by rw [List.length_take, hxd_len]; omega
  rw [List.set_append, if_neg (by omega), hl, Nat.sub_self, List.take_add_one, hxd_at 8 n i hi, show 8 - i = (8 - (i + 1)) + 1 by omega, List.replicate_succ]
  simp
theorem hxC_8 (n : Nat) : hxC n 8 = bc (hxd 8 n) := by
  unfold hxC
  rw [List.take_of_length_le (by rw [hxd_len]; omega)]
  simp
/-- the cells when j digits are laid from the right -/
def fmC (n j : Nat) : List Value := bc (List.replicate (65 - j) 0 ++ hxd j n)
theorem fmC_set {n j : Nat} (hj : j < 65) : (fmC n j).set (64 - j) (.int .u8 ((dig (n / 16 ^ j % 16)).toNat : Int)) = fmC n (j + 1) := by
  unfold fmC
  rw [bc_set]
  congr 1
  rw [show 65 - j = (64 - j) + 1 by omega, List.replicate_succ', List.append_assoc, List.set_append, if_neg (by simp), List.length_replicate, Nat.sub_self]
  rw [show 65 - (j + 1) = 64 - j by omega]
  rfl
theorem fmC_len (n j : Nat) (hj : j ≤ 65) : (fmC n j).length = 65 := by
  unfold fmC bc
  rw [List.length_map, List.length_append, List.length_replicate, hxd_len]
  omega
theorem fmC_parts (n j : Nat) : fmC n j = bc (List.replicate (65 - j) 0) ++ bc (hxd j n) := by
  unfold fmC bc
  rw [List.map_append]
end Go.Proofs.YtapcgokcfmklbaaDoor
