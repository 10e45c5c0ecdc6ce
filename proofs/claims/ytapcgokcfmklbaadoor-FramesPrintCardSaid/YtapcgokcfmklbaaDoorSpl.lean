/-
  The library's pieces, cut, numbers in the calculus: contracts over lists of bytes. Conditions: as each theorem says.
-/
import Derived.Test.YtapcgokcfmklbaaDoorShelf2
import Derived.Test.YtapcgokcfmklbaaDoorLin
import Derived.Test.YtapcgokcfmklbaaDoorWrp
import Derived.Test.YtapcgokcfmklbaaDoorC1
import Derived.Lib.AppendIntMem
import Derived.Lib.SmallJoins
namespace Go.Proofs.YtapcgokcfmklbaaDoor
open Go Go.Proofs Go.RowKit

theorem own_below {W w : World} (h : Below W.heap.size W w) : Own W w [] := ⟨h, by simp, .nil⟩
theorem bs_list (s : ByteArray) : Value.string s = sv s.data.toList := by cases s; simp
theorem pcs_cells (l sep : List UInt8) : (Lib.splitB ⟨sep.toArray⟩ 0 (Lib.countB ⟨l.toArray⟩ ⟨sep.toArray⟩) ⟨l.toArray⟩).map Value.string = (pcs l sep).map sv := by
  have h1 := Lib.splitB_data ⟨sep.toArray⟩ 0 (Lib.countB ⟨l.toArray⟩ ⟨sep.toArray⟩) ⟨l.toArray⟩
  have h2 : Lib.splitK sep 0 (Lib.count l sep) l = pcs l sep := rfl
  have h3 : Lib.countB ⟨l.toArray⟩ ⟨sep.toArray⟩ = Lib.count l sep := rfl
  rw [h3] at h1 ⊢
  rw [← h2]
  have h4 : (Lib.splitB ⟨sep.toArray⟩ 0 (Lib.count l sep) ⟨l.toArray⟩).map (fun s => s.data.toList) = Lib.splitK sep 0 (Lib.count l sep) l := h1
  rw [← h4, List.map_map]
  exact List.map_congr_left fun s _ => bs_list s
theorem pcs_count (l sep : List UInt8) (hs : sep ≠ []) : Lib.countB ⟨l.toArray⟩ ⟨sep.toArray⟩ + 1 = (pcs l sep).length := by
  have h1 := Lib.splitB_all ⟨sep.toArray⟩ (by show 1 ≤ sep.length; have := List.length_pos_iff.2 hs; omega) 0 _ ⟨l.toArray⟩ rfl
  have h2 := congrArg List.length (pcs_cells l sep)
  rw [List.length_map, List.length_map] at h2
  omega
theorem splitC (l sep : List UInt8) (m : Int) (W : World) (hm : W.cell? ⟨1, 0, none⟩ = some (.int .i64 m)) (hl : l.length < 4294967281) (hs : sep ≠ []) :
    Fn_ Tryd.prog 120 #[sv l, sv sep] W (fun v H => ∃ g, v = .slice (some ⟨g, 0, none⟩) (pcs l sep).length (pcs l sep).length ∧ H = [⟨g, 9, (pcs l sep).map sv⟩]) := by
  refine Calls.mono (Tryd.strings_Split ⟨l.toArray⟩ ⟨sep.toArray⟩ m W hl hm (by show 1 ≤ sep.length; have := List.length_pos_iff.2 hs; omega)) ?_
  rintro x w' ⟨rfl, rfl⟩
  rw [pcs_cells, pcs_count l sep hs]
  exact ⟨_, _, rfl, (Own.start W).alloc _ _, _, rfl, rfl⟩
theorem cutC (l sep : List UInt8) (m : Int) (W : World) (hm : W.cell? ⟨1, 0, none⟩ = some (.int .i64 m)) (hl : l.length < 4294967281) :
    Fn_ Tryd.prog 116 #[sv l, sv sep] W (fun v H => v = .tuple #[sv (cutL l sep), sv (cutR l sep), .bool (cutB l sep)] ∧ H = []) := by
  refine Calls.mono (Tryd.strings_Cut ⟨l.toArray⟩ ⟨sep.toArray⟩ m W hl hm) ?_
  rintro x w' ⟨rfl, n, rfl⟩
  exact ⟨_, _, rfl, (Own.start W).drewN n, rfl, rfl⟩
theorem containsC (l : List UInt8) (c : UInt8) (W : World) : Fn_ Tryd.prog 152 #[sv l, sv [c]] W (fun v H => v = .bool (decide (0 ≤ Lib.indexByte l c)) ∧ H = []) := by
  refine Calls.mono (Tryd.strings_Contains_one ⟨l.toArray⟩ c W) ?_
  rintro x w' ⟨rfl, rfl⟩
  exact ⟨_, _, rfl, Own.start _, rfl, rfl⟩
theorem itoaC (n : Int) (W : World) (h0 : -9223372036854775808 ≤ n ∧ n ≤ 9223372036854775807) (ht : Lib.TabIs Tryd.prog W "internal/strconv.uint64pow10" .u64 Lib.pow10Tab) :
    Fn_ Tryd.prog 76 #[iv n] W (fun v H => v = sv (Lib.itoa n) ∧ H = []) := by
  refine Calls.mono (Tryd.strconv_Itoa n h0.1 h0.2 W ht) ?_
  rintro x w' ⟨rfl, k, os, rfl⟩
  exact ⟨_, _, rfl, own_below (Lib.below_grow _ W (Nat.le_refl _) k os), rfl, rfl⟩
theorem atoiT (l : List UInt8) (n : Int) (W : World) (h : Lib.atoiAll l = .ok n) (hl : l.length < 4294967281) :
    Fn_ Tryd.prog 151 #[sv l] W (fun v H => v = .tuple #[iv n, .nilIface] ∧ H = []) := by
  refine Calls.mono (Tryd.strconv_Atoi_ok ⟨l.toArray⟩ (by show l.length ≤ _; omega) n h W) ?_
  rintro x w' ⟨rfl, rfl | ⟨t, rfl⟩⟩
  · exact ⟨_, _, rfl, Own.start _, rfl, rfl⟩
  · exact ⟨_, _, rfl, own_below (Joins.below_bytesWorld _ W 5 t (Nat.le_refl _)), rfl, rfl⟩
theorem atoiF (l : List UInt8) (te3 : TypeId) (pe3 : Value) (te4 : TypeId) (pe4 : Value) (W : World) (h : ∀ n, Lib.atoiAll l ≠ .ok n) (hl : l.length < 4294967281)
    (h3 : W.cell? ⟨3, 0, none⟩ = some (.iface te3 pe3)) (h4 : W.cell? ⟨4, 0, none⟩ = some (.iface te4 pe4)) :
    Fn_ Tryd.prog 151 #[sv l] W (fun v H => ∃ (x : Int) (t : TypeId) (p : Value), v = .tuple #[iv x, .iface t p] ∧ H = []) := by
  rcases hc : Lib.atoiAll l with n | _ | _
  · exact absurd hc (h n)
  · refine Calls.mono (Tryd.strconv_Atoi_syntax ⟨l.toArray⟩ (by show l.length ≤ _; omega) hc _ W h3 (.inr ⟨_, _, rfl⟩)) ?_
    rintro x w' ⟨N, rfl, _, _, hb⟩
    exact ⟨_, _, rfl, own_below hb, _, _, _, rfl, rfl⟩
  · refine Calls.mono (Tryd.strconv_Atoi_range ⟨l.toArray⟩ (by show l.length ≤ _; omega) hc _ W h4 (.inr ⟨_, _, rfl⟩)) ?_
    rintro x w' ⟨N, rfl, _, _, hb⟩
    exact ⟨_, _, rfl, own_below hb, _, _, _, rfl, rfl⟩
theorem ext247 {l : List UInt8} (c : Int) (w : World) : (callFunc 247 [sv l, Value.int .u8 c].toArray).run Tryd.prog w = .ok (.value (iv (Lib.indexByte l c.toNat.toUInt8))) w := by
  rw [run_callFunc_extern Tryd.func247 (by kernel_rfl) (by kernel_rfl) (by kernel_rfl) (e := Extern.BytealgIndexByte.indexByte) (by kernel_rfl)]
  rw [Lib.run_indexByteString]
  rfl
section
variable {P : Program} {W : World} {H : HL} {e : Env} {x : Operand} {t t' ty : TypeId} {d : TypeId} {u : Value}
theorem QO.nilT (h : P.underlying t = some (.interface (P.methodsAt t))) (hx : ev e x = .nilIface) : QO P W H e (.binOp .eql t x (.const .nilIface) t') ty (.bool true) :=
  QO.bin (v := .nilIface) hx rfl (fun w => by rw [eqGuard_nil_constR]; exact run_eql_nil_nil w t h)
theorem QO.nilF (h : P.underlying t = some (.interface (P.methodsAt t))) (hx : ev e x = .iface d u) : QO P W H e (.binOp .eql t x (.const .nilIface) t') ty (.bool false) :=
  QO.bin (v := .nilIface) hx rfl (fun w => by rw [eqGuard_at_iface]; exact run_eql_held_nil w t d u h)
theorem QO.nilNF (h : P.underlying t = some (.interface (P.methodsAt t))) (hx : ev e x = .nilIface) : QO P W H e (.binOp .neq t x (.const .nilIface) t') ty (.bool false) :=
  QO.bin (v := .nilIface) hx rfl (fun w => by rw [eqGuard_nil_constR]; exact run_neq_nil_nil w t h)
theorem QO.shl2 {y : Operand} {k k' : IntKind} {i j : Int} (hx : ev e x = .int k i) (hy : ev e y = .int k' j) (h0 : 0 ≤ j) : QO P W H e (.binOp .shl t x y t') ty (.int k (k.wrap (i * 2 ^ (min j.toNat k.bits)))) := by
  refine QO.bin hx hy (fun w => ?_)
  simp only [Sem.run_bind, eqg_int, Result.andThen_ok]
  have : ¬ j < 0 := by omega
  simp [binOp, Op.shift, this]
theorem meth111 : Tryd.prog.underlying 111 = some (.interface (Tryd.prog.methodsAt 111)) := by kernel_rfl
end
end Go.Proofs.YtapcgokcfmklbaaDoor
